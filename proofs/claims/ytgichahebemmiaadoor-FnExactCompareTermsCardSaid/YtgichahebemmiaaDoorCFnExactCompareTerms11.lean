/- A part of the proof of the law FnExactCompareTerms. -/
import Derived.Laws.StructEq
import Derived.Test.YtgichahebemmiaaDoorCFnExactCompareTerms0
import Derived.Test.YtgichahebemmiaaDoorCFnExactCompareTerms1
import Derived.Test.YtgichahebemmiaaDoorCFnExactCompareTerms2
import Derived.Test.YtgichahebemmiaaDoorCFnExactCompareTerms3
import Derived.Test.YtgichahebemmiaaDoorCFnExactCompareTerms4
import Derived.Test.YtgichahebemmiaaDoorCFnExactCompareTerms5
import Derived.Test.YtgichahebemmiaaDoorCFnExactCompareTerms6
import Derived.Test.YtgichahebemmiaaDoorCFnExactCompareTerms7
import Derived.Test.YtgichahebemmiaaDoorCFnExactCompareTerms8
import Derived.Test.YtgichahebemmiaaDoorCFnExactCompareTerms9
import Derived.Test.YtgichahebemmiaaDoorCFnExactCompareTerms10
set_option linter.unusedVariables false
namespace Go.Proofs.YtgichahebemmiaaDoor.Pure
open Go.RowKit Go.Proofs.YtgichahebemmiaaDoor.P Go.Proofs.YtgichahebemmiaaDoorW.PrintWords Go.Proofs.YtgichahebemmiaaDoorW.PrintLast Go.Proofs.YtgichahebemmiaaDoor.Base
def toI (x : S61) : S65 := ⟨x.f0, x.f1⟩
theorem rdL_get (xs : List S61) (i : Nat) (h : i < xs.length) : rd_T61 xs (i : Int) = xs[i] := by
 simp [rd_T61, List.getD_eq_getElem?_getD, List.getElem?_eq_getElem h]
def FitsL (l : List S61) : Prop := l.length ≤ maxLen ∧ ∀ x ∈ l, x.f0.size ≤ maxLen ∧ (Lit.int .i64 x.f1).wf = true
theorem szSymbolS_l0 (l : List S61) (hl : FitsL l) : ∀ (d i : Nat) (a : Int), i + d = l.length → 0 ≤ a → a ≤ 1048576 →
  ∃ r, Ev (fun k => laws_szSymbolS.l0 k l a (i : Int)) r ∧ (0 ≤ r → r ≤ a) := by
 intro d
 induction d with
 | zero =>
  intro i a hi h0 h1
  refine ⟨a, ev_succ ?_, fun _ => Int.le_refl _⟩
  simp only [laws_szSymbolS.l0]
  exact ev_neg (by omega) (ev_some _)
 | succ d ih =>
  intro i a hi h0 h1
  have hi' : i < l.length := by omega
  have hx := (hl.2 _ (List.getElem_mem hi')).1
  unfold maxLen at hx
  have hm := hl.1
  unfold maxLen at hm
  have hw : wrap64 (a - ((l[i]).f0.size : Int)) = a - ((l[i]).f0.size : Int) := wrap_id (by omega) (by omega)
  by_cases hn : a - ((l[i]).f0.size : Int) < 0
  ·refine ⟨-1, ev_succ ?_, fun h => by omega⟩
   simp only [laws_szSymbolS.l0]
   refine ev_pos (by omega) (ev_pos (by omega) ?_)
   rw [rdL_get l i hi']
   refine ev_bindq (a := -1) ?_ (ev_pos (by omega) (ev_some _))
   unfold laws_szSymbol.f
   rw [hw, if_pos hn]
  ·obtain ⟨r, hr, hle⟩ := ih (i + 1) (a - ((l[i]).f0.size : Int)) (by omega) (by omega) (by omega)
   refine ⟨r, ev_succ ?_, fun h => by have := hle h; omega⟩
   simp only [laws_szSymbolS.l0]
   refine ev_pos (by omega) (ev_pos (by omega) ?_)
   rw [rdL_get l i hi', wrap_up (by omega)]
   refine ev_bindq (a := a - ((l[i]).f0.size : Int)) ?_ (ev_neg hn hr)
   unfold laws_szSymbol.f
   rw [hw, if_neg hn]
theorem szSignature_ev (l : List S61) (hl : FitsL l) (a : Int) (h0 : 0 ≤ a) (h1 : a ≤ 1048576) :
  ∃ r, Ev (fun k => laws_szSignature.f k l a) r ∧ (¬ r < 0 → (l.length : Int) ≤ a ∧ r ≤ a) := by
 have hm := hl.1
 unfold maxLen at hm
 have hw : wrap64 (a - (l.length : Int)) = a - (l.length : Int) := wrap_id (by omega) (by omega)
 by_cases hn : a - (l.length : Int) < 0
 ·refine ⟨-1, ?_, fun h => by omega⟩
  unfold laws_szSignature.f
  refine ev_bind (a := -1) ?_ (ev_pos (by omega) (ev_some _))
  unfold laws_szSymbolS.f
  rw [hw]
  exact ev_pos hn (ev_some _)
 ·obtain ⟨r, hr, hle⟩ := szSymbolS_l0 l hl l.length 0 (a - (l.length : Int)) (by omega) (by omega) (by omega)
  have hs : Ev (fun k => laws_szSymbolS.f k l a) r := by
   unfold laws_szSymbolS.f
   rw [hw]
   exact ev_neg hn hr
  by_cases hr0 : r < 0
  ·refine ⟨-1, ?_, fun h => by omega⟩
   unfold laws_szSignature.f
   exact ev_bind hs (ev_pos hr0 (ev_some _))
  ·refine ⟨r, ?_, fun h => ?_⟩
   ·unfold laws_szSignature.f
    exact ev_bind hs (ev_neg hr0 (ev_some _))
   ·have := hle (by omega)
    omega
theorem toSymbolS_l0 (l : List S61) (hl : l.length ≤ 1048576) : ∀ (d i : Nat), i + d = l.length → Ev (fun k => laws_toSymbolS.l0 k l (cpart z65 (l.map toI) i) (i : Int)) (l.map toI) := by
 intro d
 induction d with
 | zero =>
  intro i hi
  refine ev_succ ?_
  simp only [laws_toSymbolS.l0]
  refine ev_neg (by omega) ?_
  have e : i = (l.map toI).length := by rw [List.length_map]; omega
  rw [e, cpart_end]
  exact ev_some _
 | succ d ih =>
  intro i hi
  have hi' : i < l.length := by omega
  refine ev_succ ?_
  simp only [laws_toSymbolS.l0]
  refine ev_pos (by omega) (ev_pos (by omega) ?_)
  unfold laws_toSymbol.f
  refine ev_bindq rfl (ev_pos (by rw [cpart_length _ _ _ (by rw [List.length_map]; omega), List.length_map]; omega) ?_)
  rw [rdL_get l i hi', wrap_up (by omega), Int.toNat_natCast, cpart_set z65 (l.map toI) i (by rw [List.length_map]; omega) (⟨(l[i]).f0, (l[i]).f1⟩ : S65) (by rw [List.getElem?_map, List.getElem?_eq_getElem hi']; rfl)]
  exact ih (i + 1) (by omega)
theorem toSignature_ev (l : List S61) (hl : l.length ≤ 1048576) : Ev (fun k => laws_toSignature.f k l) (l.map toI) := by
 unfold laws_toSignature.f
 refine ev_bind (a := l.map toI) ?_ (ev_some _)
 unfold laws_toSymbolS.f
 refine ev_pos (by omega) (ev_pos (by omega) ?_)
 have := toSymbolS_l0 l hl l.length 0 (by omega)
 rw [cpart_zero, List.length_map] at this
 rw [Int.toNat_natCast]
 exact this
theorem eqSymbolS_l0 (a : List S65) (hl : a.length ≤ 9223372036854775807) : ∀ (d i : Nat), i + d = a.length → Ev (fun k => laws_eqSymbolS.l0 k a a (i : Int)) true := by
 intro d
 induction d with
 | zero =>
  intro i hi
  refine ev_succ ?_
  simp only [laws_eqSymbolS.l0]
  exact ev_neg (by omega) (ev_some _)
 | succ d ih =>
  intro i hi
  refine ev_succ ?_
  simp only [laws_eqSymbolS.l0]
  refine ev_pos (by omega) (ev_pos (by omega) (ev_pos (by omega) (ev_bindq (a := true) ?_ (ev_pos rfl ?_))))
  ·unfold laws_eqSymbol.f
   rw [if_pos rfl, if_pos rfl]
  ·rw [wrap_up (by omega)]
   exact ih (i + 1) (by omega)
theorem eqSignature_ev (a : List S65) (hl : a.length ≤ 9223372036854775807) : Ev (fun k => laws_eqSignature.f k a a) true := by
 unfold laws_eqSignature.f
 refine ev_bind (a := true) ?_ (ev_pos rfl (ev_some _))
 unfold laws_eqSymbolS.f
 exact ev_pos rfl (eqSymbolS_l0 a hl a.length 0 (by omega))
end Go.Proofs.YtgichahebemmiaaDoor.Pure
set_option linter.unusedVariables false
namespace Go.Proofs.YtgichahebemmiaaDoor.Pure
open Go.RowKit Go.Proofs.YtgichahebemmiaaDoor.P Go.Proofs.YtgichahebemmiaaDoorW.PrintWords Go.Proofs.YtgichahebemmiaaDoorW.PrintLast Go.Proofs.YtgichahebemmiaaDoor.Base
theorem bt_get (s : ByteArray) (i : Nat) (h : i < s.data.toList.length) : bt s (i : Int) = ((s.data.toList[i]).toNat : Int) := by
 have hs : i < s.size := by rw [Lib.size_eq]; exact h
 unfold bt
 rw [dif_pos (by simpa using hs)]
 rfl
theorem l2Name_l0 (s : ByteArray) (hl : s.size ≤ 3) : ∀ (d i : Nat), i + d = s.size → Ev (fun k => spec_l2Name.l0 k s (i : Int)) ((s.data.toList.drop i).all letterB) := by
 have hz := Lib.size_eq s
 intro d
 induction d with
 | zero =>
  intro i hi
  refine ev_succ ?_
  simp only [spec_l2Name.l0]
  refine ev_neg (by omega) (ev_to (ev_some _) ?_)
  rw [List.drop_eq_nil_of_le (by omega)]; rfl
 | succ d ih =>
  intro i hi
  have hi' : i < s.data.toList.length := by omega
  refine ev_succ ?_
  simp only [spec_l2Name.l0]
  refine ev_pos (by omega) (ev_pos (by omega) ?_)
  rw [bt_get s i hi', List.drop_eq_getElem_cons hi', wrap_up (by omega)]
  generalize s.data.toList[i] = b
  by_cases h1 : (b.toNat : Int) < 97
  ·refine ev_pos h1 (ev_to (ev_some _) ?_)
   have : letterB b = false := by unfold letterB; simp; omega
   simp [this]
  refine ev_neg h1 ?_
  by_cases h2 : (b.toNat : Int) > 122
  ·refine ev_pos h2 (ev_to (ev_some _) ?_)
   have : letterB b = false := by unfold letterB; simp; omega
   simp [this]
  refine ev_neg h2 (ev_to (ih (i + 1) (by omega)) ?_)
  have : letterB b = true := by unfold letterB; simp; omega
  simp [this]
theorem l2Name_ev (s : ByteArray) : Ev (fun k => spec_l2Name.f k s) (nameB s) := by
 unfold spec_l2Name.f nameB
 by_cases h1 : (s.size : Int) < 1
 ·refine ev_pos h1 (ev_succ ?_)
  simp only [spec_l2Name.j0]
  exact ev_pos (by simp) (ev_to (ev_some _) (by simp; omega))
 refine ev_neg h1 (ev_succ ?_)
 simp only [spec_l2Name.j0]
 by_cases h2 : (s.size : Int) > 3
 ·exact ev_pos (by simpa using h2) (ev_to (ev_some _) (by simp; omega))
 refine ev_neg (by simpa using h2) (ev_to (l2Name_l0 s (by omega) s.size 0 (by omega)) ?_)
 have : decide (1 ≤ s.size ∧ s.size ≤ 3) = true := by simp; omega
 rw [this]; rfl
theorem isName_eq (s : ByteArray) : impl_isName.f s = some (nameB s) := by
 unfold impl_isName.f nameB
 by_cases h1 : (s.size : Int) ≥ 1
 ·rw [if_pos h1]
  by_cases h2 : (s.size : Int) ≤ 3
  ·rw [if_pos h2]
   have ht : strings_Trim.f s abc = some ⟨(Lib.trimS s.data.toList abc.data.toList).toArray⟩ := by
    unfold strings_Trim.f
    exact if_pos ⟨by omega, by decide, by decide +kernel⟩
   refine bind_eq ht ?_
   have : decide (1 ≤ s.size ∧ s.size ≤ 3) = true := by simp; omega
   rw [this, Lib.toList_data]
   simp only [Bool.true_and]
   rw [← trim_abc]
  ·rw [if_neg h2]
   have : decide (1 ≤ s.size ∧ s.size ≤ 3) = false := by simp; omega
   rw [this]; rfl
 ·rw [if_neg h1]
  have : decide (1 ≤ s.size ∧ s.size ≤ 3) = false := by simp; omega
  rw [this]; rfl
def nameAt (l : List S65) (i : Nat) : List UInt8 := (rd_T65 l (i : Int)).f0.toList
def symFault (l : List S65) (i : Nat) : Option Int :=
 if nameB (rd_T65 l (i : Int)).f0 = true then (if 0 ≤ (rd_T65 l (i : Int)).f1 ∧ (rd_T65 l (i : Int)).f1 ≤ 2 then none else some 3) else some 5
def dupB (l : List S65) (i : Nat) : Bool := (firstN (fun j => nameAt l i == nameAt l j) i 0).isSome
def dupFault (l : List S65) (i : Nat) : Option Int := if dupB l i = true then some 6 else none
def zeroB (l : List S65) : Bool := (firstN (fun j => (rd_T65 l (j : Int)).f1 == 0) l.length 0).isSome
def sigF (l : List S65) : Int :=
 if l.length < 1 ∨ l.length > 6 then 2 else scanN (symFault l) (scanN (dupFault l) (if zeroB l = true then 0 else 4) l.length 0) l.length 0
theorem within_eq (a b c : Int) : impl_within.f a b c = some (decide (b ≤ a ∧ a ≤ c)) := by
 unfold impl_within.f
 by_cases h : a ≥ b
 ·rw [if_pos h]
  by_cases h' : a ≤ c
  ·simp [h']; omega
  ·simp [h']
 ·rw [if_neg h]
  simp; omega
theorem l1In_eq (a b c : Int) : spec_l1In.f a b c = some (decide (b ≤ a ∧ a ≤ c)) := by
 unfold spec_l1In.f
 by_cases h : a ≥ b
 ·rw [if_pos h]
  by_cases h' : a ≤ c
  ·simp [h']; omega
  ·simp [h']
 ·rw [if_neg h]
  simp; omega
theorem Sig_l3 (l : List S65) (hl : l.length ≤ 6) : Ev (fun k => spec_SignatureFault.l3 k (l.length : Int) 0 l) (if zeroB l = true then 0 else 4) := by
 have h := loop_scan l.length (fun j => if ((rd_T65 l (j : Int)).f1 == 0) = true then some 0 else none) 4 (fun k i => spec_SignatureFault.l3 k (l.length : Int) i l)
  (by simp only [spec_SignatureFault.l3]; exact ev_neg (by omega) (ev_some _))
  (fun i hi r hr => by
   simp only [spec_SignatureFault.l3]
   refine ev_pos (by omega) (ev_pos (by omega) (ev_pos (by omega) ?_))
   rw [wrap_up (by omega)]
   by_cases h : (rd_T65 l (i : Int)).f1 = 0
   ·refine ev_pos h (ev_to (ev_some _) (by simp [h]))
   ·refine ev_neg h (ev_to hr (by simp [h])))
  l.length 0 (by omega)
 refine ev_to h ?_
 rw [scanN_first (fun j => (rd_T65 l (j : Int)).f1 == 0) (fun _ => (0 : Int)) 4]
 unfold zeroB
 cases firstN (fun j => (rd_T65 l (j : Int)).f1 == 0) l.length 0 <;> rfl
theorem Sig_l2 (l : List S65) (hl : l.length ≤ 6) (i : Nat) (hi : i < l.length) (r : Int) (hr : Ev (fun k => spec_SignatureFault.l1 k (l.length : Int) ((i + 1 : Nat) : Int) l) r) :
  Ev (fun k => spec_SignatureFault.l2 k (l.length : Int) (i : Int) 0 l) ((dupFault l i).getD r) := by
 have h := loop_scan i (fun j => if (nameAt l i == nameAt l j) = true then some 6 else none) r (fun k j => spec_SignatureFault.l2 k (l.length : Int) (i : Int) j l)
  (by simp only [spec_SignatureFault.l2]; refine ev_neg (by omega) ?_; rw [wrap_up (by omega)]; exact hr)
  (fun j hj r hr => by
   simp only [spec_SignatureFault.l2]
   refine ev_pos (by omega) (ev_pos (by omega) (ev_pos (by omega) (ev_pos (by omega) (ev_pos (by omega) ?_))))
   rw [wrap_up (by omega)]
   by_cases h : nameAt l i = nameAt l j
   ·refine ev_pos h (ev_to (ev_some _) (by simp [h]))
   ·refine ev_neg h (ev_to hr (by simp [h])))
  i 0 (by omega)
 refine ev_to h ?_
 rw [scanN_first (fun j => nameAt l i == nameAt l j) (fun _ => (6 : Int)) r]
 unfold dupFault dupB
 cases firstN (fun j => nameAt l i == nameAt l j) i 0 <;> rfl
theorem Sig_l1 (l : List S65) (hl : l.length ≤ 6) : Ev (fun k => spec_SignatureFault.l1 k (l.length : Int) 0 l) (scanN (dupFault l) (if zeroB l = true then 0 else 4) l.length 0) :=
 loop_scan l.length (dupFault l) (if zeroB l = true then 0 else 4) (fun k i => spec_SignatureFault.l1 k (l.length : Int) i l)
  (by simp only [spec_SignatureFault.l1]; exact ev_neg (by omega) (Sig_l3 l hl))
  (fun i hi r hr => by
   simp only [spec_SignatureFault.l1]
   exact ev_pos (by omega) (Sig_l2 l hl i hi r hr))
  l.length 0 (by omega)
theorem Sig_l0 (l : List S65) (hl : l.length ≤ 6) : Ev (fun k => spec_SignatureFault.l0 k (l.length : Int) 0 l) (scanN (symFault l) (scanN (dupFault l) (if zeroB l = true then 0 else 4) l.length 0) l.length 0) :=
 loop_scan l.length (symFault l) _ (fun k i => spec_SignatureFault.l0 k (l.length : Int) i l)
  (by simp only [spec_SignatureFault.l0]; exact ev_neg (by omega) (Sig_l1 l hl))
  (fun i hi r hr => by
   simp only [spec_SignatureFault.l0]
   refine ev_pos (by omega) (ev_pos (by omega) (ev_pos (by omega) (ev_bind (l2Name_ev _) ?_)))
   unfold symFault
   by_cases h : nameB (rd_T65 l (i : Int)).f0 = true
   ·refine ev_pos h (ev_bindq (l1In_eq _ _ _) ?_)
    rw [if_pos h, wrap_up (by omega)]
    by_cases h' : 0 ≤ (rd_T65 l (i : Int)).f1 ∧ (rd_T65 l (i : Int)).f1 ≤ 2
    ·rw [if_pos h']
     exact ev_pos (by simpa using h') hr
    ·rw [if_neg h']
     exact ev_neg (by simpa using h') (ev_some _)
   ·rw [if_neg h]
    exact ev_neg h (ev_some _))
  l.length 0 (by omega)
theorem SignatureFault_spec (l : List S65) : Ev (fun k => spec_SignatureFault.f k l) (sigF l) := by
 unfold spec_SignatureFault.f sigF
 by_cases h1 : (l.length : Int) < 1
 ·rw [if_pos (.inl (by omega))]
  refine ev_pos h1 (ev_succ ?_)
  simp only [spec_SignatureFault.j0]
  exact ev_pos (by simp) (ev_some _)
 refine ev_neg h1 (ev_succ ?_)
 simp only [spec_SignatureFault.j0]
 by_cases h2 : (l.length : Int) > 6
 ·rw [if_pos (.inr (by omega))]
  exact ev_pos (by simpa using h2) (ev_some _)
 ·rw [if_neg (by omega)]
  exact ev_neg (by simpa using h2) (Sig_l0 l (by omega))
theorem symbolIndex_ev (l : List S65) (hl : l.length ≤ 1048576) (s : ByteArray) : Ev (fun k => impl_symbolIndex.f k l s) (placeN (fun j => nameAt l j == s.toList) l.length) := by
 unfold impl_symbolIndex.f
 refine ev_bind (a := placeN (fun j => nameAt l j == s.toList) l.length) ?_ (ev_some _)
 unfold slices_IndexFunc_impl_Symbol_impl_Symbol_impl_symbolIndex_1.f
 have h := loop_scan l.length (fun j => if (nameAt l j == s.toList) = true then some (j : Int) else none) (-1) (fun k i => slices_IndexFunc_impl_Symbol_impl_Symbol_impl_symbolIndex_1.l0 k l (l.length : Int) i [s])
  (by simp only [slices_IndexFunc_impl_Symbol_impl_Symbol_impl_symbolIndex_1.l0]; exact ev_neg (by omega) (ev_some _))
  (fun i hi r hr => by
   simp only [slices_IndexFunc_impl_Symbol_impl_Symbol_impl_symbolIndex_1.l0]
   refine ev_pos (by omega) (ev_pos (by omega) (ev_pos (by omega) (ev_bindq (a := nameAt l i == s.toList) ?_ ?_)))
   ·unfold impl_symbolIndex_1_with.f
    rw [if_pos (by simp)]
    rfl
   ·rw [wrap_up (by omega)]
    by_cases h : (nameAt l i == s.toList) = true
    ·rw [if_pos h]; exact ev_pos h (ev_some _)
    ·rw [if_neg h]; exact ev_neg h hr)
  l.length 0 (by omega)
 rw [scanN_place (fun j => nameAt l j == s.toList)] at h
 exact h
theorem dup_place (l : List S65) (i : Nat) (hi : i < l.length) : placeN (fun j => nameAt l j == (rd_T65 l (i : Int)).f0.toList) l.length = (i : Int) ↔ dupB l i = false := by
 unfold dupB
 have hn : (firstN (fun j => nameAt l i == nameAt l j) i 0).isSome = false ↔ ∀ j, j < i → (nameAt l i == nameAt l j) = false := by
  rw [Option.isSome_eq_false_iff, Option.isNone_iff_eq_none, firstN_none]
  exact ⟨fun h j hj => h j (by omega) (by omega), fun h j _ hj => h j (by omega)⟩
 rw [hn]
 rcases placeN_cases (fun j => nameAt l j == (rd_T65 l (i : Int)).f0.toList) l.length with ⟨h1, h2⟩ | ⟨j, hj, h1, h2, h3⟩
 ·have := h2 i hi
  simp [nameAt] at this
 ·rw [h1]
  constructor
  ·intro e
   obtain rfl : j = i := by omega
   intro m hm
   have := h3 m hm
   simp only [beq_eq_false_iff_ne, ne_eq] at this ⊢
   exact fun e => this e.symm
  ·intro h
   have hji : ¬ j < i := fun hlt => by
    have := h j hlt
    simp only [beq_eq_false_iff_ne, ne_eq] at this
    exact this (by simpa [nameAt] using (eq_comm.1 (beq_iff_eq.1 h2)))
   have hij : ¬ i < j := fun hlt => by
    have := h3 i hlt
    simp [nameAt] at this
   omega
theorem ISig_last (l : List S65) (hl : l.length ≤ 6) : Ev (fun k => slices_ContainsFunc_impl_Symbol_impl_Symbol_impl_SignatureFault_1.f k l) (zeroB l) := by
 unfold slices_ContainsFunc_impl_Symbol_impl_Symbol_impl_SignatureFault_1.f slices_IndexFunc_impl_Symbol_impl_Symbol_impl_SignatureFault_1.f
 have h := loop_scan l.length (fun j => if ((rd_T65 l (j : Int)).f1 == 0) = true then some (j : Int) else none) (-1) (fun k i => slices_IndexFunc_impl_Symbol_impl_Symbol_impl_SignatureFault_1.l0 k l (l.length : Int) i)
  (by simp only [slices_IndexFunc_impl_Symbol_impl_Symbol_impl_SignatureFault_1.l0]; exact ev_neg (by omega) (ev_some _))
  (fun i hi r hr => by
   simp only [slices_IndexFunc_impl_Symbol_impl_Symbol_impl_SignatureFault_1.l0]
   refine ev_pos (by omega) (ev_pos (by omega) (ev_pos (by omega) (ev_bindq rfl ?_)))
   rw [wrap_up (by omega)]
   by_cases h : ((rd_T65 l (i : Int)).f1 == 0) = true
   ·rw [if_pos h]; exact ev_pos h (ev_some _)
   ·rw [if_neg h]; exact ev_neg h hr)
  l.length 0 (by omega)
 rw [scanN_first (fun j => (rd_T65 l (j : Int)).f1 == 0) (fun j => (j : Int)) (-1)] at h
 refine ev_bind h (ev_to (ev_some _) ?_)
 unfold zeroB
 cases firstN (fun j => (rd_T65 l (j : Int)).f1 == 0) l.length 0 with
 | none => rfl
 | some j => simp
theorem ISig_l1 (l : List S65) (hl : l.length ≤ 6) : Ev (fun k => impl_SignatureFault.l1 k l (l.length : Int) 0 l) (scanN (dupFault l) (if zeroB l = true then 0 else 4) l.length 0) :=
 loop_scan l.length (dupFault l) (if zeroB l = true then 0 else 4) (fun k i => impl_SignatureFault.l1 k l (l.length : Int) i l)
  (by
   simp only [impl_SignatureFault.l1]
   refine ev_neg (by omega) (ev_bind (ISig_last l hl) ?_)
   by_cases h : zeroB l = true
   ·exact ev_to (ev_pos h (ev_some _)) (if_pos h).symm
   ·exact ev_to (ev_neg h (ev_some _)) (if_neg h).symm)
  (fun i hi r hr => by
   simp only [impl_SignatureFault.l1]
   refine ev_pos (by omega) (ev_pos (by omega) (ev_pos (by omega) (ev_bind (symbolIndex_ev l (by omega) _) ?_)))
   have hd := dup_place l i hi
   rw [wrap_up (by omega)]
   unfold dupFault
   by_cases h : dupB l i = true
   ·rw [if_pos h]
    exact ev_neg (fun e => by rw [hd.1 e] at h; cases h) (ev_some _)
   ·rw [if_neg h]
    exact ev_pos (hd.2 (Bool.eq_false_iff.2 h)) hr)
  l.length 0 (by omega)
theorem SignatureFault_impl (l : List S65) : Ev (fun k => impl_SignatureFault.f k l) (sigF l) := by
 unfold impl_SignatureFault.f sigF
 by_cases h1 : (l.length : Int) < 1
 ·rw [if_pos (.inl (by omega))]
  refine ev_pos h1 (ev_succ ?_)
  simp only [impl_SignatureFault.j0]
  exact ev_pos (by simp) (ev_some _)
 refine ev_neg h1 (ev_succ ?_)
 simp only [impl_SignatureFault.j0]
 by_cases h2 : (l.length : Int) > 6
 ·rw [if_pos (.inr (by omega))]
  exact ev_pos (by simpa using h2) (ev_some _)
 rw [if_neg (by omega)]
 refine ev_neg (by simpa using h2) ?_
 exact loop_scan l.length (symFault l) _ (fun k i => impl_SignatureFault.l0 k l (l.length : Int) i l)
  (by simp only [impl_SignatureFault.l0]; exact ev_neg (by omega) (ISig_l1 l (by omega)))
  (fun i hi r hr => by
   simp only [impl_SignatureFault.l0]
   refine ev_pos (by omega) (ev_pos (by omega) (ev_pos (by omega) (ev_bindq (isName_eq _) ?_)))
   unfold symFault
   by_cases h : nameB (rd_T65 l (i : Int)).f0 = true
   ·refine ev_pos h (ev_bindq (within_eq _ _ _) ?_)
    rw [if_pos h, wrap_up (by omega)]
    by_cases h' : 0 ≤ (rd_T65 l (i : Int)).f1 ∧ (rd_T65 l (i : Int)).f1 ≤ 2
    ·rw [if_pos h']
     exact ev_pos (by simpa using h') hr
    ·rw [if_neg h']
     exact ev_neg (by simpa using h') (ev_some _)
   ·rw [if_neg h]
    exact ev_neg h (ev_some _))
  l.length 0 (by omega)
structure Right (l : List S65) : Prop where
 len : 1 ≤ l.length ∧ l.length ≤ 6
 names : ∀ i, i < l.length → nameB (rd_T65 l (i : Int)).f0 = true
 arities : ∀ i, i < l.length → 0 ≤ (rd_T65 l (i : Int)).f1 ∧ (rd_T65 l (i : Int)).f1 ≤ 2
 apart : ∀ i, i < l.length → dupB l i = false
theorem right_of (l : List S65) (h : sigF l = 0) : Right l := by
 unfold sigF at h
 by_cases h1 : l.length < 1 ∨ l.length > 6
 ·rw [if_pos h1] at h; omega
 rw [if_neg h1] at h
 have hlen : 1 ≤ l.length ∧ l.length ≤ 6 := by omega
 rcases scanN_cases (symFault l) (scanN (dupFault l) (if zeroB l = true then 0 else 4) l.length 0) l.length 0 with ⟨h2, h3⟩ | ⟨j, _, _, h3⟩
 ·rw [h3] at h
  rcases scanN_cases (dupFault l) (if zeroB l = true then 0 else 4) l.length 0 with ⟨h4, h5⟩ | ⟨j, _, _, h5⟩
  ·refine ⟨hlen, fun i hi => ?_, fun i hi => ?_, fun i hi => ?_⟩
   ·have := h2 i (by omega) (by omega)
    unfold symFault at this
    by_cases hn : nameB (rd_T65 l (i : Int)).f0 = true
    ·exact hn
    ·rw [if_neg hn] at this; cases this
   ·have := h2 i (by omega) (by omega)
    unfold symFault at this
    by_cases hn : nameB (rd_T65 l (i : Int)).f0 = true
    ·rw [if_pos hn] at this
     by_cases ha : 0 ≤ (rd_T65 l (i : Int)).f1 ∧ (rd_T65 l (i : Int)).f1 ≤ 2
     ·exact ha
     ·rw [if_neg ha] at this; cases this
    ·rw [if_neg hn] at this; cases this
   ·have := h4 i (by omega) (by omega)
    unfold dupFault at this
    by_cases hd : dupB l i = true
    ·rw [if_pos hd] at this; cases this
    ·exact Bool.eq_false_iff.2 hd
  ·rw [h] at h5
   unfold dupFault at h5
   by_cases hd : dupB l j = true
   ·rw [if_pos hd] at h5; cases h5
   ·rw [if_neg hd] at h5; cases h5
 ·rw [h] at h3
  unfold symFault at h3
  by_cases hn : nameB (rd_T65 l (j : Int)).f0 = true
  ·rw [if_pos hn] at h3
   by_cases ha : 0 ≤ (rd_T65 l (j : Int)).f1 ∧ (rd_T65 l (j : Int)).f1 ≤ 2
   ·rw [if_pos ha] at h3; cases h3
   ·rw [if_neg ha] at h3; cases h3
  ·rw [if_neg hn] at h3; cases h3
end Go.Proofs.YtgichahebemmiaaDoor.Pure
set_option linter.unusedVariables false
namespace Go.Proofs.YtgichahebemmiaaDoor.Pure
open Go.RowKit Go.Proofs.YtgichahebemmiaaDoor.P Go.Proofs.YtgichahebemmiaaDoorW.PrintWords Go.Proofs.YtgichahebemmiaaDoorW.PrintLast Go.Proofs.YtgichahebemmiaaDoor.Base
def symB (l : List S65) (n : Int) : Bool := decide (0 ≤ n ∧ n ≤ (l.length : Int) - 1)
theorem l2Symbol_eq (l : List S65) (hl : l.length ≤ 1048576) (n : Int) : spec_l2Symbol.f [(⟨l⟩ : S32)] n = some (symB l n) := by
 unfold spec_l2Symbol.f
 rw [if_pos (by simp)]
 show (spec_l1In.f n 0 (wrap64 ((l.length : Int) - 1))).bind _ = _
 rw [l1In_eq, wrap_id (by omega) (by omega)]
 rfl
theorem isSymbol_eq (l : List S65) (hl : l.length ≤ 1048576) (n : Int) : impl_isSymbol.f l n = some (symB l n) := by
 unfold impl_isSymbol.f
 rw [within_eq, wrap_id (by omega) (by omega)]
 rfl
theorem symB_true {l : List S65} {n : Int} (h : symB l n = true) : 0 ≤ n ∧ n < (l.length : Int) := by
 unfold symB at h
 have := of_decide_eq_true h
 omega
end Go.Proofs.YtgichahebemmiaaDoor.Pure
set_option linter.unusedVariables false
namespace Go.Proofs.YtgichahebemmiaaDoor.Pure
open Go.RowKit Go.Proofs.YtgichahebemmiaaDoor.P Go.Proofs.YtgichahebemmiaaDoorW.PrintWords Go.Proofs.YtgichahebemmiaaDoorW.PrintLast Go.Proofs.YtgichahebemmiaaDoor.Base
theorem slicesIndex_ev (o : List Int) (ho : o.length ≤ 9000000000000000000) (v : Int) : Ev (fun k => slices_Index_int64_int64.f k o v) (placeN (fun j => v == rd o (j : Int)) o.length) := by
 unfold slices_Index_int64_int64.f
 have h := loop_scan o.length (fun j => if (v == rd o (j : Int)) = true then some (j : Int) else none) (-1) (fun k i => slices_Index_int64_int64.l0 k o v (o.length : Int) i)
  (by simp only [slices_Index_int64_int64.l0]; exact ev_neg (by omega) (ev_some _))
  (fun i hi r hr => by
   simp only [slices_Index_int64_int64.l0]
   refine ev_pos (by omega) (ev_pos (by omega) (ev_pos (by omega) ?_))
   rw [wrap_up (by omega)]
   by_cases h : v = rd o (i : Int)
   ·exact ev_pos h (ev_to (ev_some _) (by simp [h]))
   ·exact ev_neg h (ev_to hr (by simp [h])))
  o.length 0 (by omega)
 rw [scanN_place (fun j => v == rd o (j : Int))] at h
 exact h
theorem slicesContains_ev (o : List Int) (ho : o.length ≤ 9000000000000000000) (v : Int) : Ev (fun k => slices_Contains_int64_int64.f k o v) (firstN (fun j => v == rd o (j : Int)) o.length 0).isSome := by
 unfold slices_Contains_int64_int64.f
 refine ev_bind (slicesIndex_ev o ho v) (ev_to (ev_some _) ?_)
 unfold placeN
 cases firstN (fun j => v == rd o (j : Int)) o.length 0 with
 | none => rfl
 | some j => simp
theorem scanN_const {R : Type} (p : Nat → Bool) (c e : R) (d i : Nat) : scanN (fun j => if p j = true then some c else none) e d i = if (firstN p d i).isSome = true then c else e := by
 rw [scanN_first p (fun _ => c) e]
 cases firstN p d i <;> rfl
theorem firstN_congr {p q : Nat → Bool} : ∀ (d i : Nat), (∀ j, i ≤ j → j < i + d → p j = q j) → firstN p d i = firstN q d i
 | 0, _, _ => rfl
 | d + 1, i, h => by
  rw [firstN, firstN, h i (by omega) (by omega), firstN_congr d (i + 1) (fun j h1 h2 => h j (by omega) (by omega))]
def odupB (o : List Int) (i : Nat) : Bool := (firstN (fun j => rd o (i : Int) == rd o (j : Int)) i 0).isSome
def odupFault (o : List Int) (i : Nat) : Option Int := if odupB o i = true then some 6 else none
def ordG (l : List S65) (o : List Int) : Int :=
 if o.length = l.length then (if (firstN (fun j => !symB l (rd o (j : Int))) o.length 0).isSome = true then 3 else scanN (odupFault o) 0 o.length 0) else 2
def ordF (l : List S65) (o : List Int) : Int := if sigF l = 0 then ordG l o else sigF l
theorem Order_l2 (o : List Int) (ho : o.length ≤ 1048576) (i : Nat) (hi : i < o.length) (r : Int) (hr : Ev (fun k => spec_l2Order.l1 k o ((i + 1 : Nat) : Int)) r) : Ev (fun k => spec_l2Order.l2 k o (i : Int) 0) ((odupFault o i).getD r) := by
 have h := loop_scan i (fun j => if (rd o (i : Int) == rd o (j : Int)) = true then some 6 else none) r (fun k j => spec_l2Order.l2 k o (i : Int) j)
  (by simp only [spec_l2Order.l2]; refine ev_neg (by omega) ?_; rw [wrap_up (by omega)]; exact hr)
  (fun j hj r hr => by
   simp only [spec_l2Order.l2]
   refine ev_pos (by omega) (ev_pos (by omega) (ev_pos (by omega) (ev_pos (by omega) (ev_pos (by omega) ?_))))
   rw [wrap_up (by omega)]
   by_cases h : rd o (i : Int) = rd o (j : Int)
   ·exact ev_pos h (ev_to (ev_some _) (by simp [h]))
   ·exact ev_neg h (ev_to hr (by simp [h])))
  i 0 (by omega)
 refine ev_to h ?_
 rw [scanN_const (fun j => rd o (i : Int) == rd o (j : Int)) 6 r]
 unfold odupFault odupB
 cases (firstN (fun j => rd o (i : Int) == rd o (j : Int)) i 0).isSome <;> rfl
theorem Order_l1 (o : List Int) (ho : o.length ≤ 1048576) : Ev (fun k => spec_l2Order.l1 k o 0) (scanN (odupFault o) 0 o.length 0) :=
 loop_scan o.length (odupFault o) 0 (fun k i => spec_l2Order.l1 k o i)
  (by simp only [spec_l2Order.l1]; exact ev_neg (by omega) (ev_some _))
  (fun i hi r hr => by
   simp only [spec_l2Order.l1]
   exact ev_pos (by omega) (Order_l2 o ho i hi r hr))
  o.length 0 (by omega)
theorem l2Order_ev (l : List S65) (hl : l.length ≤ 6) (o : List Int) (ho : o.length ≤ 1048576) : Ev (fun k => spec_l2Order.f k [(⟨l⟩ : S32)] o) (ordG l o) := by
 unfold spec_l2Order.f ordG
 have e : (rd_T32 [(⟨l⟩ : S32)] 0).f0 = l := rfl
 simp only [e]
 refine ev_pos (by simp) ?_
 by_cases hlen : o.length = l.length
 ·rw [if_pos hlen]
  refine ev_pos (by omega) ?_
  have h := loop_scan o.length (fun j => if (!symB l (rd o (j : Int))) = true then some 3 else none) (scanN (odupFault o) 0 o.length 0) (fun k i => spec_l2Order.l0 k [(⟨l⟩ : S32)] o i)
   (by simp only [spec_l2Order.l0]; exact ev_neg (by omega) (Order_l1 o ho))
   (fun i hi r hr => by
    simp only [spec_l2Order.l0]
    refine ev_pos (by omega) (ev_pos (by omega) (ev_bindq (l2Symbol_eq l (by omega) _) ?_))
    rw [wrap_up (by omega)]
    by_cases h : symB l (rd o (i : Int)) = true
    ·exact ev_pos h (ev_to hr (by simp [h]))
    ·exact ev_neg h (ev_to (ev_some _) (by simp [h])))
   o.length 0 (by omega)
  rw [scanN_const (fun j => !symB l (rd o (j : Int))) 3] at h
  exact h
 ·rw [if_neg hlen]
  exact ev_neg (by omega) (ev_some _)
theorem OrderFault_spec (l : List S65) (o : List Int) (ho : o.length ≤ 1048576) : Ev (fun k => spec_OrderFault.f k l o) (ordF l o) := by
 unfold spec_OrderFault.f ordF
 refine ev_bind (SignatureFault_spec l) (ev_ite (fun h => ?_) (fun h => ev_some _))
 have hl := (right_of l h).len
 exact ev_bind (l2Order_ev l (by omega) o ho) (ev_some _)
theorem Order_notSym (l : List S65) (hl : l.length ≤ 6) (o : List Int) (ho : o.length ≤ 1048576) :
  Ev (fun k => slices_ContainsFunc_int64_int64_impl_OrderFault_1.f k o [(⟨l⟩ : S32)]) (firstN (fun j => !symB l (rd o (j : Int))) o.length 0).isSome := by
 unfold slices_ContainsFunc_int64_int64_impl_OrderFault_1.f slices_IndexFunc_int64_int64_impl_OrderFault_1.f
 have h := loop_scan o.length (fun j => if (!symB l (rd o (j : Int))) = true then some (j : Int) else none) (-1) (fun k i => slices_IndexFunc_int64_int64_impl_OrderFault_1.l0 k o (o.length : Int) i [(⟨l⟩ : S32)])
  (by simp only [slices_IndexFunc_int64_int64_impl_OrderFault_1.l0]; exact ev_neg (by omega) (ev_some _))
  (fun i hi r hr => by
   simp only [slices_IndexFunc_int64_int64_impl_OrderFault_1.l0]
   refine ev_pos (by omega) (ev_pos (by omega) (ev_pos (by omega) (ev_bindq (a := !symB l (rd o (i : Int))) ?_ ?_)))
   ·unfold impl_OrderFault_1_with.f
    rw [if_pos (by simp)]
    exact bind_eq (isSymbol_eq l (by omega) _) rfl
   ·rw [wrap_up (by omega)]
    by_cases h : (!symB l (rd o (i : Int))) = true
    ·rw [if_pos h]; exact ev_pos h (ev_some _)
    ·rw [if_neg h]; exact ev_neg h hr)
  o.length 0 (by omega)
 rw [scanN_first (fun j => !symB l (rd o (j : Int))) (fun j => (j : Int)) (-1)] at h
 refine ev_bind h (ev_to (ev_some _) ?_)
 cases firstN (fun j => !symB l (rd o (j : Int))) o.length 0 with
 | none => rfl
 | some j => simp
theorem Order_l0 (o : List Int) (ho : o.length ≤ 1048576) : Ev (fun k => impl_OrderFault.l0 k o o (o.length : Int) 0) (scanN (odupFault o) 0 o.length 0) :=
 loop_scan o.length (odupFault o) 0 (fun k i => impl_OrderFault.l0 k o o (o.length : Int) i)
  (by simp only [impl_OrderFault.l0]; exact ev_neg (by omega) (ev_some _))
  (fun i hi r hr => by
   simp only [impl_OrderFault.l0]
   have hc := slicesContains_ev (o.take i) (by rw [List.length_take]; omega) (rd o (i : Int))
   have hd : (firstN (fun j => rd o (i : Int) == rd (o.take i) (j : Int)) (o.take i).length 0).isSome = odupB o i := by
    unfold odupB
    rw [List.length_take, Nat.min_eq_left (by omega)]
    rw [firstN_congr i 0 (q := fun j => rd o (i : Int) == rd o (j : Int)) (fun j _ hj => by
     rw [rd_get (o.take i) j (by rw [List.length_take]; omega), rd_get o j (by omega), List.getElem_take])]
   rw [hd] at hc
   refine ev_pos (by omega) (ev_pos (by omega) (ev_pos (by omega) (ev_pos (by omega) ?_)))
   rw [Int.toNat_natCast, wrap_up (by omega)]
   refine ev_bind hc ?_
   unfold odupFault
   by_cases h : odupB o i = true
   ·rw [if_pos h]; exact ev_pos h (ev_some _)
   ·rw [if_neg h]; exact ev_neg h hr)
  o.length 0 (by omega)
theorem OrderFault_impl (l : List S65) (o : List Int) (ho : o.length ≤ 1048576) : Ev (fun k => impl_OrderFault.f k l o) (ordF l o) := by
 unfold impl_OrderFault.f ordF
 refine ev_bind (SignatureFault_impl l) (ev_ite (fun h => ?_) (fun h => ev_some _))
 have hl := (right_of l h).len
 unfold ordG
 by_cases hlen : o.length = l.length
 ·rw [if_pos hlen]
  exact ev_pos (by omega) (ev_bind (Order_notSym l (by omega) o ho) (ev_ite (fun hn => ev_some _) (fun hn => Order_l0 o ho)))
 ·rw [if_neg hlen]; exact ev_neg (by omega) (ev_some _)
end Go.Proofs.YtgichahebemmiaaDoor.Pure
set_option linter.unusedVariables false
namespace Go.Proofs.YtgichahebemmiaaDoor.Pure
open Go.RowKit Go.Proofs.YtgichahebemmiaaDoorW.PrintWords Go.Proofs.YtgichahebemmiaaDoor.Base
theorem nodup_length : ∀ (m : Nat) (xs : List Nat), xs.Nodup → (∀ x ∈ xs, x < m) → xs.length ≤ m
 | 0, xs, _, h => by
  cases xs with
  | nil => simp
  | cons x xs => exact absurd (h x (by simp)) (by omega)
 | m + 1, xs, hn, h => by
  by_cases hm : m ∈ xs
  ·have h1 := nodup_length m (xs.erase m) (hn.erase m) (fun x hx => by
    have := (List.Nodup.mem_erase_iff hn).1 hx
    have := h x this.2
    omega)
   rw [List.length_erase_of_mem hm] at h1
   omega
  ·have h1 := nodup_length m xs hn (fun x hx => by
    have := h x hx
    have : x ≠ m := fun e => hm (e ▸ hx)
    omega)
   omega
theorem nodup_all (n : Nat) (xs : List Nat) (hn : xs.Nodup) (h : ∀ x ∈ xs, x < n) (hl : xs.length = n) (v : Nat) (hv : v < n) : v ∈ xs := by
 by_cases hm : v ∈ xs
 ·exact hm
 have := nodup_length n (v :: xs) (List.nodup_cons.2 ⟨hm, hn⟩) (fun x hx => by
  rcases List.mem_cons.1 hx with rfl | hx
  ·exact hv
  ·exact h x hx)
 simp only [List.length_cons] at this
 omega
theorem perm_place (o : List Int) (h : ∀ i, i < o.length → 0 ≤ rd o (i : Int) ∧ rd o (i : Int) < (o.length : Int)) (hd : ∀ i j, i < o.length → j < i → rd o (i : Int) ≠ rd o (j : Int)) (v : Int) (h0 : 0 ≤ v) (h1 : v < (o.length : Int)) :
  ∃ j, j < o.length ∧ rd o (j : Int) = v := by
 have hN : (o.map Int.toNat).Nodup := by
  rw [List.nodup_iff_pairwise_ne, List.pairwise_iff_getElem]
  intro i j hi hj hij
  rw [List.length_map] at hi hj
  simp only [List.getElem_map]
  have a := h i hi
  have b := h j hj
  have c := hd j i hj hij
  rw [rd_get o i hi] at a c
  rw [rd_get o j hj] at b c
  omega
 have hm := nodup_all o.length (o.map Int.toNat) hN (fun x hx => by
  obtain ⟨y, hy, rfl⟩ := List.mem_map.1 hx
  obtain ⟨i, hi, rfl⟩ := List.getElem_of_mem hy
  have a := h i hi
  rw [rd_get o i hi] at a
  omega) (by simp) v.toNat (by omega)
 obtain ⟨y, hy, e⟩ := List.mem_map.1 hm
 obtain ⟨i, hi, rfl⟩ := List.getElem_of_mem hy
 refine ⟨i, hi, ?_⟩
 have a := h i hi
 rw [rd_get o i hi] at a ⊢
 omega
end Go.Proofs.YtgichahebemmiaaDoor.Pure
set_option linter.unusedVariables false
namespace Go.Proofs.YtgichahebemmiaaDoor.Pure
open Go.RowKit Go.Proofs.YtgichahebemmiaaDoorW.PrintWords Go.Proofs.YtgichahebemmiaaDoor.Base
def idxN (n : Int) : List Int → Nat
 | [] => 0
 | x :: xs => if x = n then 0 else idxN n xs + 1
theorem idxN_lt (n : Int) : ∀ l : List Int, n ∈ l → idxN n l < l.length
 | [], h => by simp at h
 | x :: xs, h => by
  unfold idxN
  by_cases e : x = n
  ·rw [if_pos e]; simp
  ·rw [if_neg e]
   rcases List.mem_cons.1 h with h | h
   ·exact absurd h.symm e
   ·have := idxN_lt n xs h
    simp only [List.length_cons]; omega
theorem idxN_get (n : Int) : ∀ (l : List Int) (h : idxN n l < l.length), l[idxN n l] = n
 | [], h => by simp at h
 | x :: xs, h => by
  by_cases e : x = n
  ·have : idxN n (x :: xs) = 0 := by unfold idxN; rw [if_pos e]
   simp only [this, List.getElem_cons_zero]; exact e
  ·have hk : idxN n (x :: xs) = idxN n xs + 1 := by rw [idxN, if_neg e]
   simp only [hk, List.getElem_cons_succ]
   exact idxN_get n xs (by rw [hk] at h; simpa using h)
theorem idxN_first (n : Int) : ∀ (l : List Int) (j : Nat) (hj : j < l.length), j < idxN n l → l[j] ≠ n
 | [], j, hj, _ => by simp at hj
 | x :: xs, j, hj, h => by
  by_cases e : x = n
  ·rw [idxN, if_pos e] at h; omega
  ·rw [idxN, if_neg e] at h
   cases j with
   | zero => simpa using e
   | succ j => simpa using idxN_first n xs j (by simpa using hj) (by omega)
theorem placeN_idx (l : List Int) (n : Int) : placeN (fun j => n == rd l (j : Int)) l.length = if n ∈ l then (idxN n l : Int) else -1 := by
 rcases placeN_cases (fun j => n == rd l (j : Int)) l.length with ⟨h1, h2⟩ | ⟨j, hj, h1, h2, h3⟩
 ·rw [h1, if_neg]
  intro hm
  have hlt := idxN_lt n l hm
  have := h2 (idxN n l) hlt
  rw [rd_get l _ hlt, idxN_get n l hlt] at this
  simp at this
 ·have e : l[j] = n := by
   rw [rd_get l j hj] at h2
   exact (beq_iff_eq.1 h2).symm
  have hm : n ∈ l := e ▸ List.getElem_mem hj
  rw [h1, if_pos hm]
  have hlt := idxN_lt n l hm
  rcases Nat.lt_trichotomy j (idxN n l) with k | k | k
  ·exact absurd e (idxN_first n l j hj k)
  ·rw [k]
  ·have := h3 (idxN n l) k
   rw [rd_get l _ hlt, idxN_get n l hlt] at this
   simp at this
end Go.Proofs.YtgichahebemmiaaDoor.Pure
set_option linter.unusedVariables false
namespace Go.Proofs.YtgichahebemmiaaDoor.Pure
open Go.RowKit Go.Proofs.YtgichahebemmiaaDoorW.PrintWords Go.Proofs.YtgichahebemmiaaDoor.Base
def skipN (ar : Int → Nat) : Nat → List Int → Option (List Int)
 | 0, t => some t
 | _ + 1, [] => none
 | k + 1, n :: t => skipN ar (k + ar n) t
theorem skipN_zero (ar : Int → Nat) (t : List Int) : skipN ar 0 t = some t := by cases t <;> rfl
theorem skipN_add (ar : Int → Nat) (m : Nat) : ∀ (t : List Int) (k : Nat), skipN ar (k + m) t = (skipN ar k t).bind (skipN ar m)
 | t, 0 => by rw [skipN_zero, Nat.zero_add]; rfl
 | [], k + 1 => by rw [show k + 1 + m = (k + m) + 1 by omega]; rfl
 | n :: t, k + 1 => by
  rw [show k + 1 + m = (k + m) + 1 by omega]
  show skipN ar (k + m + ar n) t = (skipN ar (k + ar n) t).bind (skipN ar m)
  rw [show k + m + ar n = k + ar n + m by omega]
  exact skipN_add ar m t (k + ar n)
theorem skipN_succ (ar : Int → Nat) (t : List Int) (k : Nat) : skipN ar (k + 1) t = (skipN ar 1 t).bind (skipN ar k) := by
 rw [show k + 1 = 1 + k by omega]; exact skipN_add ar k t 1
theorem skipN_cons (ar : Int → Nat) (n : Int) (t : List Int) (k : Nat) : skipN ar (k + 1) (n :: t) = skipN ar (k + ar n) t := rfl
theorem skipN_suffix (ar : Int → Nat) : ∀ (t : List Int) (k : Nat) (u : List Int), skipN ar k t = some u → ∃ d, u = t.drop d ∧ d ≤ t.length ∧ k ≤ d
 | t, 0, u, h => by
  rw [skipN_zero] at h
  obtain rfl := Option.some.inj h
  exact ⟨0, by simp, by omega, by omega⟩
 | [], k + 1, u, h => by cases h
 | n :: t, k + 1, u, h => by
  obtain ⟨d, e, hd, hk⟩ := skipN_suffix ar t (k + ar n) u h
  exact ⟨d + 1, by rw [e]; rfl, by simp; omega, by omega⟩
def endN (ar : Int → Nat) (term : List Int) (k at_ : Nat) : Option Nat := (skipN ar k (term.drop at_)).map fun u => term.length - u.length
theorem endN_some {ar : Int → Nat} {term : List Int} {k at_ e : Nat} (hat : at_ ≤ term.length) (h : endN ar term k at_ = some e) : skipN ar k (term.drop at_) = some (term.drop e) ∧ at_ + k ≤ e ∧ e ≤ term.length := by
 unfold endN at h
 cases hs : skipN ar k (term.drop at_) with
 | none => rw [hs] at h; cases h
 | some u =>
  rw [hs] at h
  obtain ⟨d, e1, hd, hk⟩ := skipN_suffix ar _ _ _ hs
  rw [List.length_drop] at hd
  have he : term.length - u.length = e := Option.some.inj h
  have hul : u.length = term.length - (at_ + d) := by rw [e1, List.drop_drop, List.length_drop]
  have hed : e = at_ + d := by omega
  refine ⟨?_, by omega, by omega⟩
  rw [e1, List.drop_drop, hed]
theorem endN_zero (ar : Int → Nat) (term : List Int) (at_ : Nat) (hat : at_ ≤ term.length) : endN ar term 0 at_ = some at_ := by
 unfold endN
 rw [skipN_zero]
 simp only [Option.map_some, List.length_drop]
 congr 1; omega
theorem endN_out (ar : Int → Nat) (term : List Int) (k at_ : Nat) (hk : 0 < k) (hat : term.length ≤ at_) : endN ar term k at_ = none := by
 unfold endN
 obtain ⟨m, rfl⟩ : ∃ m, k = m + 1 := ⟨k - 1, by omega⟩
 rw [List.drop_eq_nil_of_le hat]; rfl
theorem endN_step (ar : Int → Nat) (term : List Int) (k at_ : Nat) (hat : at_ < term.length) : endN ar term (k + 1) at_ = endN ar term (k + ar term[at_]) (at_ + 1) := by
 unfold endN
 rw [List.drop_eq_getElem_cons hat, skipN_cons]
theorem endN_add (ar : Int → Nat) (term : List Int) (k m at_ : Nat) (hat : at_ ≤ term.length) : endN ar term (k + m) at_ = (endN ar term k at_).bind fun e => endN ar term m e := by
 cases h : endN ar term k at_ with
 | none =>
  unfold endN at h ⊢
  rw [skipN_add]
  cases hs : skipN ar k (term.drop at_) with
  | none => rfl
  | some u => rw [hs] at h; cases h
 | some e =>
  obtain ⟨hs, _, _⟩ := endN_some hat h
  simp only [Option.bind_some]
  unfold endN
  rw [skipN_add, hs]
  rfl
end Go.Proofs.YtgichahebemmiaaDoor.Pure
set_option linter.unusedVariables false
namespace Go.Proofs.YtgichahebemmiaaDoor.Pure
open Go.RowKit Go.Proofs.YtgichahebemmiaaDoorW.PrintWords Go.Proofs.YtgichahebemmiaaDoor.Base
def argsN (ar : Int → Nat) (t : List Int) : Nat → Nat → List Nat
 | 0, _ => []
 | m + 1, e => e :: (match endN ar t 1 e with
  | some e' => argsN ar t m e'
  | none => [])
theorem argsN_succ {ar : Int → Nat} {t : List Int} {m e e' : Nat} (h : endN ar t 1 e = some e') : argsN ar t (m + 1) e = e :: argsN ar t m e' := by
 rw [argsN, h]
theorem endN_sub (ar : Int → Nat) (t : List Int) (h : endN ar t 1 0 = some t.length) : ∀ at_, at_ < t.length → ∃ e, endN ar t 1 at_ = some e := by
 have key : ∀ (t : List Int) (k at_ : Nat) (u : List Int), skipN ar (k + 1) t = some u → at_ + u.length < t.length → ∃ v, skipN ar 1 (t.drop at_) = some v := by
  intro t
  induction t with
  | nil => intro k at_ u h hl; simp at hl
  | cons n t ih =>
   intro k at_ u h hl
   cases at_ with
   | zero =>
    rw [skipN_succ] at h
    cases hs : skipN ar 1 (n :: t) with
    | none => rw [hs] at h; cases h
    | some v => exact ⟨v, hs⟩
   | succ a =>
    rw [skipN_cons] at h
    rw [List.drop_succ_cons]
    simp only [List.length_cons] at hl
    cases hm : k + ar n with
    | zero =>
     rw [hm, skipN_zero] at h
     obtain rfl := Option.some.inj h
     omega
    | succ m =>
     rw [hm] at h
     exact ih m a u h (by omega)
 intro at_ hat
 unfold endN at h
 cases hs : skipN ar 1 (t.drop 0) with
 | none => rw [hs] at h; cases h
 | some u =>
  rw [hs] at h
  have hu : t.length - u.length = t.length := Option.some.inj h
  obtain ⟨d, e, hd, hk⟩ := skipN_suffix ar _ _ _ hs
  rw [List.drop_zero] at hs e hd
  have hul : u.length = t.length - d := by rw [e, List.length_drop]
  obtain ⟨v, hv⟩ := key t 0 at_ u hs (by omega)
  exact ⟨t.length - v.length, by unfold endN; rw [hv]; rfl⟩
def argsAt (ar : Int → Nat) (t : List Int) (a : Nat) : List Nat := argsN ar t (ar (rd t (a : Int))) (a + 1)
theorem argsN_bound {ar : Int → Nat} {t : List Int} : ∀ (m e e' : Nat), e ≤ t.length → endN ar t m e = some e' → (argsN ar t m e).length = m ∧ ∀ p ∈ argsN ar t m e, e ≤ p ∧ p < t.length ∧ ∃ q, endN ar t 1 p = some q
 | 0, e, e', he, h => ⟨rfl, fun p hp => by cases hp⟩
 | m + 1, e, e', he, h => by
  rw [show m + 1 = 1 + m by omega, endN_add ar t 1 m e he] at h
  cases h1 : endN ar t 1 e with
  | none => rw [h1] at h; cases h
  | some q =>
   rw [h1] at h
   simp only [Option.bind_some] at h
   obtain ⟨_, b1, b2⟩ := endN_some he h1
   obtain ⟨i1, i2⟩ := argsN_bound m q e' b2 h
   rw [argsN_succ h1]
   refine ⟨by rw [List.length_cons, i1], fun p hp => ?_⟩
   rcases List.mem_cons.1 hp with rfl | hp
   ·exact ⟨Nat.le_refl _, by omega, q, h1⟩
   ·obtain ⟨c1, c2, c3⟩ := i2 p hp
    exact ⟨by omega, c2, c3⟩
theorem endN_args {ar : Int → Nat} {t : List Int} {a e : Nat} (ha : a < t.length) (h : endN ar t 1 a = some e) : endN ar t (ar (rd t (a : Int))) (a + 1) = some e := by
 rw [endN_step ar t 0 a ha, ← rd_get t a ha, Nat.zero_add] at h
 exact h
theorem argsAt_bound {ar : Int → Nat} {t : List Int} {a e : Nat} (ha : a < t.length) (h : endN ar t 1 a = some e) :
  (argsAt ar t a).length = ar (rd t (a : Int)) ∧ ∀ p ∈ argsAt ar t a, a < p ∧ p < t.length ∧ ∃ q, endN ar t 1 p = some q := by
 obtain ⟨h1, h2⟩ := argsN_bound (ar (rd t (a : Int))) (a + 1) e (by omega) (endN_args ha h)
 exact ⟨h1, fun p hp => by obtain ⟨x, y, z⟩ := h2 p hp; exact ⟨by omega, y, z⟩⟩
end Go.Proofs.YtgichahebemmiaaDoor.Pure
set_option linter.unusedVariables false
namespace Go.Proofs.YtgichahebemmiaaDoor.Pure
open Go.RowKit Go.Proofs.YtgichahebemmiaaDoorW.PrintWords Go.Proofs.YtgichahebemmiaaDoor.Base
def Whole (ar : Int → Nat) (t : List Int) : Prop := skipN ar 1 t = some []
end Go.Proofs.YtgichahebemmiaaDoor.Pure
set_option linter.unusedVariables false
namespace Go.Proofs.YtgichahebemmiaaDoor.Pure
open Go.RowKit Go.Proofs.YtgichahebemmiaaDoor.P Go.Proofs.YtgichahebemmiaaDoorW.PrintWords Go.Proofs.YtgichahebemmiaaDoorW.PrintLast Go.Proofs.YtgichahebemmiaaDoor.Base
def nodeB (l : List S65) (n : Int) : Bool := symB l n || decide (-12 ≤ n ∧ n ≤ -1)
def arL (l : List S65) (n : Int) : Nat := if n < 0 then 0 else (rd_T65 l n).f1.toNat
theorem l3Node_eq (l : List S65) (hl : l.length ≤ 6) (n : Int) : spec_l3Node.f [(⟨l⟩ : S32)] n = some (nodeB l n) := by
 unfold spec_l3Node.f nodeB
 rw [l2Symbol_eq l (by omega)]
 simp only [Option.bind_some]
 by_cases h : symB l n = true
 ·rw [if_pos h, h]; rfl
 ·rw [if_neg h, l1In_eq, Bool.eq_false_iff.2 h]; rfl
theorem isNode_eq (l : List S65) (hl : l.length ≤ 6) (n : Int) : impl_isNode.f l n = some (nodeB l n) := by
 unfold impl_isNode.f nodeB
 rw [isSymbol_eq l (by omega)]
 simp only [Option.bind_some]
 by_cases h : symB l n = true
 ·rw [if_pos h, h]; rfl
 ·rw [if_neg h, within_eq, Bool.eq_false_iff.2 h]; rfl
def Nodes (l : List S65) (t : List Int) : Prop := ∀ i, i < t.length → nodeB l (rd t (i : Int)) = true
theorem node_sym {l : List S65} {n : Int} (h : nodeB l n = true) (h0 : ¬ n < 0) : 0 ≤ n ∧ n < (l.length : Int) := by
 unfold nodeB at h
 rw [Bool.or_eq_true] at h
 rcases h with h | h
 ·exact symB_true h
 ·have := of_decide_eq_true h; omega
theorem arL_cast {l : List S65} (hr : Right l) {n : Int} (h : nodeB l n = true) (h0 : ¬ n < 0) : (rd_T65 l n).f1 = (arL l n : Int) ∧ arL l n ≤ 2 := by
 obtain ⟨a, b⟩ := node_sym h h0
 have := hr.arities n.toNat (by omega)
 rw [Int.toNat_of_nonneg a] at this
 unfold arL
 rw [if_neg h0]
 omega
theorem arL_le {l : List S65} (hr : Right l) {n : Int} (h : nodeB l n = true) : arL l n ≤ 2 := by
 by_cases h0 : n < 0
 ·unfold arL; rw [if_pos h0]; omega
 ·exact (arL_cast hr h h0).2
def endI (o : Option Nat) : Int := match o with
 | some e => (e : Int)
 | none => -1
theorem l3End_loop (l : List S65) (hr : Right l) (t : List Int) (ht : t.length ≤ 1048576) (hn : Nodes l t) (at_ : Nat) (hat : at_ < t.length) (h0 : ¬ rd t (at_ : Int) < 0)
  (ih : ∀ e, at_ < e → e ≤ t.length → Ev (fun k => spec_l3End.f k [(⟨l⟩ : S32)] t (e : Int)) (endI (endN (arL l) t 1 e))) :
  ∀ (m i e : Nat), i + m = arL l (rd t (at_ : Int)) → at_ < e → e ≤ t.length → Ev (fun k => spec_l3End.l0 k [(⟨l⟩ : S32)] t (at_ : Int) (e : Int) (i : Int)) (endI (endN (arL l) t m e)) := by
 obtain ⟨s0, s1⟩ := node_sym (hn at_ hat) h0
 obtain ⟨ha, ha2⟩ := arL_cast hr (hn at_ hat) h0
 have e0 : (rd_T32 [(⟨l⟩ : S32)] 0).f0 = l := rfl
 intro m
 induction m with
 | zero =>
  intro i e hi he hel
  refine ev_succ ?_
  simp only [spec_l3End.l0, e0]
  refine ev_pos (by simp) (ev_pos (by omega) (ev_pos (by omega) (ev_pos s0 (ev_pos s1 ?_))))
  rw [ha, endN_zero _ _ _ hel]
  exact ev_neg (by omega) (ev_some _)
 | succ m ihm =>
  intro i e hi he hel
  refine ev_succ ?_
  simp only [spec_l3End.l0, e0]
  refine ev_pos (by simp) (ev_pos (by omega) (ev_pos (by omega) (ev_pos s0 (ev_pos s1 ?_))))
  rw [ha]
  refine ev_pos (by omega) (ev_bind (ih e he hel) ?_)
  rw [show m + 1 = 1 + m by omega, endN_add _ _ 1 m e hel]
  cases hE : endN (arL l) t 1 e with
  | none => exact ev_pos (by simp [endI]) (ev_some _)
  | some e' =>
   obtain ⟨_, h1, h2⟩ := endN_some hel hE
   refine ev_neg (by simp [endI]) ?_
   rw [wrap_up (by omega)]
   simp only [Option.bind_some]
   exact ihm (i + 1) e' (by omega) (by omega) h2
theorem l3End_ev (l : List S65) (hr : Right l) (t : List Int) (ht : t.length ≤ 1048576) (hn : Nodes l t) : ∀ (d at_ : Nat), at_ + d = t.length → Ev (fun k => spec_l3End.f k [(⟨l⟩ : S32)] t (at_ : Int)) (endI (endN (arL l) t 1 at_)) := by
 intro d
 induction d using Nat.strongRecOn with
 | _ d ih =>
  intro at_ hd
  refine ev_succ ?_
  simp only [spec_l3End.f]
  by_cases hat : t.length ≤ at_
  ·rw [endN_out _ _ _ _ (by omega) hat]
   exact ev_pos (by omega) (ev_some _)
  have hat' : at_ < t.length := by omega
  refine ev_neg (by omega) (ev_pos (by omega) (ev_pos (by omega) ?_))
  rw [endN_step _ _ 0 _ hat', ← rd_get t at_ hat', Nat.zero_add, wrap_up (by omega)]
  by_cases h0 : rd t (at_ : Int) < 0
  ·refine ev_pos h0 ?_
   have : arL l (rd t (at_ : Int)) = 0 := by unfold arL; rw [if_pos h0]
   rw [this, endN_zero _ _ _ (by omega)]
   exact ev_some _
  ·refine ev_neg h0 ?_
   exact l3End_loop l hr t ht hn at_ hat' h0 (fun e he hel => ih (t.length - e) (by omega) e (by omega)) _ 0 (at_ + 1) (by omega) (by omega) (by omega)
def endJ (n : Nat) (o : Option Nat) : Int := match o with
 | some e => (e : Int)
 | none => (n : Int) + 1
theorem arityOf_eq (l : List S65) (hr : Right l) (n : Int) (h : nodeB l n = true) : impl_arityOf.f l n = some (arL l n : Int) := by
 unfold impl_arityOf.f
 by_cases h0 : n < 0
 ·rw [if_pos h0]; unfold arL; rw [if_pos h0]; rfl
 ·obtain ⟨s0, s1⟩ := node_sym h h0
  rw [if_neg h0, if_pos s0, if_pos s1, (arL_cast hr h h0).1]
theorem endOf_l0 (l : List S65) (hr : Right l) (t : List Int) (ht : t.length ≤ 1048576) (hn : Nodes l t) : ∀ (d at_ o : Nat), at_ + d = t.length → o ≤ 2 * at_ + 1 → Ev (fun k => impl_endOf.l0 k t (at_ : Int) (o : Int) l) (endJ t.length (endN (arL l) t o at_)) := by
 intro d
 induction d with
 | zero =>
  intro at_ o hd ho
  refine ev_succ ?_
  simp only [impl_endOf.l0]
  cases o with
  | zero =>
   rw [endN_zero _ _ _ (by omega)]
   exact ev_neg (by omega) (ev_some _)
  | succ o =>
   rw [endN_out _ _ _ _ (by omega) (by omega)]
   refine ev_pos (by omega) (ev_pos (by omega) ?_)
   rw [wrap_up (by omega)]
   exact ev_to (ev_some _) (by simp [endJ])
 | succ d ih =>
  intro at_ o hd ho
  refine ev_succ ?_
  simp only [impl_endOf.l0]
  cases o with
  | zero =>
   rw [endN_zero _ _ _ (by omega)]
   exact ev_neg (by omega) (ev_some _)
  | succ o =>
   have hat : at_ < t.length := by omega
   refine ev_pos (by omega) (ev_neg (by omega) (ev_pos (by omega) (ev_pos (by omega) (ev_bindq (arityOf_eq l hr _ (hn at_ hat)) ?_))))
   have ha := arL_le hr (hn at_ hat)
   rw [endN_step _ _ o _ hat, ← rd_get t at_ hat, wrap_up (by omega)]
   generalize arL l (rd t (at_ : Int)) = a at *
   rw [wrap_id (x := (a : Int) - 1) (by omega) (by omega), wrap_id (by omega) (by omega), show ((o + 1 : Nat) : Int) + ((a : Int) - 1) = ((o + a : Nat) : Int) by omega]
   exact ih (at_ + 1) (o + a) (by omega) (by omega)
theorem endOf_ev (l : List S65) (hr : Right l) (t : List Int) (ht : t.length ≤ 1048576) (hn : Nodes l t) (at_ : Nat) (hat : at_ ≤ t.length) : Ev (fun k => impl_endOf.f k l t (at_ : Int)) (endJ t.length (endN (arL l) t 1 at_)) := by
 unfold impl_endOf.f
 exact endOf_l0 l hr t ht hn (t.length - at_) at_ 1 (by omega) (by omega)
def badN (l : List S65) (t : List Int) : Bool := (firstN (fun j => !nodeB l (rd t (j : Int))) t.length 0).isSome
theorem nodes_of {l : List S65} {t : List Int} (h : ¬ badN l t = true) : Nodes l t := by
 unfold badN at h
 have h1 : firstN (fun j => !nodeB l (rd t (j : Int))) t.length 0 = none := by
  cases hf : firstN (fun j => !nodeB l (rd t (j : Int))) t.length 0 with
  | none => rfl
  | some j => rw [hf] at h; exact absurd rfl h
 intro i hi
 have := (firstN_none t.length 0).1 h1 i (by omega) (by omega)
 simpa using this
def termG (l : List S65) (t : List Int) : Int :=
 if t.length < 1 ∨ t.length > 24 then 2 else if badN l t = true then 3 else if endN (arL l) t 1 0 = some t.length then 0 else 1
def termF (l : List S65) (t : List Int) : Int := if sigF l = 0 then termG l t else sigF l
theorem l3Fault_ev (l : List S65) (hr : Right l) (t : List Int) (ht : t.length ≤ 1048576) : Ev (fun k => spec_l3Fault.f k [(⟨l⟩ : S32)] t) (termG l t) := by
 have hl := hr.len
 unfold spec_l3Fault.f termG
 by_cases h1 : (t.length : Int) < 1
 ·rw [if_pos (.inl (by omega))]
  refine ev_pos h1 (ev_succ ?_)
  simp only [spec_l3Fault.j0]
  exact ev_pos (by simp) (ev_some _)
 refine ev_neg h1 (ev_succ ?_)
 simp only [spec_l3Fault.j0]
 by_cases h2 : (t.length : Int) > 24
 ·rw [if_pos (.inr (by omega))]
  exact ev_pos (by simpa using h2) (ev_some _)
 rw [if_neg (by omega)]
 refine ev_neg (by simpa using h2) ?_
 by_cases hb : badN l t = true
 ·rw [if_pos hb]
  unfold badN at hb
  cases hf : firstN (fun j => !nodeB l (rd t (j : Int))) t.length 0 with
  | none => rw [hf] at hb; cases hb
  | some j =>
   obtain ⟨_, hj, hp, hall⟩ := firstN_some _ _ _ hf
   have key : ∀ d i, i + d = j → Ev (fun k => spec_l3Fault.l0 k [(⟨l⟩ : S32)] t (i : Int)) 3 := by
    intro d
    induction d with
    | zero =>
     intro i hi
     obtain rfl : i = j := by omega
     refine ev_succ ?_
     simp only [spec_l3Fault.l0]
     refine ev_pos (by omega) (ev_pos (by omega) (ev_bindq (l3Node_eq l (by omega) _) ?_))
     exact ev_neg (by simpa using hp) (ev_some _)
    | succ d ih =>
     intro i hi
     refine ev_succ ?_
     simp only [spec_l3Fault.l0]
     refine ev_pos (by omega) (ev_pos (by omega) (ev_bindq (l3Node_eq l (by omega) _) ?_))
     have := hall i (by omega) (by omega)
     rw [wrap_up (by omega)]
     exact ev_pos (by simpa using this) (ih (i + 1) (by omega))
   exact key j 0 (by omega)
 ·rw [if_neg hb]
  have hn := nodes_of hb
  have h := loop_scan t.length (fun j => if (!nodeB l (rd t (j : Int))) = true then some 3 else none) (if endN (arL l) t 1 0 = some t.length then 0 else 1) (fun k i => spec_l3Fault.l0 k [(⟨l⟩ : S32)] t i)
   (by
    simp only [spec_l3Fault.l0]
    refine ev_neg (by omega) (ev_bind (l3End_ev l hr t ht hn t.length 0 (by omega)) ?_)
    by_cases he : endN (arL l) t 1 0 = some t.length
    ·rw [he]; exact ev_pos rfl (ev_to (ev_some _) (if_pos rfl).symm)
    ·refine ev_neg ?_ (ev_to (ev_some _) (if_neg he).symm)
     cases hE : endN (arL l) t 1 0 with
     | none => simp [endI] <;> omega
     | some e =>
      intro k
      have : e = t.length := by simp only [endI] at k; omega
      exact he (by rw [hE, this]))
   (fun i hi r hr => by
    simp only [spec_l3Fault.l0]
    refine ev_pos (by omega) (ev_pos (by omega) (ev_bindq (l3Node_eq l (by omega) _) ?_))
    rw [wrap_up (by omega), hn i hi]
    exact ev_pos rfl (ev_to hr (by simp)))
   t.length 0 (by omega)
  refine ev_to h ?_
  exact scanN_none t.length 0 (fun j _ hj => by simp [hn j (by omega)])
theorem Term_bad (l : List S65) (hl : l.length ≤ 6) (t : List Int) (ht : t.length ≤ 1048576) :
  Ev (fun k => slices_ContainsFunc_int64_int64_impl_TermFault_1.f k t [(⟨l⟩ : S32)]) (badN l t) := by
 unfold slices_ContainsFunc_int64_int64_impl_TermFault_1.f slices_IndexFunc_int64_int64_impl_TermFault_1.f
 have h := loop_scan t.length (fun j => if (!nodeB l (rd t (j : Int))) = true then some (j : Int) else none) (-1) (fun k i => slices_IndexFunc_int64_int64_impl_TermFault_1.l0 k t (t.length : Int) i [(⟨l⟩ : S32)])
  (by simp only [slices_IndexFunc_int64_int64_impl_TermFault_1.l0]; exact ev_neg (by omega) (ev_some _))
  (fun i hi r hr => by
   simp only [slices_IndexFunc_int64_int64_impl_TermFault_1.l0]
   refine ev_pos (by omega) (ev_pos (by omega) (ev_pos (by omega) (ev_bindq (a := !nodeB l (rd t (i : Int))) ?_ ?_)))
   ·unfold impl_TermFault_1_with.f
    rw [if_pos (by simp)]
    exact bind_eq (isNode_eq l (by omega) _) rfl
   ·rw [wrap_up (by omega)]
    by_cases h : (!nodeB l (rd t (i : Int))) = true
    ·rw [if_pos h]; exact ev_pos h (ev_some _)
    ·rw [if_neg h]; exact ev_neg h hr)
  t.length 0 (by omega)
 rw [scanN_first (fun j => !nodeB l (rd t (j : Int))) (fun j => (j : Int)) (-1)] at h
 refine ev_bind h (ev_to (ev_some _) ?_)
 unfold badN
 cases firstN (fun j => !nodeB l (rd t (j : Int))) t.length 0 with
 | none => rfl
 | some j => simp
theorem TermFault_impl (l : List S65) (t : List Int) (ht : t.length ≤ 1048576) : Ev (fun k => impl_TermFault.f k l t) (termF l t) := by
 unfold impl_TermFault.f termF
 refine ev_bind (SignatureFault_impl l) (ev_ite (fun h => ?_) (fun h => ev_some _))
 have hr := right_of l h
 have hl := hr.len
 unfold termG
 by_cases h1 : (t.length : Int) < 1
 ·rw [if_pos (.inl (by omega))]
  refine ev_pos h1 (ev_succ ?_)
  simp only [impl_TermFault.j0]
  exact ev_pos (by simp) (ev_some _)
 refine ev_neg h1 (ev_succ ?_)
 simp only [impl_TermFault.j0]
 by_cases h2 : (t.length : Int) > 24
 ·rw [if_pos (.inr (by omega))]
  exact ev_pos (by simpa using h2) (ev_some _)
 rw [if_neg (by omega)]
 refine ev_neg (by simpa using h2) (ev_bind (Term_bad l (by omega) t ht) (ev_ite (fun hb => ev_some _) (fun hb => ?_)))
 have hn := nodes_of hb
 refine ev_bind (endOf_ev l hr t ht hn 0 (by omega)) ?_
 by_cases he : endN (arL l) t 1 0 = some t.length
 ·rw [he]; exact ev_pos rfl (ev_to (ev_some _) (if_pos rfl).symm)
 ·refine ev_neg ?_ (ev_to (ev_some _) (if_neg he).symm)
  cases hE : endN (arL l) t 1 0 with
  | none => simp [endJ] <;> omega
  | some e =>
   intro k
   have : e = t.length := by simp only [endJ] at k; omega
   exact he (by rw [hE, this])
structure RightT (l : List S65) (t : List Int) : Prop where
 sig : Right l
 len : 1 ≤ t.length ∧ t.length ≤ 24
 nodes : Nodes l t
 whole : endN (arL l) t 1 0 = some t.length
theorem rightT_of {l : List S65} {t : List Int} (h : termF l t = 0) : RightT l t := by
 unfold termF at h
 by_cases hs : sigF l = 0
 ·rw [if_pos hs] at h
  unfold termG at h
  by_cases h1 : t.length < 1 ∨ t.length > 24
  ·rw [if_pos h1] at h; cases h
  rw [if_neg h1] at h
  by_cases h2 : badN l t = true
  ·rw [if_pos h2] at h; cases h
  rw [if_neg h2] at h
  by_cases h3 : endN (arL l) t 1 0 = some t.length
  ·exact ⟨right_of l hs, by omega, nodes_of h2, h3⟩
  ·rw [if_neg h3] at h; cases h
 ·rw [if_neg hs] at h; exact absurd h hs
end Go.Proofs.YtgichahebemmiaaDoor.Pure
set_option linter.unusedVariables false
namespace Go.Proofs.YtgichahebemmiaaDoor.Pure
open Go.RowKit Go.Proofs.YtgichahebemmiaaDoor.P Go.Proofs.YtgichahebemmiaaDoorW.PrintWords Go.Proofs.YtgichahebemmiaaDoorW.PrintLast Go.Proofs.YtgichahebemmiaaDoor.Base
def sbL (l : List S65) (t : List Int) (i : Nat) : List Int := (t.take ((endN (arL l) t 1 i).getD 0)).drop i
theorem end_of {l : List S65} {t : List Int} (h : RightT l t) {i : Nat} (hi : i < t.length) : ∃ e, endN (arL l) t 1 i = some e ∧ i < e ∧ e ≤ t.length ∧ sbL l t i = (t.take e).drop i := by
 obtain ⟨e, he⟩ := endN_sub _ t h.whole i hi
 obtain ⟨_, h1, h2⟩ := endN_some (by omega) he
 exact ⟨e, he, h1, h2, by unfold sbL; rw [he]; rfl⟩
theorem sbL_length {l : List S65} {t : List Int} (h : RightT l t) (i : Nat) : (sbL l t i).length ≤ 24 := by
 have := h.len
 unfold sbL
 simp only [List.length_drop, List.length_take]; omega
theorem allB_eq : ∀ u v : List Int, u.length = v.length → allB (fun x y => decide (x = y)) u v = decide (u = v)
 | [], [], _ => by simp [allB]
 | x :: u, y :: v, h => by
  have ih := allB_eq u v (by simpa using h)
  rw [allB]
  by_cases e : x = y
  ·rw [if_pos (by simpa using e), ih]; simp [e]
  ·rw [if_neg (by simpa using e)]; simp [e]
 | [], _ :: _, h => by simp at h
 | _ :: _, [], h => by simp at h
theorem sliceEq_ev (u v : List Int) (hu : u.length ≤ 1048576) : Ev (fun k => slices_Equal_int64_int64.f k u v) (decide (u = v)) := by
 unfold slices_Equal_int64_int64.f
 by_cases hl : u.length = v.length
 ·have := loop_all (fun x y => decide (x = y)) u v hl (fun k i => slices_Equal_int64_int64.l0 k u v (u.length : Int) i)
   (fun k => by simp only [slices_Equal_int64_int64.l0]; exact if_neg (by omega))
   (fun i ha hb r hr => by
    simp only [slices_Equal_int64_int64.l0]
    refine ev_pos (by omega) (ev_pos (by omega) (ev_pos (by omega) (ev_pos (by omega) ?_)))
    rw [wrap_up (by omega), rd_get u i ha, rd_get v i hb]
    by_cases e : u[i] = v[i]
    ·exact ev_pos e (ev_to hr (by simp [e]))
    ·exact ev_neg e (ev_to (ev_some _) (by simp [e])))
   u.length 0 (by omega)
  rw [List.drop_zero, List.drop_zero, allB_eq u v hl] at this
  exact ev_pos (by omega) this
 ·exact ev_neg (by omega) (ev_to (ev_some _) (by rw [decide_eq_false (fun e => hl (by rw [e]))]))
theorem l1Same_ev (u v : List Int) (hu : u.length ≤ 1048576) : Ev (fun k => spec_l1Same.f k u v) (decide (u = v)) := by
 unfold spec_l1Same.f
 by_cases hl : u.length = v.length
 ·have := loop_all (fun x y => decide (x = y)) u v hl (fun k i => spec_l1Same.l0 k u v i)
   (fun k => by simp only [spec_l1Same.l0]; exact if_neg (by omega))
   (fun i ha hb r hr => by
    simp only [spec_l1Same.l0]
    refine ev_pos (by omega) (ev_pos (by omega) (ev_pos (by omega) ?_))
    rw [wrap_up (by omega), rd_get u i ha, rd_get v i hb]
    by_cases e : u[i] = v[i]
    ·exact ev_pos e (ev_to hr (by simp [e]))
    ·exact ev_neg e (ev_to (ev_some _) (by simp [e])))
   u.length 0 (by omega)
  rw [List.drop_zero, List.drop_zero, allB_eq u v hl] at this
  exact ev_pos (by omega) this
 ·exact ev_neg (by omega) (ev_to (ev_some _) (by rw [decide_eq_false (fun e => hl (by rw [e]))]))
theorem cmpContains_ev (s : List Int) (hs : s.length ≤ 1048576) (x : Int) : Ev (fun k => slices_Contains_int64_int64.f k s x) (decide (x ∈ s)) := by
 unfold slices_Contains_int64_int64.f
 refine ev_bind (ev_to (slicesIndex_ev s (by omega) x) (placeN_idx s x)) (ev_to (ev_some _) ?_)
 by_cases h : x ∈ s
 ·rw [if_pos h, decide_eq_true h]; exact decide_eq_true (by omega)
 ·rw [if_neg h, decide_eq_false h]; exact decide_eq_false (by omega)
theorem cmpCount_ev (t : List Int) (n : Int) (ht : t.length ≤ 1048576) : ∃ c : Nat, (0 < c ↔ n ∈ t) ∧ Ev (fun k => spec_l3Count.f k t n) (c : Int) := by
 have key : ∀ (d i c : Nat), i + d = t.length → c ≤ i → ∃ r : Nat, (c < r ↔ n ∈ t.drop i) ∧ c ≤ r ∧ Ev (fun k => spec_l3Count.l0 k t n (c : Int) (i : Int)) (r : Int) := by
  intro d
  induction d with
  | zero =>
   intro i c hi hc
   refine ⟨c, by rw [List.drop_eq_nil_of_le (by omega)]; simp, Nat.le_refl _, ev_succ ?_⟩
   simp only [spec_l3Count.l0]
   exact ev_neg (by omega) (ev_some _)
  | succ d ih =>
   intro i c hi hc
   have hd := rd_drop t i (by omega)
   by_cases h : rd t (i : Int) = n
   ·obtain ⟨r, h1, h2, h3⟩ := ih (i + 1) (c + 1) (by omega) (by omega)
    refine ⟨r, ?_, by omega, ev_succ ?_⟩
    ·rw [hd, List.mem_cons]
     exact ⟨fun _ => .inl h.symm, fun _ => by omega⟩
    ·simp only [spec_l3Count.l0]
     refine ev_pos (by omega) (ev_pos (by omega) (ev_pos h ?_))
     rw [wrap_up (by omega), wrap_up (by omega)]
     exact h3
   ·obtain ⟨r, h1, h2, h3⟩ := ih (i + 1) c (by omega) (by omega)
    refine ⟨r, ?_, h2, ev_succ ?_⟩
    ·rw [hd, List.mem_cons, h1]
     exact ⟨.inr, fun q => q.resolve_left (fun e => h e.symm)⟩
    ·simp only [spec_l3Count.l0]
     refine ev_pos (by omega) (ev_pos (by omega) (ev_neg h ?_))
     rw [wrap_up (by omega)]
     exact h3
 obtain ⟨r, h1, _, h3⟩ := key t.length 0 0 (by omega) (by omega)
 exact ⟨r, by simpa using h1, h3⟩
theorem subterm_ev {l : List S65} {t : List Int} (h : RightT l t) {i : Nat} (hi : i < t.length) : Ev (fun k => impl_subterm.f k l t (i : Int)) (sbL l t i) := by
 obtain ⟨e, he, h1, h2, hs⟩ := end_of h hi
 have hl := h.len
 have e2 := endOf_ev l h.sig t (by omega) h.nodes i (by omega)
 rw [he] at e2
 unfold impl_subterm.f
 rw [hs]
 refine ev_bind e2 (ev_pos (by omega) (ev_pos (by simp only [endJ]; omega) (ev_pos (by simp only [endJ]; omega) ?_)))
 simp only [endJ, Int.toNat_natCast]
 exact ev_some _
theorem cmpArgs_l0 (l : List S65) (hr : Right l) (t : List Int) (ht : t.length ≤ 1048576) (hn : Nodes l t) (n : Nat) : ∀ (m i e e' : Nat) (acc : List Int), i + m = n → n ≤ 2 → e ≤ t.length → endN (arL l) t m e = some e' → acc.length ≤ 1000 + i →
  Ev (fun k => impl_argumentsOf.l0 k t acc (e : Int) (n : Int) (i : Int) l) (acc ++ (argsN (arL l) t m e).map fun p : Nat => (p : Int)) := by
 intro m
 induction m with
 | zero =>
  intro i e e' acc hi hn2 he hE hacc
  refine ev_succ ?_
  simp only [impl_argumentsOf.l0]
  refine ev_neg (by omega) (ev_to (ev_some _) ?_)
  simp [argsN]
 | succ m ihm =>
  intro i e e' acc hi hn2 he hE hacc
  refine ev_succ ?_
  simp only [impl_argumentsOf.l0]
  rw [show m + 1 = 1 + m by omega, endN_add _ _ 1 m e he] at hE
  cases h1 : endN (arL l) t 1 e with
  | none => rw [h1] at hE; cases hE
  | some q =>
   rw [h1] at hE
   simp only [Option.bind_some] at hE
   obtain ⟨_, b1, b2⟩ := endN_some he h1
   have hend := endOf_ev l hr t ht hn e he
   rw [h1] at hend
   refine ev_pos (by omega) (ev_pos (by omega) (ev_bind hend ?_))
   rw [wrap_up (by omega), argsN_succ h1]
   refine ev_to (ihm (i + 1) q e' (acc ++ [(e : Int)]) (by omega) hn2 b2 hE (by simp; omega)) ?_
   simp
theorem cmpArgs_ev {l : List S65} {t : List Int} (h : RightT l t) {a : Nat} (ha : a < t.length) : Ev (fun k => impl_argumentsOf.f k l t (a : Int)) ((argsAt (arL l) t a).map fun p : Nat => (p : Int)) := by
 obtain ⟨e, he, h1, h2, _⟩ := end_of h ha
 have hl := h.len
 unfold impl_argumentsOf.f
 refine ev_pos (by omega) (ev_pos (by omega) (ev_bindq (arityOf_eq l h.sig _ (h.nodes a ha)) ?_))
 rw [wrap_up (by omega)]
 have := cmpArgs_l0 l h.sig t (by omega) h.nodes (arL l (rd t (a : Int))) (arL l (rd t (a : Int))) 0 (a + 1) e [] (by omega) (arL_le h.sig (h.nodes a ha)) (by omega) (endN_args ha he) (by simp)
 exact ev_to this (by simp [argsAt])
theorem starts_ev {l : List S65} {t : List Int} (h : RightT l t) {a : Nat} (ha : a < t.length) (h0 : ¬ rd t (a : Int) < 0) : Ev (fun k => spec_l7Starts.f k [(⟨l⟩ : S32)] t (a : Int)) ((argsAt (arL l) t a).map fun p : Nat => (p : Int)) := by
 obtain ⟨e, he, h1, h2, _⟩ := end_of h ha
 have hl := h.len
 have hx := node_sym (h.nodes a ha) h0
 obtain ⟨hc, hc2⟩ := arL_cast h.sig (h.nodes a ha) h0
 have e0 : (rd_T32 [(⟨l⟩ : S32)] 0).f0 = l := rfl
 have key : ∀ (m i q q' : Nat) (acc : List Int), i + m = arL l (rd t (a : Int)) → q ≤ t.length → endN (arL l) t m q = some q' → acc.length ≤ 1000 + i →
   Ev (fun k => spec_l7Starts.l0 k [(⟨l⟩ : S32)] t (a : Int) acc (q : Int) (i : Int)) (acc ++ (argsN (arL l) t m q).map fun p : Nat => (p : Int)) := by
  intro m
  induction m with
  | zero =>
   intro i q q' acc hi hq hE hacc
   refine ev_succ ?_
   simp only [spec_l7Starts.l0, e0, List.length_singleton]
   refine ev_pos (by omega) (ev_pos (by omega) (ev_pos (by omega) (ev_pos (by omega) (ev_pos (by omega) (ev_neg (by omega) (ev_to (ev_some _) ?_))))))
   simp [argsN]
  | succ m ihm =>
   intro i q q' acc hi hq hE hacc
   refine ev_succ ?_
   simp only [spec_l7Starts.l0, e0, List.length_singleton]
   rw [show m + 1 = 1 + m by omega, endN_add _ _ 1 m q hq] at hE
   cases h1 : endN (arL l) t 1 q with
   | none => rw [h1] at hE; cases hE
   | some q2 =>
    rw [h1] at hE
    simp only [Option.bind_some] at hE
    obtain ⟨_, b1, b2⟩ := endN_some hq h1
    have hend := l3End_ev l h.sig t (by omega) h.nodes (t.length - q) q (by omega)
    rw [h1] at hend
    refine ev_pos (by omega) (ev_pos (by omega) (ev_pos (by omega) (ev_pos (by omega) (ev_pos (by omega) (ev_pos (by omega) (ev_pos (by omega) (ev_bind hend ?_)))))))
    rw [wrap_up (by omega), argsN_succ h1]
    refine ev_to (ihm (i + 1) q2 q' (acc ++ [(q : Int)]) (by omega) b2 hE (by simp; omega)) ?_
    simp
 unfold spec_l7Starts.f
 rw [wrap_up (by omega)]
 have := key (arL l (rd t (a : Int))) 0 (a + 1) e [] (by omega) (by omega) (endN_args ha he) (by simp)
 exact ev_to this (by simp [argsAt])
theorem l7Equal_ev {l : List S65} {a b : List Int} (ha : RightT l a) (hb : RightT l b) {i j : Nat} (hi : i < a.length) (hj : j < b.length) : Ev (fun k => spec_l7Equal.f k [(⟨l⟩ : S32)] a (i : Int) b (j : Int)) (decide (sbL l a i = sbL l b j)) := by
 obtain ⟨e, he, h1, h2, hs⟩ := end_of ha hi
 obtain ⟨f, hf, h3, h4, ht⟩ := end_of hb hj
 have hla := ha.len
 have hlb := hb.len
 have e1 := l3End_ev l ha.sig a (by omega) ha.nodes (a.length - i) i (by omega)
 have e2 := l3End_ev l hb.sig b (by omega) hb.nodes (b.length - j) j (by omega)
 rw [he] at e1
 rw [hf] at e2
 rw [hs, ht]
 unfold spec_l7Equal.f
 have hsame := l1Same_ev ((a.take e).drop i) ((b.take f).drop j) (by simp only [List.length_drop, List.length_take]; omega)
 refine ev_bind e1 (ev_pos (by omega) (ev_pos (by simp only [endI]; omega) (ev_pos (by simp only [endI]; omega) (ev_bind e2 (ev_pos (by omega) (ev_pos (by simp only [endI]; omega) (ev_pos (by simp only [endI]; omega) ?_)))))))
 simp only [endI, Int.toNat_natCast]
 exact ev_bind hsame (ev_some _)
theorem cmpSame_ev {l : List S65} {a b o : List Int} (ha : RightT l a) (hb : RightT l b) {i j : Nat} (hi : i < a.length) (hj : j < b.length) : Ev (fun k => impl_comparer_same.f k [(⟨⟨l⟩, o, a, b, 0⟩ : S79)] (i : Int) (j : Int)) (decide (sbL l a i = sbL l b j)) := by
 unfold impl_comparer_same.f
 have e0 : (rd_T79 [(⟨⟨l⟩, o, a, b, 0⟩ : S79)] 0).f0.f0 = l := rfl
 have e2 : (rd_T79 [(⟨⟨l⟩, o, a, b, 0⟩ : S79)] 0).f2 = a := rfl
 have e3 : (rd_T79 [(⟨⟨l⟩, o, a, b, 0⟩ : S79)] 0).f3 = b := rfl
 rw [e0, e2, e3]
 exact ev_pos (by simp) (ev_bind (subterm_ev ha hi) (ev_bind (subterm_ev hb hj) (ev_bind (sliceEq_ev _ _ (by have := sbL_length ha i; omega)) (ev_some _))))
theorem cmpRank_ev (o : List Int) (ho : o.length ≤ 1048576) (n : Int) : Ev (fun k => spec_l2Rank.f k o n) (placeN (fun j => n == rd o (j : Int)) o.length) := by
 unfold spec_l2Rank.f
 have h := loop_scan o.length (fun j => if (n == rd o (j : Int)) = true then some (j : Int) else none) (-1) (fun k i => spec_l2Rank.l0 k o n i)
  (by simp only [spec_l2Rank.l0]; exact ev_neg (by omega) (ev_some _))
  (fun i hi r hr => by
   simp only [spec_l2Rank.l0]
   refine ev_pos (by omega) (ev_pos (by omega) ?_)
   rw [wrap_up (by omega)]
   by_cases h : rd o (i : Int) = n
   ·exact ev_pos h (ev_to (ev_some _) (by simp [h]))
   ·exact ev_neg h (ev_to hr (by have h' : ¬ n = rd o (i : Int) := fun e => h e.symm; simp [h'])))
  o.length 0 (by omega)
 rw [scanN_place (fun j => n == rd o (j : Int))] at h
 exact h
end Go.Proofs.YtgichahebemmiaaDoor.Pure
set_option linter.unusedVariables false
namespace Go.Proofs.YtgichahebemmiaaDoor.Pure
open Go.RowKit Go.Proofs.YtgichahebemmiaaDoor.P Go.Proofs.YtgichahebemmiaaDoorW.PrintWords Go.Proofs.YtgichahebemmiaaDoorW.PrintLast Go.Proofs.YtgichahebemmiaaDoor.Base
theorem cmp_unif (n : Nat) (P : Nat → Nat → Prop) (hmono : ∀ i K K', K ≤ K' → P i K → P i K') (h : ∀ i, i < n → ∃ K, P i K) : ∃ K, ∀ i, i < n → P i K := by
 induction n with
 | zero => exact ⟨0, fun i hi => by omega⟩
 | succ n ih =>
  obtain ⟨K, hK⟩ := ih (fun i hi => h i (by omega))
  obtain ⟨K', hK'⟩ := h n (by omega)
  refine ⟨max K K', fun i hi => ?_⟩
  by_cases e : i = n
  ·subst e; exact hmono _ _ _ (by omega) hK'
  ·exact hmono _ _ _ (by omega) (hK i (by omega))
theorem cmp_sym {l : List S65} {n : Int} (h : nodeB l n = true) (h0 : ¬ n < 0) : symB l n = true := by
 unfold nodeB at h
 rw [Bool.or_eq_true] at h
 rcases h with h | h
 ·exact h
 ·have := of_decide_eq_true h; omega
theorem cmp_right {l : List S65} {o : List Int} (h : ordF l o = 0) : Right l ∧ ordG l o = 0 := by
 unfold ordF at h
 by_cases hs : sigF l = 0
 ·rw [if_pos hs] at h; exact ⟨right_of l hs, h⟩
 ·rw [if_neg hs] at h; exact absurd h hs
theorem cmp_ord {l : List S65} {o : List Int} (h : ordF l o = 0) :
  o.length = l.length ∧ (∀ i, i < o.length → symB l (rd o (i : Int)) = true) ∧ ∀ i j, i < o.length → j < i → rd o (i : Int) ≠ rd o (j : Int) := by
 obtain ⟨_, hg⟩ := cmp_right h
 unfold ordG at hg
 by_cases hl : o.length = l.length
 ·rw [if_pos hl] at hg
  by_cases hb : (firstN (fun j => !symB l (rd o (j : Int))) o.length 0).isSome = true
  ·rw [if_pos hb] at hg; cases hg
  ·rw [if_neg hb] at hg
   have h1 : firstN (fun j => !symB l (rd o (j : Int))) o.length 0 = none := by
    cases hf : firstN (fun j => !symB l (rd o (j : Int))) o.length 0 with
    | none => rfl
    | some j => rw [hf] at hb; exact absurd rfl hb
   refine ⟨hl, fun i hi => ?_, fun i j hi hj => ?_⟩
   ·have := (firstN_none o.length 0).1 h1 i (by omega) (by omega)
    simpa using this
   ·rcases scanN_cases (odupFault o) 0 o.length 0 with ⟨h2, _⟩ | ⟨q, _, _, h3⟩
    ·have hi2 := h2 i (by omega) (by omega)
     unfold odupFault at hi2
     by_cases hd : odupB o i = true
     ·rw [if_pos hd] at hi2; cases hi2
     unfold odupB at hd
     have h4 : firstN (fun j => rd o (i : Int) == rd o (j : Int)) i 0 = none := by
      cases hf : firstN (fun j => rd o (i : Int) == rd o (j : Int)) i 0 with
      | none => rfl
      | some j => rw [hf] at hd; exact absurd rfl hd
     have := (firstN_none i 0).1 h4 j (by omega) (by omega)
     simpa using this
    ·rw [hg] at h3
     unfold odupFault at h3
     by_cases hd : odupB o q = true
     ·rw [if_pos hd] at h3; cases h3
     ·rw [if_neg hd] at h3; cases h3
 ·rw [if_neg hl] at hg; cases hg
theorem cmp_place {l : List S65} {o : List Int} (h : ordF l o = 0) {n : Int} (hn : symB l n = true) :
  ∃ j, j < o.length ∧ placeN (fun j => n == rd o (j : Int)) o.length = (j : Int) ∧ rd o (j : Int) = n := by
 obtain ⟨hl, hs, hd⟩ := cmp_ord h
 obtain ⟨h0, h1⟩ := symB_true hn
 obtain ⟨q, hq, e⟩ := perm_place o (fun i hi => by
  have := symB_true (hs i hi); omega) hd n h0 (by omega)
 rcases placeN_cases (fun j => n == rd o (j : Int)) o.length with ⟨_, h2⟩ | ⟨j, hj, h2, h3, _⟩
 ·have := h2 q hq
  simp [e] at this
 ·exact ⟨j, hj, h2, by simpa using (beq_iff_eq.1 h3).symm⟩
end Go.Proofs.YtgichahebemmiaaDoor.Pure
set_option linter.unusedVariables false
set_option linter.unusedSectionVars false
namespace Go.Proofs.YtgichahebemmiaaDoor.Pure
open Go.RowKit Go.Proofs.YtgichahebemmiaaDoor.P Go.Proofs.YtgichahebemmiaaDoorW.PrintWords Go.Proofs.YtgichahebemmiaaDoorW.PrintLast Go.Proofs.YtgichahebemmiaaDoor.Base
def lexB (l : List S65) (a b : List Int) (g : Nat → Nat → Bool) : List Nat → List Nat → Bool
 | p :: ps, q :: qs => if sbL l a p = sbL l b q then lexB l a b g ps qs else g p q
 | _, _ => false
def rkP (o : List Int) (n : Int) : Int := placeN (fun j => n == rd o (j : Int)) o.length
def cellB (l : List S65) (o a b : List Int) (g : Nat → Nat → Bool) (i j : Nat) : Bool :=
 if rd b (j : Int) < 0 then (if rd a (i : Int) ≥ 0 then decide (rd b (j : Int) ∈ sbL l a i) else false)
 else if rd a (i : Int) < 0 then false
 else if (argsAt (arL l) a i).any (fun p => decide (sbL l a p = sbL l b j) || g p j) = true then true
 else if rkP o (rd a (i : Int)) < rkP o (rd b (j : Int)) then false
 else if (argsAt (arL l) b j).all (fun q => g i q) = true then
  (if rd a (i : Int) = rd b (j : Int) then lexB l a b g (argsAt (arL l) a i) (argsAt (arL l) b j) else true)
 else false
def gB (l : List S65) (o a b : List Int) : Nat → Nat → Nat → Bool
 | 0, _, _ => false
 | f + 1, i, j => cellB l o a b (gB l o a b f) i j
def gT (l : List S65) (o a b : List Int) (i j : Nat) : Bool := gB l o a b (a.length + b.length) i j
theorem lexB_congr {l : List S65} {a b : List Int} {g g' : Nat → Nat → Bool} : ∀ ps qs : List Nat, (∀ p ∈ ps, ∀ q ∈ qs, g p q = g' p q) → lexB l a b g ps qs = lexB l a b g' ps qs
 | p :: ps, q :: qs, h => by
  rw [lexB, lexB, lexB_congr ps qs (fun x hx y hy => h x (by simp [hx]) y (by simp [hy])), h p (by simp) q (by simp)]
 | [], _, _ => by simp [lexB]
 | _ :: _, [], _ => by simp [lexB]
section
variable {l : List S65} {o a b : List Int} (ha : RightT l a) (hb : RightT l b)
include ha hb
theorem args_in {i : Nat} (hi : i < a.length) : ∀ p ∈ argsAt (arL l) a i, i < p ∧ p < a.length := by
 obtain ⟨e, he, _⟩ := end_of ha hi
 exact fun p hp => ⟨((argsAt_bound hi he).2 p hp).1, ((argsAt_bound hi he).2 p hp).2.1⟩
theorem cellB_congr {g g' : Nat → Nat → Bool} {i j : Nat} (hi : i < a.length) (hj : j < b.length) (h : ∀ p q, p < a.length → q < b.length → i ≤ p → j ≤ q → i + j < p + q → g p q = g' p q) : cellB l o a b g i j = cellB l o a b g' i j := by
 have hA := args_in ha hb hi
 have hB := args_in hb ha hj
 unfold cellB
 by_cases hy : rd b (j : Int) < 0
 ·rw [if_pos hy, if_pos hy]
 rw [if_neg hy, if_neg hy]
 have e1 : (argsAt (arL l) a i).any (fun p => decide (sbL l a p = sbL l b j) || g p j) = (argsAt (arL l) a i).any (fun p => decide (sbL l a p = sbL l b j) || g' p j) := by
  rw [Bool.eq_iff_iff, List.any_eq_true, List.any_eq_true]
  constructor
  ·rintro ⟨p, hp, h1⟩; exact ⟨p, hp, by rw [← h p j (hA p hp).2 hj (by have := hA p hp; omega) (Nat.le_refl _) (by have := hA p hp; omega)]; exact h1⟩
  ·rintro ⟨p, hp, h1⟩; exact ⟨p, hp, by rw [h p j (hA p hp).2 hj (by have := hA p hp; omega) (Nat.le_refl _) (by have := hA p hp; omega)]; exact h1⟩
 have e2 : (argsAt (arL l) b j).all (fun q => g i q) = (argsAt (arL l) b j).all (fun q => g' i q) := by
  rw [Bool.eq_iff_iff, List.all_eq_true, List.all_eq_true]
  constructor
  ·intro h1 q hq; rw [← h i q hi (hB q hq).2 (Nat.le_refl _) (by have := hB q hq; omega) (by have := hB q hq; omega)]; exact h1 q hq
  ·intro h1 q hq; rw [h i q hi (hB q hq).2 (Nat.le_refl _) (by have := hB q hq; omega) (by have := hB q hq; omega)]; exact h1 q hq
 have e3 := lexB_congr (l := l) (a := a) (b := b) (g := g) (g' := g') (argsAt (arL l) a i) (argsAt (arL l) b j) (fun p hp q hq => h p q (hA p hp).2 (hB q hq).2 (by have := hA p hp; omega) (by have := hB q hq; omega) (by have := hA p hp; have := hB q hq; omega))
 rw [e1, e2, e3]
theorem gB_more : ∀ (f g i j : Nat), i < a.length → j < b.length → a.length + b.length ≤ f + i + j → a.length + b.length ≤ g + i + j → gB l o a b f i j = gB l o a b g i j
 | 0, g, i, j, hi, hj, h1, h2 => by omega
 | f + 1, 0, i, j, hi, hj, h1, h2 => by omega
 | f + 1, g + 1, i, j, hi, hj, h1, h2 => by
  rw [gB, gB]
  exact cellB_congr ha hb hi hj (fun p q hp hq h3 h4 h5 => gB_more f g p q hp hq (by omega) (by omega))
theorem gT_eq {i j : Nat} (hi : i < a.length) (hj : j < b.length) : gT l o a b i j = cellB l o a b (gT l o a b) i j := by
 have e : gT l o a b i j = gB l o a b (a.length + b.length + 1) i j := gB_more ha hb _ _ i j hi hj (by omega) (by omega)
 rw [e, gB]
 rfl
end
def gM (l : List S65) (o a b : List Int) (m : Nat) (p q : Int) : Option Bool := if 0 ≤ p ∧ p < (a.length : Int) ∧ 0 ≤ q ∧ q < (b.length : Int) ∧ (m : Int) < p + q then some (gT l o a b p.toNat q.toNat) else none
section
variable {l : List S65} {o a b : List Int} (ha : RightT l a) (hb : RightT l b) (ho : ordF l o = 0)
include ha hb
theorem gM_some {m p q : Nat} (hp : p < a.length) (hq : q < b.length) (h : m < p + q) : gM l o a b m (p : Int) (q : Int) = some (gT l o a b p q) := by
 unfold gM
 rw [if_pos (by omega)]
 simp
include ho
theorem isGr_l2 {i j : Nat} (hi : i < a.length) (hj : j < b.length) : ∀ (ps qs xs ys : List Nat), ps.length = qs.length → (argsAt (arL l) a i) = xs ++ ps → (argsAt (arL l) b j) = ys ++ qs → xs.length = ys.length →
  Ev (fun k => impl_comparer_isGreater.l2 (gM l o a b (i + j)) k [(⟨⟨l⟩, o, a, b, 0⟩ : S79)] ((argsAt (arL l) b j).map fun p : Nat => (p : Int)) ((argsAt (arL l) a i).map fun p : Nat => (p : Int)) (((argsAt (arL l) a i).map fun p : Nat => (p : Int)).length : Int) (xs.length : Int)) (lexB l a b (gT l o a b) ps qs)
 | [], qs, xs, ys, h1, h2, h3, h4 => by
  refine ev_succ ?_
  simp only [impl_comparer_isGreater.l2]
  refine ev_neg (by rw [List.length_map, h2]; simp) (ev_to (ev_some _) (by cases qs <;> simp [lexB]))
 | p :: ps, [], xs, ys, h1, h2, h3, h4 => by simp at h1
 | p :: ps, q :: qs, xs, ys, h1, h2, h3, h4 => by
  have hA := args_in ha hb hi
  have hB := args_in hb ha hj
  have hp := hA p (by rw [h2]; simp)
  have hq := hB q (by rw [h3]; simp)
  have ih := isGr_l2 hi hj ps qs (xs ++ [p]) (ys ++ [q]) (by simpa using h1) (by rw [h2]; simp) (by rw [h3]; simp) (by simp [h4])
  have hla : (argsAt (arL l) a i).length ≤ 2 := by
   obtain ⟨e, he, _⟩ := end_of ha hi
   rw [(argsAt_bound hi he).1]; exact arL_le ha.sig (ha.nodes i hi)
  have hl2 : xs.length + (ps.length + 1) ≤ 2 := by rw [h2] at hla; simpa using hla
  have r1 : rd ((argsAt (arL l) a i).map fun p : Nat => (p : Int)) (xs.length : Int) = (p : Int) := by
   rw [rd_get _ _ (by rw [h2]; simp)]; simp [h2]
  have r2 : rd ((argsAt (arL l) b j).map fun p : Nat => (p : Int)) (xs.length : Int) = (q : Int) := by
   rw [h4, rd_get _ _ (by rw [h3]; simp)]; simp [h3]
  refine ev_succ ?_
  simp only [impl_comparer_isGreater.l2]
  rw [r1, r2, wrap_up (by omega)]
  refine ev_pos (by rw [List.length_map, h2]; simp; omega) (ev_pos (by omega) (ev_pos (by rw [List.length_map, h2]; simp; omega) (ev_pos (by rw [List.length_map, h3, h4]; simp; omega) (ev_bind (cmpSame_ev ha hb hp.2 hq.2) ?_))))
  rw [lexB]
  by_cases e : sbL l a p = sbL l b q
  ·rw [if_pos e]
   refine ev_pos (by simpa using e) ?_
   simpa using ih
  ·rw [if_neg e]
   exact ev_neg (by simpa using e) (ev_bindq (gM_some ha hb hp.2 hq.2 (by omega)) (ev_some _))
theorem rank_facts {x y : Int} (hx : symB l x = true) (hy : symB l y = true) : ∃ p q : Nat, p < o.length ∧ q < o.length ∧ rkP o x = p ∧ rkP o y = q ∧ (p = q ↔ x = y) := by
 obtain ⟨p, hp, h1, h2⟩ := cmp_place ho hx
 obtain ⟨q, hq, h3, h4⟩ := cmp_place ho hy
 refine ⟨p, q, hp, hq, h1, h3, fun e => ?_, fun e => ?_⟩
 ·rw [← h2, ← h4, e]
 ·subst e
  have : ((p : Nat) : Int) = (q : Int) := h1.symm.trans h3
  omega
theorem isGr_ev {i j : Nat} (hi : i < a.length) (hj : j < b.length) : Ev (fun k => impl_comparer_isGreater.f (gM l o a b (i + j)) k [(⟨⟨l⟩, o, a, b, 0⟩ : S79)] (i : Int) (j : Int)) (gT l o a b i j) := by
 have e0 : (rd_T79 [(⟨⟨l⟩, o, a, b, 0⟩ : S79)] 0).f0.f0 = l := rfl
 have e1 : (rd_T79 [(⟨⟨l⟩, o, a, b, 0⟩ : S79)] 0).f1 = o := rfl
 have e2 : (rd_T79 [(⟨⟨l⟩, o, a, b, 0⟩ : S79)] 0).f2 = a := rfl
 have e3 : (rd_T79 [(⟨⟨l⟩, o, a, b, 0⟩ : S79)] 0).f3 = b := rfl
 have hla := ha.len
 have hlb := hb.len
 have hol : o.length ≤ 6 := by have := (cmp_ord ho).1; have := ha.sig.len; omega
 have hA := args_in ha hb hi
 have hB := args_in hb ha hj
 rw [gT_eq ha hb hi hj]
 unfold impl_comparer_isGreater.f cellB
 rw [e0, e2, e3]
 refine ev_pos (by simp) (ev_pos (by omega) (ev_pos (by omega) (ev_pos (by omega) (ev_pos (by omega) ?_))))
 by_cases hy : rd b (j : Int) < 0
 ·rw [if_pos hy]
  refine ev_pos hy ?_
  by_cases hx : rd a (i : Int) ≥ 0
  ·rw [if_pos hx]
   exact ev_pos hx (ev_bind (subterm_ev ha hi) (ev_bind (cmpContains_ev _ (by have := sbL_length ha i; omega) _) (ev_some _)))
  ·rw [if_neg hx]; exact ev_neg hx (ev_some _)
 rw [if_neg hy]
 refine ev_neg hy ?_
 by_cases hx : rd a (i : Int) < 0
 ·rw [if_pos hx]; exact ev_pos hx (ev_some _)
 rw [if_neg hx]
 refine ev_neg hx (ev_bind (cmpArgs_ev ha hi) (ev_bind (cmpArgs_ev hb hj) ?_))
 obtain ⟨xs, hxs⟩ : ∃ xs, xs = argsAt (arL l) a i := ⟨_, rfl⟩
 obtain ⟨ys, hys⟩ : ∃ ys, ys = argsAt (arL l) b j := ⟨_, rfl⟩
 have hlx : xs.length = arL l (rd a (i : Int)) ∧ xs.length ≤ 2 := by
  obtain ⟨e, he, _⟩ := end_of ha hi
  rw [hxs, (argsAt_bound hi he).1]; exact ⟨rfl, arL_le ha.sig (ha.nodes i hi)⟩
 have hly : ys.length = arL l (rd b (j : Int)) ∧ ys.length ≤ 2 := by
  obtain ⟨e, he, _⟩ := end_of hb hj
  rw [hys, (argsAt_bound hj he).1]; exact ⟨rfl, arL_le hb.sig (hb.nodes j hj)⟩
 have hsx : symB l (rd a (i : Int)) = true := cmp_sym (ha.nodes i hi) hx
 have hsy : symB l (rd b (j : Int)) = true := cmp_sym (hb.nodes j hj) hy
 obtain ⟨rp, rq, hrp, hrq, er1, er2, hiff⟩ := rank_facts ha hb ho hsx hsy
 have h2 : ∀ hxy : rd a (i : Int) = rd b (j : Int), Ev (fun k => impl_comparer_isGreater.l2 (gM l o a b (i + j)) k [(⟨⟨l⟩, o, a, b, 0⟩ : S79)] (ys.map fun p : Nat => (p : Int)) (xs.map fun p : Nat => (p : Int)) ((xs.map fun p : Nat => (p : Int)).length : Int) 0) (lexB l a b (gT l o a b) xs ys) := by
  intro hxy
  have := isGr_l2 ha hb ho hi hj xs ys [] [] (by rw [hlx.1, hly.1, hxy]) (by rw [← hxs]; simp) (by rw [← hys]; simp) rfl
  rw [← hxs, ← hys] at this
  simpa using this
 rw [← hxs, ← hys]
 rw [← hxs] at hA
 rw [← hys] at hB
 -- what comes behind the second loop
 have h1 : ∀ (d n : Nat), n + d = ys.length → Ev (fun k => impl_comparer_isGreater.l1 (gM l o a b (i + j)) k [(⟨⟨l⟩, o, a, b, 0⟩ : S79)] (i : Int) (xs.map fun p : Nat => (p : Int)) (ys.map fun p : Nat => (p : Int)) ((rp : Int) - rq) (ys.map fun p : Nat => (p : Int)) ((ys.map fun p : Nat => (p : Int)).length : Int) (n : Int))
   (if (ys.drop n).all (fun q => gT l o a b i q) = true then (if (rp : Int) - rq > 0 then true else lexB l a b (gT l o a b) xs ys) else false) ∨ ¬ ((rp : Int) - rq > 0) ∧ rp ≠ rq := by
  by_cases hcase : ¬ ((rp : Int) - rq > 0) ∧ rp ≠ rq
  ·exact fun _ _ _ => .inr hcase
  intro d
  induction d with
  | zero =>
   intro n hn
   refine .inl (ev_succ ?_)
   simp only [impl_comparer_isGreater.l1]
   rw [List.drop_eq_nil_of_le (by omega)]
   refine ev_neg (by rw [List.length_map]; omega) ?_
   simp only [List.all_nil, if_true]
   by_cases hg : (rp : Int) - rq > 0
   ·rw [if_pos hg]; exact ev_pos hg (ev_some _)
   ·rw [if_neg hg]
    have he : rp = rq := by omega
    exact ev_neg hg (h2 (hiff.1 he))
  | succ d ih =>
   intro n hn
   have hn2 : n < ys.length := by omega
   have hq := hB _ (List.getElem_mem hn2)
   rcases ih (n + 1) (by omega) with ih | ih
   ·refine .inl (ev_succ ?_)
    simp only [impl_comparer_isGreater.l1]
    have r1 : rd (ys.map fun p : Nat => (p : Int)) (n : Int) = (ys[n] : Int) := by rw [rd_get _ _ (by simpa using hn2)]; simp
    rw [r1, wrap_up (by omega), List.drop_eq_getElem_cons hn2, List.all_cons]
    refine ev_pos (by rw [List.length_map]; omega) (ev_pos (by omega) (ev_pos (by rw [List.length_map]; omega) (ev_bindq (gM_some ha hb hi hq.2 (by omega)) ?_)))
    by_cases hg : gT l o a b i ys[n] = true
    ·rw [hg, Bool.true_and]
     exact ev_pos rfl ih
    ·have hg' : gT l o a b i ys[n] = false := by simpa using hg
     rw [hg', Bool.false_and, if_neg (by simp)]
     exact ev_neg (by simp) (ev_some _)
   ·exact .inr ih
 -- behind the first loop
 have hrest : Ev (fun k => if 0 < ([(⟨⟨l⟩, o, a, b, 0⟩ : S79)].length : Int) then ((slices_Index_int64_int64.f k o (rd a (i : Int))).bind fun t175 => ((slices_Index_int64_int64.f k o (rd b (j : Int))).bind fun t178 => (if (wrap64 (t175 - t178)) < 0 then (some false) else (impl_comparer_isGreater.l1 (gM l o a b (i + j)) k [(⟨⟨l⟩, o, a, b, 0⟩ : S79)] (i : Int) (xs.map fun p : Nat => (p : Int)) (ys.map fun p : Nat => (p : Int)) (wrap64 (t175 - t178)) (ys.map fun p : Nat => (p : Int)) ((ys.map fun p : Nat => (p : Int)).length : Int) 0)))) else none)
   (if rkP o (rd a (i : Int)) < rkP o (rd b (j : Int)) then false else if ys.all (fun q => gT l o a b i q) = true then (if rd a (i : Int) = rd b (j : Int) then lexB l a b (gT l o a b) xs ys else true) else false) := by
  refine ev_pos (by simp) (ev_bind (slicesIndex_ev o (by omega) _) (ev_bind (slicesIndex_ev o (by omega) _) ?_))
  have er1' : placeN (fun j => rd a (i : Int) == rd o (j : Int)) o.length = rp := er1
  have er2' : placeN (fun q => rd b (j : Int) == rd o (q : Int)) o.length = rq := er2
  rw [er1', er2', er1, er2, wrap_id (by omega) (by omega)]
  by_cases hlt : (rp : Int) < rq
  ·rw [if_pos hlt]; exact ev_pos (by omega) (ev_some _)
  rw [if_neg hlt]
  refine ev_neg (by omega) ?_
  rcases h1 ys.length 0 (by omega) with h1 | h1
  ·rw [List.drop_zero] at h1
   refine ev_to h1 ?_
   by_cases hall : ys.all (fun q => gT l o a b i q) = true
   ·rw [if_pos hall, if_pos hall]
    by_cases hxy : rd a (i : Int) = rd b (j : Int)
    ·rw [if_pos hxy, if_neg (by have := hiff.2 hxy; omega)]
    ·rw [if_neg hxy, if_pos (by have : rp ≠ rq := fun e => hxy (hiff.1 e); omega)]
   ·rw [if_neg hall, if_neg hall]
  ·omega
 have h0 : ∀ (d n : Nat), n + d = xs.length → Ev (fun k => impl_comparer_isGreater.l0 (gM l o a b (i + j)) k [(⟨⟨l⟩, o, a, b, 0⟩ : S79)] (i : Int) (j : Int) (rd a (i : Int)) (rd b (j : Int)) (xs.map fun p : Nat => (p : Int)) (ys.map fun p : Nat => (p : Int)) (xs.map fun p : Nat => (p : Int)) ((xs.map fun p : Nat => (p : Int)).length : Int) (n : Int))
   (if (xs.drop n).any (fun p => decide (sbL l a p = sbL l b j) || gT l o a b p j) = true then true else (if rkP o (rd a (i : Int)) < rkP o (rd b (j : Int)) then false else if ys.all (fun q => gT l o a b i q) = true then (if rd a (i : Int) = rd b (j : Int) then lexB l a b (gT l o a b) xs ys else true) else false)) := by
  intro d
  induction d with
  | zero =>
   intro n hn
   refine ev_succ ?_
   simp only [impl_comparer_isGreater.l0]
   rw [List.drop_eq_nil_of_le (by omega), e1]
   refine ev_neg (by rw [List.length_map]; omega) ?_
   simp only [List.any_nil, Bool.false_eq_true, if_false]
   exact hrest
  | succ d ih =>
   intro n hn
   have hn2 : n < xs.length := by omega
   have hp := hA _ (List.getElem_mem hn2)
   refine ev_succ ?_
   simp only [impl_comparer_isGreater.l0]
   have r1 : rd (xs.map fun p : Nat => (p : Int)) (n : Int) = (xs[n] : Int) := by rw [rd_get _ _ (by simpa using hn2)]; simp
   rw [r1, wrap_up (by omega), List.drop_eq_getElem_cons hn2, List.any_cons]
   refine ev_pos (by rw [List.length_map]; omega) (ev_pos (by omega) (ev_pos (by rw [List.length_map]; omega) (ev_bind (cmpSame_ev ha hb hp.2 hj) ?_)))
   by_cases he : sbL l a xs[n] = sbL l b j
   ·refine ev_pos (by simpa using he) (ev_to (ev_some _) ?_)
    rw [if_pos (by simp [he])]
   ·refine ev_neg (by simpa using he) (ev_bindq (gM_some ha hb hp.2 hj (by omega)) ?_)
    by_cases hg : gT l o a b xs[n] j = true
    ·refine ev_pos hg (ev_to (ev_some _) ?_)
     rw [if_pos (by simp [hg])]
    ·refine ev_neg hg (ev_to (ih (n + 1) (by omega)) ?_)
     have hg' : gT l o a b xs[n] j = false := by simpa using hg
     simp [he, hg']
 have := h0 xs.length 0 (by omega)
 rw [List.drop_zero] at this
 exact this
theorem greater_ev : ∀ (d i j : Nat), a.length + b.length ≤ d + i + j → i < a.length → j < b.length → ∃ K, ∀ k, K ≤ k → impl_comparer_greater.f k [(⟨⟨l⟩, o, a, b, 0⟩ : S79)] (i : Int) (j : Int) = some (gT l o a b i j) := by
 intro d
 induction d with
 | zero => intro i j h hi hj; omega
 | succ d ih =>
  intro i j h hi hj
  have hla := ha.len
  have hlb := hb.len
  -- one number of rounds for all pairs further on
  obtain ⟨K, hK⟩ := cmp_unif a.length (fun p K => ∀ q, q < b.length → a.length + b.length ≤ d + p + q → ∀ k, K ≤ k → impl_comparer_greater.f k [(⟨⟨l⟩, o, a, b, 0⟩ : S79)] (p : Int) (q : Int) = some (gT l o a b p q))
   (fun p K K' hKK hP q hq hm k hk => hP q hq hm k (by omega)) (fun p hp => by
    obtain ⟨K, hK⟩ := cmp_unif b.length (fun q K => a.length + b.length ≤ d + p + q → ∀ k, K ≤ k → impl_comparer_greater.f k [(⟨⟨l⟩, o, a, b, 0⟩ : S79)] (p : Int) (q : Int) = some (gT l o a b p q))
     (fun q K K' hKK hP hm k hk => hP hm k (by omega)) (fun q hq => by
      by_cases hm : a.length + b.length ≤ d + p + q
      ·obtain ⟨K, hK⟩ := ih p q hm hp hq
       exact ⟨K, fun _ => hK⟩
      ·exact ⟨0, fun h => absurd h hm⟩)
    exact ⟨K, fun q hq => hK q hq⟩)
  obtain ⟨N, hN⟩ := isGr_ev ha hb ho hi hj
  refine ⟨max K (N + 1) + 1, fun k hk => ?_⟩
  obtain ⟨k, rfl⟩ : ∃ m, k = m + 1 := ⟨k - 1, by omega⟩
  obtain ⟨k', rfl⟩ : ∃ m, k = m + 1 := ⟨k - 1, by omega⟩
  rw [impl_comparer_greater.f_succ, if_pos (by omega)]
  refine impl_comparer_isGreater.mono (g := gM l o a b (i + j)) (fun p q r hr => ?_) _ _ _ k' _ (hN k' (by omega))
  unfold gM at hr
  by_cases hc : 0 ≤ p ∧ p < (a.length : Int) ∧ 0 ≤ q ∧ q < (b.length : Int) ∧ ((i + j : Nat) : Int) < p + q
  ·rw [if_pos hc] at hr
   obtain ⟨p', rfl⟩ : ∃ n : Nat, p = n := ⟨p.toNat, by omega⟩
   obtain ⟨q', rfl⟩ : ∃ n : Nat, q = n := ⟨q.toNat, by omega⟩
   rw [hK p' (by omega) q' (by omega) (by omega) (k' + 1) (by omega)]
   simpa using hr
  ·rw [if_neg hc] at hr; cases hr
theorem isGreater_ev : Ev (fun k => impl_isGreater.f k l o a b) (gT l o a b 0 0) := by
 have hla := ha.len
 have hlb := hb.len
 obtain ⟨K, hK⟩ := greater_ev ha hb ho (a.length + b.length) 0 0 (by omega) (by omega) (by omega)
 exact ⟨K, fun k hk => hK k hk⟩
end
end Go.Proofs.YtgichahebemmiaaDoor.Pure
set_option linter.unusedVariables false
set_option linter.unusedSectionVars false
namespace Go.Proofs.YtgichahebemmiaaDoor.Pure
open Go.RowKit Go.Proofs.YtgichahebemmiaaDoor.P Go.Proofs.YtgichahebemmiaaDoorW.PrintWords Go.Proofs.YtgichahebemmiaaDoorW.PrintLast Go.Proofs.YtgichahebemmiaaDoor.Base
theorem tab_idx {p q m n : Nat} (hp : p < m) (hq : q < n) (hm : m ≤ 24) (hn : n ≤ 24) : wrap64 (wrap64 ((p : Int) * (n : Int)) + (q : Int)) = ((p * n + q : Nat) : Int) ∧ p * n + q < m * n ∧ p * n ≤ 576 := by
 have h1 : (p + 1) * n ≤ m * n := Nat.mul_le_mul_right _ hp
 rw [Nat.succ_mul] at h1
 have h2 : p * n ≤ 24 * 24 := Nat.mul_le_mul (by omega) hn
 refine ⟨?_, by omega, by omega⟩
 have e : (p : Int) * (n : Int) = ((p * n : Nat) : Int) := by push_cast; rfl
 rw [e, wrap_id (x := ((p * n : Nat) : Int)) (by omega) (by omega), wrap_id (by omega) (by omega)]
 push_cast; rfl
theorem rdOf_nat (T : List Bool) (n : Nat) : rdOf false T (n : Int) = T.getD n false := by
 unfold rdOf
 rw [Int.toNat_natCast]
def TabOK (l : List S65) (o a b : List Int) (T : List Bool) (n : Nat) : Prop := T.length = a.length * b.length ∧ ∀ p q, p < a.length → q < b.length → n ≤ p * b.length + q → T.getD (p * b.length + q) false = gT l o a b p q
section
variable {l : List S65} {o a b : List Int} (ha : RightT l a) (hb : RightT l b) (ho : ordF l o = 0)
include ha hb ho
theorem tab_at {T : List Bool} {n : Nat} (hT : TabOK l o a b T n) {p q : Nat} (hp : p < a.length) (hq : q < b.length) (h : n ≤ p * b.length + q) :
  0 ≤ wrap64 (wrap64 ((p : Int) * (b.length : Int)) + (q : Int)) ∧ wrap64 (wrap64 ((p : Int) * (b.length : Int)) + (q : Int)) < (T.length : Int) ∧ rdOf false T (wrap64 (wrap64 ((p : Int) * (b.length : Int)) + (q : Int))) = gT l o a b p q := by
 obtain ⟨e, h1, _⟩ := tab_idx hp hq ha.len.2 hb.len.2
 rw [e, rdOf_nat, hT.1]
 exact ⟨by omega, by omega, hT.2 p q hp hq h⟩
theorem cell_l2 {T : List Bool} {i j : Nat} (hi : i < a.length) (hj : j < b.length) (hT : TabOK l o a b T (i * b.length + j + 1)) : ∀ (ps qs xs ys : List Nat), ps.length = qs.length → (argsAt (arL l) a i) = xs ++ ps → (argsAt (arL l) b j) = ys ++ qs → xs.length = ys.length →
  Ev (fun k => spec_l7Cell.l2 k [(⟨l⟩ : S32)] a b T (b.length : Int) ((argsAt (arL l) a i).map fun p : Nat => (p : Int)) ((argsAt (arL l) b j).map fun p : Nat => (p : Int)) (xs.length : Int)) (lexB l a b (gT l o a b) ps qs)
 | [], qs, xs, ys, h1, h2, h3, h4 => by
  refine ev_succ ?_
  simp only [spec_l7Cell.l2]
  refine ev_neg (by rw [List.length_map, h2]; simp) (ev_succ ?_)
  simp only [spec_l7Cell.j3]
  exact ev_neg (by simp) (ev_to (ev_some _) (by cases qs <;> simp [lexB]))
 | p :: ps, [], xs, ys, h1, h2, h3, h4 => by simp at h1
 | p :: ps, q :: qs, xs, ys, h1, h2, h3, h4 => by
  have hA := args_in ha hb hi
  have hB := args_in hb ha hj
  have hp := hA p (by rw [h2]; simp)
  have hq := hB q (by rw [h3]; simp)
  have ih := cell_l2 hi hj hT ps qs (xs ++ [p]) (ys ++ [q]) (by simpa using h1) (by rw [h2]; simp) (by rw [h3]; simp) (by simp [h4])
  have hla : (argsAt (arL l) a i).length ≤ 2 := by
   obtain ⟨e, he, _⟩ := end_of ha hi
   rw [(argsAt_bound hi he).1]; exact arL_le ha.sig (ha.nodes i hi)
  have hl2 : xs.length + (ps.length + 1) ≤ 2 := by rw [h2] at hla; simpa using hla
  have r1 : rd ((argsAt (arL l) a i).map fun p : Nat => (p : Int)) (xs.length : Int) = (p : Int) := by
   rw [rd_get _ _ (by rw [h2]; simp)]; simp [h2]
  have r2 : rd ((argsAt (arL l) b j).map fun p : Nat => (p : Int)) (xs.length : Int) = (q : Int) := by
   rw [h4, rd_get _ _ (by rw [h3]; simp)]; simp [h3]
  have hm : (i + 1) * b.length ≤ p * b.length := Nat.mul_le_mul_right _ hp.1
  rw [Nat.succ_mul] at hm
  obtain ⟨t1, t2, t3⟩ := tab_at ha hb ho hT hp.2 hq.2 (by omega)
  refine ev_succ ?_
  simp only [spec_l7Cell.l2]
  refine ev_pos (by rw [List.length_map, h2]; simp; omega) (ev_succ ?_)
  simp only [spec_l7Cell.j3]
  rw [r1, r2, wrap_up (by omega)]
  refine ev_pos (decide_eq_true (by rw [List.length_map, h3, h4]; simp; omega)) (ev_pos (by omega) (ev_pos (by rw [List.length_map, h2]; simp; omega) (ev_pos (by rw [List.length_map, h3, h4]; simp; omega) (ev_bind (l7Equal_ev ha hb hp.2 hq.2) ?_))))
  rw [lexB]
  by_cases e : sbL l a p = sbL l b q
  ·rw [if_pos e]
   refine ev_pos (by simpa using e) ?_
   simpa using ih
  ·rw [if_neg e]
   exact ev_neg (by simpa using e) (ev_pos t1 (ev_pos t2 (ev_to (ev_some _) t3)))
theorem cell_ev {T : List Bool} {i j : Nat} (hi : i < a.length) (hj : j < b.length) (hT : TabOK l o a b T (i * b.length + j + 1)) : Ev (fun k => spec_l7Cell.f k [(⟨l⟩ : S32)] o a b (i : Int) (j : Int) T) (gT l o a b i j) := by
 have hla := ha.len
 have hlb := hb.len
 have hol : o.length ≤ 6 := by have := (cmp_ord ho).1; have := ha.sig.len; omega
 have hA := args_in ha hb hi
 have hB := args_in hb ha hj
 rw [gT_eq ha hb hi hj]
 unfold spec_l7Cell.f cellB
 refine ev_pos (by omega) (ev_pos (by omega) ?_)
 by_cases hy : rd b (j : Int) < 0
 ·rw [if_pos hy]
  refine ev_pos hy (ev_pos (by omega) (ev_pos (by omega) ?_))
  by_cases hx : rd a (i : Int) ≥ 0
  ·rw [if_pos hx]
   obtain ⟨e, he, h1, h2, hs⟩ := end_of ha hi
   have e1 := l3End_ev l ha.sig a (by omega) ha.nodes (a.length - i) i (by omega)
   rw [he] at e1
   obtain ⟨c, hc, hcev⟩ := cmpCount_ev ((a.take e).drop i) (rd b (j : Int)) (by simp only [List.length_drop, List.length_take]; omega)
   refine ev_pos hx (ev_bind e1 (ev_pos (by simp only [endI]; omega) (ev_pos (by simp only [endI]; omega) ?_)))
   simp only [endI, Int.toNat_natCast]
   refine ev_bind hcev (ev_to (ev_some _) ?_)
   rw [hs]
   by_cases hm : rd b (j : Int) ∈ (a.take e).drop i
   ·rw [decide_eq_true hm]; exact decide_eq_true (by have := hc.2 hm; omega)
   ·rw [decide_eq_false hm]; exact decide_eq_false (fun h => hm (hc.1 (by omega)))
  ·rw [if_neg hx]; exact ev_neg hx (ev_some _)
 rw [if_neg hy]
 refine ev_neg hy (ev_pos (by omega) (ev_pos (by omega) ?_))
 by_cases hx : rd a (i : Int) < 0
 ·rw [if_pos hx]; exact ev_pos hx (ev_some _)
 rw [if_neg hx]
 refine ev_neg hx (ev_bind (starts_ev ha hi hx) ?_)
 obtain ⟨xs, hxs⟩ : ∃ xs, xs = argsAt (arL l) a i := ⟨_, rfl⟩
 obtain ⟨ys, hys⟩ : ∃ ys, ys = argsAt (arL l) b j := ⟨_, rfl⟩
 have hlx : xs.length = arL l (rd a (i : Int)) ∧ xs.length ≤ 2 := by
  obtain ⟨e, he, _⟩ := end_of ha hi
  rw [hxs, (argsAt_bound hi he).1]; exact ⟨rfl, arL_le ha.sig (ha.nodes i hi)⟩
 have hly : ys.length = arL l (rd b (j : Int)) ∧ ys.length ≤ 2 := by
  obtain ⟨e, he, _⟩ := end_of hb hj
  rw [hys, (argsAt_bound hj he).1]; exact ⟨rfl, arL_le hb.sig (hb.nodes j hj)⟩
 have h2 : ∀ hxy : rd a (i : Int) = rd b (j : Int), Ev (fun k => spec_l7Cell.l2 k [(⟨l⟩ : S32)] a b T (b.length : Int) (xs.map fun p : Nat => (p : Int)) (ys.map fun p : Nat => (p : Int)) 0) (lexB l a b (gT l o a b) xs ys) := by
  intro hxy
  have := cell_l2 ha hb ho hi hj hT xs ys [] [] (by rw [hlx.1, hly.1, hxy]) (by rw [← hxs]; simp) (by rw [← hys]; simp) rfl
  rw [← hxs, ← hys] at this
  simpa using this
 have hst := starts_ev hb hj hy
 rw [← hys] at hst
 rw [← hxs, ← hys]
 rw [← hxs] at hA
 rw [← hys] at hB
 have h1 : ∀ (d n : Nat), n + d = ys.length → Ev (fun k => spec_l7Cell.l1 k [(⟨l⟩ : S32)] a b (i : Int) (j : Int) T (b.length : Int) (xs.map fun p : Nat => (p : Int)) (ys.map fun p : Nat => (p : Int)) (n : Int))
   (if (ys.drop n).all (fun q => gT l o a b i q) = true then (if rd a (i : Int) = rd b (j : Int) then lexB l a b (gT l o a b) xs ys else true) else false) := by
  intro d
  induction d with
  | zero =>
   intro n hn
   refine ev_succ ?_
   simp only [spec_l7Cell.l1]
   rw [List.drop_eq_nil_of_le (by omega)]
   refine ev_neg (by rw [List.length_map]; omega) (ev_pos (by omega) (ev_pos (by omega) (ev_pos (by omega) (ev_pos (by omega) ?_))))
   simp only [List.all_nil, if_true]
   by_cases hxy : rd a (i : Int) = rd b (j : Int)
   ·rw [if_pos hxy]; exact ev_pos hxy (h2 hxy)
   ·rw [if_neg hxy]; exact ev_neg hxy (ev_some _)
  | succ d ih =>
   intro n hn
   have hn2 : n < ys.length := by omega
   have hq := hB _ (List.getElem_mem hn2)
   obtain ⟨t1, t2, t3⟩ := tab_at ha hb ho hT hi hq.2 (by omega)
   refine ev_succ ?_
   simp only [spec_l7Cell.l1]
   have r1 : rd (ys.map fun p : Nat => (p : Int)) (n : Int) = (ys[n] : Int) := by rw [rd_get _ _ (by simpa using hn2)]; simp
   rw [r1, wrap_up (by omega), List.drop_eq_getElem_cons hn2, List.all_cons, t3]
   refine ev_pos (by rw [List.length_map]; omega) (ev_pos (by omega) (ev_pos t1 (ev_pos t2 ?_)))
   by_cases hg : gT l o a b i ys[n] = true
   ·rw [hg, Bool.true_and]
    exact ev_pos rfl (ih (n + 1) (by omega))
   ·have hg' : gT l o a b i ys[n] = false := by simpa using hg
    rw [hg', Bool.false_and, if_neg (by simp)]
    exact ev_neg (by simp) (ev_some _)
 have h0 : ∀ (d n : Nat), n + d = xs.length → Ev (fun k => spec_l7Cell.l0 k [(⟨l⟩ : S32)] o a b (i : Int) (j : Int) T (b.length : Int) (xs.map fun p : Nat => (p : Int)) (n : Int))
   (if (xs.drop n).any (fun p => decide (sbL l a p = sbL l b j) || gT l o a b p j) = true then true else (if rkP o (rd a (i : Int)) < rkP o (rd b (j : Int)) then false else if ys.all (fun q => gT l o a b i q) = true then (if rd a (i : Int) = rd b (j : Int) then lexB l a b (gT l o a b) xs ys else true) else false)) := by
  intro d
  induction d with
  | zero =>
   intro n hn
   refine ev_succ ?_
   simp only [spec_l7Cell.l0]
   rw [List.drop_eq_nil_of_le (by omega)]
   refine ev_neg (by rw [List.length_map]; omega) (ev_pos (by omega) (ev_pos (by omega) (ev_bind (cmpRank_ev o (by omega) _) (ev_pos (by omega) (ev_pos (by omega) (ev_bind (cmpRank_ev o (by omega) _) ?_))))))
   simp only [List.any_nil, Bool.false_eq_true, if_false]
   by_cases hlt : rkP o (rd a (i : Int)) < rkP o (rd b (j : Int))
   ·rw [if_pos hlt]; exact ev_pos hlt (ev_some _)
   ·rw [if_neg hlt]
    refine ev_neg hlt (ev_bind hst ?_)
    have := h1 ys.length 0 (by omega)
    rwa [List.drop_zero] at this
  | succ d ih =>
   intro n hn
   have hn2 : n < xs.length := by omega
   have hp := hA _ (List.getElem_mem hn2)
   have hm : (i + 1) * b.length ≤ xs[n] * b.length := Nat.mul_le_mul_right _ hp.1
   rw [Nat.succ_mul] at hm
   obtain ⟨t1, t2, t3⟩ := tab_at ha hb ho hT hp.2 hj (by omega)
   refine ev_succ ?_
   simp only [spec_l7Cell.l0]
   have r1 : rd (xs.map fun p : Nat => (p : Int)) (n : Int) = (xs[n] : Int) := by rw [rd_get _ _ (by simpa using hn2)]; simp
   rw [r1, wrap_up (by omega), List.drop_eq_getElem_cons hn2, List.any_cons, t3]
   refine ev_pos (by rw [List.length_map]; omega) (ev_pos (by omega) (ev_pos t1 (ev_pos t2 ?_)))
   by_cases hg : gT l o a b xs[n] j = true
   ·refine ev_pos hg (ev_to (ev_some _) ?_)
    rw [if_pos (by simp [hg])]
   ·refine ev_neg hg (ev_bind (l7Equal_ev ha hb hp.2 hj) ?_)
    have hg' : gT l o a b xs[n] j = false := by simpa using hg
    by_cases he : sbL l a xs[n] = sbL l b j
    ·refine ev_pos (by simpa using he) (ev_to (ev_some _) ?_)
     rw [if_pos (by simp [he])]
    ·refine ev_neg (by simpa using he) (ev_to (ih (n + 1) (by omega)) ?_)
     simp [he, hg']
 have := h0 xs.length 0 (by omega)
 rw [List.drop_zero] at this
 exact this
theorem tab_row {i : Nat} (hi : i < a.length) (hprev : ∀ T, TabOK l o a b T (i * b.length) → ∃ T', TabOK l o a b T' 0 ∧ Ev (fun k => spec_l7Table.l0 k [(⟨l⟩ : S32)] o a b (b.length : Int) T ((i : Int) - 1)) T') :
  ∀ (j : Nat), j ≤ b.length → ∀ T, TabOK l o a b T (i * b.length + j) → ∃ T', TabOK l o a b T' 0 ∧ Ev (fun k => spec_l7Table.l1 k [(⟨l⟩ : S32)] o a b (b.length : Int) T (i : Int) ((j : Int) - 1)) T' := by
 have hla := ha.len
 have hlb := hb.len
 intro j
 induction j with
 | zero =>
  intro hj T hT
  obtain ⟨T', h1, h2⟩ := hprev T hT
  refine ⟨T', h1, ev_succ ?_⟩
  simp only [spec_l7Table.l1]
  rw [wrap_id (x := (i : Int) - 1) (by omega) (by omega)]
  exact ev_neg (by omega) h2
 | succ j ih =>
  intro hj T hT
  obtain ⟨e, h1, h2⟩ := tab_idx hi (show j < b.length by omega) hla.2 hlb.2
  have hT' : TabOK l o a b (T.set (i * b.length + j) (gT l o a b i j)) (i * b.length + j) := by
   refine ⟨by rw [List.length_set]; exact hT.1, fun p q hp hq hle => ?_⟩
   rw [List.getD_eq_getElem?_getD]
   by_cases hpq : i * b.length + j = p * b.length + q
   ·have hip : i = p := by
     have a1 : (i * b.length + j) / b.length = i := by rw [Nat.mul_comm, Nat.mul_add_div (by omega), Nat.div_eq_of_lt (by omega), Nat.add_zero]
     have a2 : (p * b.length + q) / b.length = p := by rw [Nat.mul_comm, Nat.mul_add_div (by omega), Nat.div_eq_of_lt (by omega), Nat.add_zero]
     rw [← a1, ← a2, hpq]
    subst hip
    have hjq : j = q := by omega
    subst hjq
    rw [List.getElem?_set_self (by rw [hT.1]; exact h1)]
    rfl
   ·rw [List.getElem?_set_ne hpq, ← List.getD_eq_getElem?_getD]
    exact hT.2 p q hp hq (by omega)
  obtain ⟨T', h3, h4⟩ := ih (by omega) _ hT'
  refine ⟨T', h3, ev_succ ?_⟩
  simp only [spec_l7Table.l1]
  have ej : ((j + 1 : Nat) : Int) - 1 = (j : Int) := by omega
  rw [ej, e, wrap_id (x := (j : Int) - 1) (by omega) (by omega)]
  refine ev_pos (by omega) (ev_bind (cell_ev ha hb ho hi (by omega) (by rw [Nat.add_assoc]; exact hT)) (ev_pos (by omega) (ev_pos (by rw [hT.1]; omega) ?_)))
  rw [Int.toNat_natCast]
  exact h4
theorem tab_all : ∀ (i : Nat), i ≤ a.length → ∀ T, TabOK l o a b T (i * b.length) → ∃ T', TabOK l o a b T' 0 ∧ Ev (fun k => spec_l7Table.l0 k [(⟨l⟩ : S32)] o a b (b.length : Int) T ((i : Int) - 1)) T' := by
 have hla := ha.len
 have hlb := hb.len
 intro i
 induction i with
 | zero =>
  intro hi T hT
  refine ⟨T, by simpa using hT, ev_succ ?_⟩
  simp only [spec_l7Table.l0]
  exact ev_neg (by omega) (ev_some _)
 | succ i ih =>
  intro hi T hT
  rw [Nat.succ_mul] at hT
  obtain ⟨T', h1, h2⟩ := tab_row ha hb ho (show i < a.length by omega) (ih (by omega)) b.length (Nat.le_refl _) T hT
  refine ⟨T', h1, ev_succ ?_⟩
  simp only [spec_l7Table.l0]
  have ej : ((i + 1 : Nat) : Int) - 1 = (i : Int) := by omega
  rw [ej, wrap_id (x := (b.length : Int) - 1) (by omega) (by omega)]
  exact ev_pos (by omega) h2
theorem over_ev : Ev (fun k => spec_l7Over.f k [(⟨l⟩ : S32)] o a b) (gT l o a b 0 0) := by
 have hla := ha.len
 have hlb := hb.len
 have hm : a.length * b.length ≤ 24 * 24 := Nat.mul_le_mul hla.2 hlb.2
 have hm1 : 1 * 1 ≤ a.length * b.length := Nat.mul_le_mul hla.1 hlb.1
 have e : (a.length : Int) * (b.length : Int) = ((a.length * b.length : Nat) : Int) := by push_cast; rfl
 obtain ⟨T, h1, h2⟩ := tab_all ha hb ho a.length (Nat.le_refl _) (List.replicate (a.length * b.length) false) ⟨by simp, fun p q hp hq h => by
  have : (p + 1) * b.length ≤ a.length * b.length := Nat.mul_le_mul_right _ hp
  rw [Nat.succ_mul] at this
  omega⟩
 unfold spec_l7Over.f spec_l7Table.f
 rw [e, wrap_id (x := ((a.length * b.length : Nat) : Int)) (by omega) (by omega), wrap_id (x := (a.length : Int) - 1) (by omega) (by omega), Int.toNat_natCast]
 refine ev_bind (ev_pos (by omega) (ev_pos (by omega) h2)) (ev_pos (by rw [h1.1]; omega) (ev_to (ev_some _) ?_))
 have h3 := h1.2 0 0 (by omega) (by omega) (Nat.zero_le _)
 rw [show (0 : Int) = ((0 : Nat) : Int) from rfl, rdOf_nat]
 simpa using h3
end
end Go.Proofs.YtgichahebemmiaaDoor.Pure
set_option linter.unusedVariables false
namespace Go.Proofs.YtgichahebemmiaaDoor.Pure
open Go.RowKit Go.Proofs.YtgichahebemmiaaDoor.P Go.Proofs.YtgichahebemmiaaDoorW.PrintWords Go.Proofs.YtgichahebemmiaaDoorW.PrintLast Go.Proofs.YtgichahebemmiaaDoor.Base
def orL : List Int → Int
 | [] => 0
 | x :: xs => if x = 0 then orL xs else x
theorem or_ev : ∀ (q p : List Int), p.length + q.length ≤ 1000 → Ev (fun k => cmp_Or_int64.l0 k 0 (p ++ q) ((p ++ q).length : Int) (p.length : Int)) (orL q)
 | [], p, h => by
  refine ev_succ ?_
  simp only [cmp_Or_int64.l0]
  exact ev_neg (by simp) (ev_some _)
 | x :: q, p, h => by
  rw [List.length_cons] at h
  have ih := or_ev q (p ++ [x]) (by rw [List.length_append, List.length_singleton]; omega)
  have r : rd (p ++ x :: q) (p.length : Int) = x := by rw [rd_get _ _ (by simp)]; simp
  refine ev_succ ?_
  simp only [cmp_Or_int64.l0]
  rw [r, wrap_up (by omega)]
  refine ev_pos (by rw [List.length_append, List.length_cons]; omega) (ev_pos (by omega) (ev_pos (by rw [List.length_append, List.length_cons]; omega) ?_))
  rw [orL]
  refine ev_ite (fun h => ?_) (fun h => ev_some _)
  simpa using ih
theorem first_ev3 (a b c : Int) : Ev (fun k => impl_firstCode.f k [a, b, c]) (if a = 0 then (if b = 0 then c else b) else a) := by
 unfold impl_firstCode.f cmp_Or_int64.f
 have := or_ev [a, b, c] [] (by simp)
 refine ev_bind (a := if a = 0 then (if b = 0 then c else b) else a) (ev_to this ?_) (ev_some _)
 simp only [orL]
 by_cases hc : c = 0
 ·rw [if_pos hc, hc]
 ·rw [if_neg hc]
def cmpV (l : List S65) (o a b : List Int) : Int := if a = b then 3 else if gT l o a b 0 0 = true then 1 else if gT l o b a 0 0 = true then 2 else 0
def cmpR (l : List S65) (o a b : List Int) : Int × Int :=
 if ordF l o = 0 then (if termF l a = 0 then (if termF l b = 0 then (0, cmpV l o a b) else (termF l b, 0)) else (termF l a, 0)) else (ordF l o, 0)
theorem ordF_sig {l : List S65} {o : List Int} (h : ordF l o = 0) : sigF l = 0 := by
 unfold ordF at h
 by_cases hs : sigF l = 0
 ·exact hs
 ·rw [if_neg hs] at h; exact absurd h hs
theorem l7Compare_ev {l : List S65} {o a b : List Int} (ho : ordF l o = 0) (ha : termF l a = 0) (hb : termF l b = 0) : Ev (fun k => spec_l7Compare.f k [(⟨l⟩ : S32)] o a b) (cmpV l o a b) := by
 have hA := rightT_of ha
 have hB := rightT_of hb
 have hla := hA.len
 unfold spec_l7Compare.f cmpV
 refine ev_bind (l1Same_ev a b (by omega)) ?_
 by_cases e : a = b
 ·rw [if_pos e]; exact ev_pos (by simpa using e) (ev_some _)
 ·rw [if_neg e]
  refine ev_neg (by simpa using e) (ev_bind (over_ev hA hB ho) (ev_ite (fun _ => ev_some _) (fun _ => ev_bind (over_ev hB hA ho) (ev_ite (fun _ => ev_some _) (fun _ => ev_some _)))))
theorem compareTerms_ev {l : List S65} {o a b : List Int} (ho : ordF l o = 0) (ha : termF l a = 0) (hb : termF l b = 0) : Ev (fun k => impl_compareTerms.f k l o a b) (cmpV l o a b) := by
 have hA := rightT_of ha
 have hB := rightT_of hb
 have hla := hA.len
 unfold impl_compareTerms.f cmpV
 refine ev_bind (sliceEq_ev a b (by omega)) ?_
 by_cases e : a = b
 ·rw [if_pos e]; exact ev_pos (by simpa using e) (ev_some _)
 ·rw [if_neg e]
  refine ev_neg (by simpa using e) (ev_bind (isGreater_ev hA hB ho) (ev_ite (fun _ => ev_some _) (fun _ => ev_bind (isGreater_ev hB hA ho) (ev_ite (fun _ => ev_some _) (fun _ => ev_some _)))))
end Go.Proofs.YtgichahebemmiaaDoor.Pure
set_option linter.unusedVariables false
namespace Go.Proofs.YtgichahebemmiaaDoor.Pure
open Go.RowKit Go.Proofs.YtgichahebemmiaaDoor.P Go.Proofs.YtgichahebemmiaaDoorW.PrintWords Go.Proofs.YtgichahebemmiaaDoorW.PrintLast Go.Proofs.YtgichahebemmiaaDoor.Base
theorem toInt64S_l0 (l : List Int) (hl : l.length ≤ 35184372088832) : ∀ (d i : Nat), i + d = l.length → Ev (fun k => laws_toInt64S.l0 k l (cpart 0 l i) (i : Int)) l := by
 intro d
 induction d with
 | zero =>
  intro i hi
  refine ev_succ ?_
  simp only [laws_toInt64S.l0]
  refine ev_neg (by omega) ?_
  obtain rfl : i = l.length := by omega
  rw [cpart_end]
  exact ev_some _
 | succ d ih =>
  intro i hi
  refine ev_succ ?_
  simp only [laws_toInt64S.l0]
  refine ev_pos (by omega) (ev_pos (by omega) (ev_pos (by rw [cpart_length _ _ _ (by omega)]; omega) ?_))
  rw [wrap_up (by omega), Int.toNat_natCast, cpart_set 0 l i (by omega) _ (rd_some l i (by omega))]
  exact ih (i + 1) (by omega)
theorem toInt64S_ev (l : List Int) (hl : l.length ≤ 35184372088832) : Ev (fun k => laws_toInt64S.f k l) l := by
 unfold laws_toInt64S.f
 refine ev_pos (by omega) (ev_pos (by omega) ?_)
 rw [Int.toNat_natCast, ← cpart_zero]
 exact toInt64S_l0 l hl l.length 0 (by omega)
theorem eqInt64S_l0 (a b : List Int) (hab : a.length = b.length) (hl : a.length ≤ 9223372036854775807) : ∀ (d i : Nat), i + d = a.length → Ev (fun k => laws_eqInt64S.l0 k a b (i : Int)) (decide (a.drop i = b.drop i)) := by
 intro d
 induction d with
 | zero =>
  intro i hi
  refine ev_succ ?_
  simp only [laws_eqInt64S.l0]
  refine ev_neg (by omega) ?_
  rw [List.drop_eq_nil_of_le (by omega), List.drop_eq_nil_of_le (by omega)]
  exact ev_some _
 | succ d ih =>
  intro i hi
  refine ev_succ ?_
  simp only [laws_eqInt64S.l0]
  refine ev_pos (by omega) (ev_pos (by omega) (ev_pos (by omega) ?_))
  rw [rd_drop a i (by omega), rd_drop b i (by omega)]
  by_cases h : rd a (i : Int) = rd b (i : Int)
  ·refine ev_pos h ?_
   rw [wrap_up (by omega)]
   refine ev_to (ih (i + 1) (by omega)) ?_
   simp [h]
  ·refine ev_neg h ?_
   refine ev_to (ev_some _) ?_
   simp [h]
theorem eqInt64S_ev (a b : List Int) (hl : a.length ≤ 9223372036854775807) : Ev (fun k => laws_eqInt64S.f k a b) (decide (a = b)) := by
 unfold laws_eqInt64S.f
 by_cases h : a.length = b.length
 ·refine ev_pos (by omega) ?_
  exact eqInt64S_l0 a b h hl a.length 0 (by omega)
 ·refine ev_neg (by omega) ?_
  refine ev_to (ev_some _) ?_
  have : ¬ a = b := fun e => h (by rw [e])
  simp [this]
end Go.Proofs.YtgichahebemmiaaDoor.Pure
set_option linter.unusedVariables false
namespace Go.Proofs.YtgichahebemmiaaDoor.Pure
open Go.RowKit Go.Proofs.YtgichahebemmiaaDoor.P Go.Proofs.YtgichahebemmiaaDoorW.PrintWords Go.Proofs.YtgichahebemmiaaDoorW.PrintLast Go.Proofs.YtgichahebemmiaaDoor.Base
theorem eqIntResult_same (a b : Int) : laws_eqIntResult.f a b a b = some true := by
 unfold laws_eqIntResult.f; simp
end Go.Proofs.YtgichahebemmiaaDoor.Pure
set_option linter.unusedVariables false
namespace Go.Proofs.YtgichahebemmiaaDoor.Pure
open Go.RowKit Go.Proofs.YtgichahebemmiaaDoor.P Go.Proofs.YtgichahebemmiaaDoorW.PrintWords Go.Proofs.YtgichahebemmiaaDoorW.PrintLast Go.Proofs.YtgichahebemmiaaDoor.Base
theorem CompareTerms_spec (l : List S65) (o a b : List Int) (ho : o.length ≤ 1048576) (ha : a.length ≤ 1048576) (hb : b.length ≤ 1048576) : Ev (fun k => spec_CompareTerms.f k l o a b) (cmpR l o a b) := by
 unfold spec_CompareTerms.f cmpR
 refine ev_bind (OrderFault_spec l o ho) (ev_ite (fun h0 => ?_) (fun h => ev_some _))
 have hs := ordF_sig h0
 have ga : termG l a = termF l a := by unfold termF; rw [if_pos hs]
 have gb : termG l b = termF l b := by unfold termF; rw [if_pos hs]
 refine ev_bind (l3Fault_ev l (right_of l hs) a ha) ?_
 rw [ga]
 refine ev_ite (fun h1 => ?_) (fun h => ev_some _)
 refine ev_bind (l3Fault_ev l (right_of l hs) b hb) ?_
 rw [gb]
 exact ev_ite (fun h2 => ev_bind (l7Compare_ev h0 h1 h2) (ev_some _)) (fun h => ev_some _)
theorem CompareTerms_impl (l : List S65) (o a b : List Int) (ho : o.length ≤ 1048576) (ha : a.length ≤ 1048576) (hb : b.length ≤ 1048576) : Ev (fun k => impl_CompareTerms.f k l o a b) (cmpR l o a b) := by
 unfold impl_CompareTerms.f cmpR
 refine ev_bind (OrderFault_impl l o ho) (ev_bind (TermFault_impl l a ha) (ev_bind (TermFault_impl l b hb) (ev_bind (first_ev3 _ _ _) ?_)))
 by_cases h0 : ordF l o = 0
 ·rw [if_pos h0, if_pos h0]
  by_cases h1 : termF l a = 0
  ·rw [if_pos h1, if_pos h1]
   by_cases h2 : termF l b = 0
   ·rw [if_pos h2]
    exact ev_pos h2 (ev_bind (compareTerms_ev h0 h1 h2) (ev_some _))
   ·rw [if_neg h2]; exact ev_neg h2 (ev_some _)
  ·rw [if_neg h1, if_neg h1]; exact ev_neg h1 (ev_some _)
 ·rw [if_neg h0, if_neg h0]; exact ev_neg h0 (ev_some _)
theorem FnExactCompareTerms (l : List S61) (o a b : List Int) (hl : FitsL l) (wo : o.length ≤ maxLen ∧ ∀ x ∈ o, (Lit.int .i64 x).wf = true) (wa : a.length ≤ maxLen ∧ ∀ x ∈ a, (Lit.int .i64 x).wf = true) (wb : b.length ≤ maxLen ∧ ∀ x ∈ b, (Lit.int .i64 x).wf = true) : ∃ k, laws_FnExactCompareTerms.f k l o a b = some true := by
 refine ev_ex (g := fun k => laws_FnExactCompareTerms.f k l o a b) ?_
 unfold laws_FnExactCompareTerms.f
 by_cases bo : (o.length : Int) > 1048576
 ·exact ev_pos bo (ev_some _)
 refine ev_neg bo ?_
 by_cases ba : (a.length : Int) > 1048576
 ·exact ev_pos ba (ev_some _)
 refine ev_neg ba ?_
 by_cases bb : (b.length : Int) > 1048576
 ·exact ev_pos bb (ev_some _)
 refine ev_neg bb ?_
 obtain ⟨r, hr, h1⟩ := szSignature_ev l hl 1048576 (by omega) (by omega)
 refine ev_bind hr ?_
 by_cases hr0 : r < 0
 ·exact ev_pos hr0 (ev_some _)
 have h1 := h1 hr0
 have t := toSignature_ev l (by omega)
 have e := eqSignature_ev (l.map toI) (by rw [List.length_map]; omega)
 have to_ := toInt64S_ev o (by omega)
 have eo := eqInt64S_ev o o (by omega)
 have ta := toInt64S_ev a (by omega)
 have ea := eqInt64S_ev a a (by omega)
 have tb := toInt64S_ev b (by omega)
 have eb := eqInt64S_ev b b (by omega)
 have hs := CompareTerms_spec (l.map toI) o a b (by omega) (by omega) (by omega)
 have hp := CompareTerms_impl (l.map toI) o a b (by omega) (by omega) (by omega)
 exact ev_neg hr0 (ev_bind t (ev_bind to_ (ev_bind ta (ev_bind tb (ev_bind hs (ev_bind t (ev_bind to_ (ev_bind ta (ev_bind tb (ev_bind hp (ev_bindq (eqIntResult_same _ _) (ev_pos rfl (ev_bind t (ev_bind e (ev_pos rfl (ev_bind to_ (ev_bind eo (ev_pos (by simp) (ev_bind ta (ev_bind ea (ev_pos (by simp) (ev_bind tb (ev_bind eb (ev_pos (by simp) (ev_some _)))))))))))))))))))))))))
end Go.Proofs.YtgichahebemmiaaDoor.Pure
