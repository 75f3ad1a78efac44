/- A part of the proof of the law FnExactEquationText. -/
import Derived.Lib.SlicesCompact
import Derived.Lib.RowBridge
import Derived.Lib.Join
import Derived.Lib.Strings
import Derived.Laws.StructEq
import Derived.Test.YtnlpbmakdiaaoaaGreatDoorCFnExactEquationText0
import Derived.Test.YtnlpbmakdiaaoaaGreatDoorCFnExactEquationText1
import Derived.Test.YtnlpbmakdiaaoaaGreatDoorCFnExactEquationText2
import Derived.Test.YtnlpbmakdiaaoaaGreatDoorCFnExactEquationText3
import Derived.Test.YtnlpbmakdiaaoaaGreatDoorCFnExactEquationText4
import Derived.Test.YtnlpbmakdiaaoaaGreatDoorCFnExactEquationText5
import Derived.Test.YtnlpbmakdiaaoaaGreatDoorCFnExactEquationText6
import Derived.Test.YtnlpbmakdiaaoaaGreatDoorCFnExactEquationText7
import Derived.Test.YtnlpbmakdiaaoaaGreatDoorCFnExactEquationText8
set_option linter.unusedVariables false
namespace Go.Proofs.YtnlpbmakdiaaoaaGreatDoor.Pure
open Go.RowKit Go.Proofs.YtnlpbmakdiaaoaaGreatDoor.P Go.Proofs.YtnlpbmakdiaaoaaGreatDoorW.PrintWords Go.Proofs.YtnlpbmakdiaaoaaGreatDoorW.PrintLast Go.Proofs.YtnlpbmakdiaaoaaGreatDoor.Base
def toI (x : S126) : S128 := ⟨x.f0, x.f1⟩
theorem rdL_get (xs : List S126) (i : Nat) (h : i < xs.length) : rd_T126 xs (i : Int) = xs[i] := by
  simp [rd_T126, List.getD_eq_getElem?_getD, List.getElem?_eq_getElem h]
def FitsL (l : List S126) : Prop := l.length ≤ maxLen ∧ ∀ x ∈ l, x.f0.size ≤ maxLen ∧ (Lit.int .i64 x.f1).wf = true
theorem szSymbolS_l0 (l : List S126) (hl : FitsL l) : ∀ (d i : Nat) (a : Int), i + d = l.length → 0 ≤ a → a ≤ 1048576 →
    ∃ r, Ev (fun k => laws_szSymbolS.l0 k l a (i : Int)) r ∧ (0 ≤ r → r ≤ a) := by
  intro d
  induction d with
  | zero =>
    intro i a hi h0 h1
    refine ⟨a, ev_succ ?_, fun _ => Int.le_refl _⟩
    simp only [laws_szSymbolS.l0]
    exact ev_neg (by omega) (ev_some _)
  | succ d ih =>
    intro i a hi h0 h1
    have hi' : i < l.length := by omega
    have hx := (hl.2 _ (List.getElem_mem hi')).1
    unfold maxLen at hx
    have hm := hl.1
    unfold maxLen at hm
    have hw : wrap64 (a - ((l[i]).f0.size : Int)) = a - ((l[i]).f0.size : Int) := wrap_id (by omega) (by omega)
    by_cases hn : a - ((l[i]).f0.size : Int) < 0
    · refine ⟨-1, ev_succ ?_, fun h => by omega⟩
      simp only [laws_szSymbolS.l0]
      refine ev_pos (by omega) (ev_pos (by omega) ?_)
      rw [rdL_get l i hi']
      refine ev_bindq (a := -1) ?_ (ev_pos (by omega) (ev_some _))
      unfold laws_szSymbol.f
      rw [hw, if_pos hn]
    · obtain ⟨r, hr, hle⟩ := ih (i + 1) (a - ((l[i]).f0.size : Int)) (by omega) (by omega) (by omega)
      refine ⟨r, ev_succ ?_, fun h => by have := hle h; omega⟩
      simp only [laws_szSymbolS.l0]
      refine ev_pos (by omega) (ev_pos (by omega) ?_)
      rw [rdL_get l i hi', wrap_up (by omega)]
      refine ev_bindq (a := a - ((l[i]).f0.size : Int)) ?_ (ev_neg hn hr)
      unfold laws_szSymbol.f
      rw [hw, if_neg hn]
theorem szSignature_ev (l : List S126) (hl : FitsL l) (a : Int) (h0 : 0 ≤ a) (h1 : a ≤ 1048576) :
    ∃ r, Ev (fun k => laws_szSignature.f k l a) r ∧ (¬ r < 0 → (l.length : Int) ≤ a ∧ r ≤ a) := by
  have hm := hl.1
  unfold maxLen at hm
  have hw : wrap64 (a - (l.length : Int)) = a - (l.length : Int) := wrap_id (by omega) (by omega)
  by_cases hn : a - (l.length : Int) < 0
  · refine ⟨-1, ?_, fun h => by omega⟩
    unfold laws_szSignature.f
    refine ev_bind (a := -1) ?_ (ev_pos (by omega) (ev_some _))
    unfold laws_szSymbolS.f
    rw [hw]
    exact ev_pos hn (ev_some _)
  · obtain ⟨r, hr, hle⟩ := szSymbolS_l0 l hl l.length 0 (a - (l.length : Int)) (by omega) (by omega) (by omega)
    have hs : Ev (fun k => laws_szSymbolS.f k l a) r := by
      unfold laws_szSymbolS.f
      rw [hw]
      exact ev_neg hn hr
    by_cases hr0 : r < 0
    · refine ⟨-1, ?_, fun h => by omega⟩
      unfold laws_szSignature.f
      exact ev_bind hs (ev_pos hr0 (ev_some _))
    · refine ⟨r, ?_, fun h => ?_⟩
      · unfold laws_szSignature.f
        exact ev_bind hs (ev_neg hr0 (ev_some _))
      · have := hle (by omega)
        omega
theorem toSymbolS_l0 (l : List S126) (hl : l.length ≤ 1048576) : ∀ (d i : Nat), i + d = l.length → Ev (fun k => laws_toSymbolS.l0 k l (cpart z128 (l.map toI) i) (i : Int)) (l.map toI) := by
  intro d
  induction d with
  | zero =>
    intro i hi
    refine ev_succ ?_
    simp only [laws_toSymbolS.l0]
    refine ev_neg (by omega) ?_
    have e : i = (l.map toI).length := by rw [List.length_map]; omega
    rw [e, cpart_end]
    exact ev_some _
  | succ d ih =>
    intro i hi
    have hi' : i < l.length := by omega
    refine ev_succ ?_
    simp only [laws_toSymbolS.l0]
    refine ev_pos (by omega) (ev_pos (by omega) ?_)
    unfold laws_toSymbol.f
    refine ev_bindq rfl (ev_pos (by rw [cpart_length _ _ _ (by rw [List.length_map]; omega), List.length_map]; omega) ?_)
    rw [rdL_get l i hi', wrap_up (by omega), Int.toNat_natCast, cpart_set z128 (l.map toI) i (by rw [List.length_map]; omega) (⟨(l[i]).f0, (l[i]).f1⟩ : S128) (by rw [List.getElem?_map, List.getElem?_eq_getElem hi']; rfl)]
    exact ih (i + 1) (by omega)
theorem toSignature_ev (l : List S126) (hl : l.length ≤ 1048576) : Ev (fun k => laws_toSignature.f k l) (l.map toI) := by
  unfold laws_toSignature.f
  refine ev_bind (a := l.map toI) ?_ (ev_some _)
  unfold laws_toSymbolS.f
  refine ev_pos (by omega) (ev_pos (by omega) ?_)
  have := toSymbolS_l0 l hl l.length 0 (by omega)
  rw [cpart_zero, List.length_map] at this
  rw [Int.toNat_natCast]
  exact this
theorem eqSymbolS_l0 (a : List S128) (hl : a.length ≤ 9223372036854775807) : ∀ (d i : Nat), i + d = a.length → Ev (fun k => laws_eqSymbolS.l0 k a a (i : Int)) true := by
  intro d
  induction d with
  | zero =>
    intro i hi
    refine ev_succ ?_
    simp only [laws_eqSymbolS.l0]
    exact ev_neg (by omega) (ev_some _)
  | succ d ih =>
    intro i hi
    refine ev_succ ?_
    simp only [laws_eqSymbolS.l0]
    refine ev_pos (by omega) (ev_pos (by omega) (ev_pos (by omega) (ev_bindq (a := true) ?_ (ev_pos rfl ?_))))
    · unfold laws_eqSymbol.f
      rw [if_pos rfl, if_pos rfl]
    · rw [wrap_up (by omega)]
      exact ih (i + 1) (by omega)
theorem eqSignature_ev (a : List S128) (hl : a.length ≤ 9223372036854775807) : Ev (fun k => laws_eqSignature.f k a a) true := by
  unfold laws_eqSignature.f
  refine ev_bind (a := true) ?_ (ev_pos rfl (ev_some _))
  unfold laws_eqSymbolS.f
  exact ev_pos rfl (eqSymbolS_l0 a hl a.length 0 (by omega))
end Go.Proofs.YtnlpbmakdiaaoaaGreatDoor.Pure
set_option linter.unusedVariables false
namespace Go.Proofs.YtnlpbmakdiaaoaaGreatDoor.Pure
open Go.RowKit Go.Proofs.YtnlpbmakdiaaoaaGreatDoor.P Go.Proofs.YtnlpbmakdiaaoaaGreatDoorW.PrintWords Go.Proofs.YtnlpbmakdiaaoaaGreatDoorW.PrintLast Go.Proofs.YtnlpbmakdiaaoaaGreatDoor.Base
theorem bt_get (s : ByteArray) (i : Nat) (h : i < s.data.toList.length) : bt s (i : Int) = ((s.data.toList[i]).toNat : Int) := by
  have hs : i < s.size := by rw [Lib.size_eq]; exact h
  unfold bt
  rw [dif_pos (by simpa using hs)]
  rfl
theorem l2Name_l0 (s : ByteArray) (hl : s.size ≤ 3) : ∀ (d i : Nat), i + d = s.size → Ev (fun k => spec_l2Name.l0 k s (i : Int)) ((s.data.toList.drop i).all letterB) := by
  have hz := Lib.size_eq s
  intro d
  induction d with
  | zero =>
    intro i hi
    refine ev_succ ?_
    simp only [spec_l2Name.l0]
    refine ev_neg (by omega) (ev_to (ev_some _) ?_)
    rw [List.drop_eq_nil_of_le (by omega)]; rfl
  | succ d ih =>
    intro i hi
    have hi' : i < s.data.toList.length := by omega
    refine ev_succ ?_
    simp only [spec_l2Name.l0]
    refine ev_pos (by omega) (ev_pos (by omega) ?_)
    rw [bt_get s i hi', List.drop_eq_getElem_cons hi', wrap_up (by omega)]
    generalize s.data.toList[i] = b
    by_cases h1 : (b.toNat : Int) < 97
    · refine ev_pos h1 (ev_to (ev_some _) ?_)
      have : letterB b = false := by unfold letterB; simp; omega
      simp [this]
    refine ev_neg h1 ?_
    by_cases h2 : (b.toNat : Int) > 122
    · refine ev_pos h2 (ev_to (ev_some _) ?_)
      have : letterB b = false := by unfold letterB; simp; omega
      simp [this]
    refine ev_neg h2 (ev_to (ih (i + 1) (by omega)) ?_)
    have : letterB b = true := by unfold letterB; simp; omega
    simp [this]
theorem l2Name_ev (s : ByteArray) : Ev (fun k => spec_l2Name.f k s) (nameB s) := by
  unfold spec_l2Name.f nameB
  by_cases h1 : (s.size : Int) < 1
  · refine ev_pos h1 (ev_succ ?_)
    simp only [spec_l2Name.j0]
    exact ev_pos (by simp) (ev_to (ev_some _) (by simp; omega))
  refine ev_neg h1 (ev_succ ?_)
  simp only [spec_l2Name.j0]
  by_cases h2 : (s.size : Int) > 3
  · exact ev_pos (by simpa using h2) (ev_to (ev_some _) (by simp; omega))
  refine ev_neg (by simpa using h2) (ev_to (l2Name_l0 s (by omega) s.size 0 (by omega)) ?_)
  have : decide (1 ≤ s.size ∧ s.size ≤ 3) = true := by simp; omega
  rw [this]; rfl
theorem isName_eq (s : ByteArray) : impl_isName.f s = some (nameB s) := by
  unfold impl_isName.f nameB
  by_cases h1 : (s.size : Int) ≥ 1
  · rw [if_pos h1]
    by_cases h2 : (s.size : Int) ≤ 3
    · rw [if_pos h2]
      have ht : strings_Trim.f s abc = some ⟨(Lib.trimS s.data.toList abc.data.toList).toArray⟩ := by
        unfold strings_Trim.f
        exact if_pos ⟨by omega, by decide, by decide +kernel⟩
      refine bind_eq ht ?_
      have : decide (1 ≤ s.size ∧ s.size ≤ 3) = true := by simp; omega
      rw [this, Lib.toList_data]
      simp only [Bool.true_and]
      rw [← trim_abc]
    · rw [if_neg h2]
      have : decide (1 ≤ s.size ∧ s.size ≤ 3) = false := by simp; omega
      rw [this]; rfl
  · rw [if_neg h1]
    have : decide (1 ≤ s.size ∧ s.size ≤ 3) = false := by simp; omega
    rw [this]; rfl
def nameAt (l : List S128) (i : Nat) : List UInt8 := (rd_T128 l (i : Int)).f0.toList
def symFault (l : List S128) (i : Nat) : Option Int :=
  if nameB (rd_T128 l (i : Int)).f0 = true then (if 0 ≤ (rd_T128 l (i : Int)).f1 ∧ (rd_T128 l (i : Int)).f1 ≤ 2 then none else some 3) else some 5
def dupB (l : List S128) (i : Nat) : Bool := (firstN (fun j => nameAt l i == nameAt l j) i 0).isSome
def dupFault (l : List S128) (i : Nat) : Option Int := if dupB l i = true then some 6 else none
def zeroB (l : List S128) : Bool := (firstN (fun j => (rd_T128 l (j : Int)).f1 == 0) l.length 0).isSome
def sigF (l : List S128) : Int :=
  if l.length < 1 ∨ l.length > 6 then 2 else scanN (symFault l) (scanN (dupFault l) (if zeroB l = true then 0 else 4) l.length 0) l.length 0
theorem within_eq (a b c : Int) : impl_within.f a b c = some (decide (b ≤ a ∧ a ≤ c)) := by
  unfold impl_within.f
  by_cases h : a ≥ b
  · rw [if_pos h]
    by_cases h' : a ≤ c
    · simp [h']; omega
    · simp [h']
  · rw [if_neg h]
    simp; omega
theorem l1In_eq (a b c : Int) : spec_l1In.f a b c = some (decide (b ≤ a ∧ a ≤ c)) := by
  unfold spec_l1In.f
  by_cases h : a ≥ b
  · rw [if_pos h]
    by_cases h' : a ≤ c
    · simp [h']; omega
    · simp [h']
  · rw [if_neg h]
    simp; omega
theorem Sig_l3 (l : List S128) (hl : l.length ≤ 6) : Ev (fun k => spec_SignatureFault.l3 k (l.length : Int) 0 l) (if zeroB l = true then 0 else 4) := by
  have h := loop_scan l.length (fun j => if ((rd_T128 l (j : Int)).f1 == 0) = true then some 0 else none) 4 (fun k i => spec_SignatureFault.l3 k (l.length : Int) i l)
    (by simp only [spec_SignatureFault.l3]; exact ev_neg (by omega) (ev_some _))
    (fun i hi r hr => by
      simp only [spec_SignatureFault.l3]
      refine ev_pos (by omega) (ev_pos (by omega) (ev_pos (by omega) ?_))
      rw [wrap_up (by omega)]
      by_cases h : (rd_T128 l (i : Int)).f1 = 0
      · refine ev_pos h (ev_to (ev_some _) (by simp [h]))
      · refine ev_neg h (ev_to hr (by simp [h])))
    l.length 0 (by omega)
  refine ev_to h ?_
  rw [scanN_first (fun j => (rd_T128 l (j : Int)).f1 == 0) (fun _ => (0 : Int)) 4]
  unfold zeroB
  cases firstN (fun j => (rd_T128 l (j : Int)).f1 == 0) l.length 0 <;> rfl
theorem Sig_l2 (l : List S128) (hl : l.length ≤ 6) (i : Nat) (hi : i < l.length) (r : Int) (hr : Ev (fun k => spec_SignatureFault.l1 k (l.length : Int) ((i + 1 : Nat) : Int) l) r) :
    Ev (fun k => spec_SignatureFault.l2 k (l.length : Int) (i : Int) 0 l) ((dupFault l i).getD r) := by
  have h := loop_scan i (fun j => if (nameAt l i == nameAt l j) = true then some 6 else none) r (fun k j => spec_SignatureFault.l2 k (l.length : Int) (i : Int) j l)
    (by simp only [spec_SignatureFault.l2]; refine ev_neg (by omega) ?_; rw [wrap_up (by omega)]; exact hr)
    (fun j hj r hr => by
      simp only [spec_SignatureFault.l2]
      refine ev_pos (by omega) (ev_pos (by omega) (ev_pos (by omega) (ev_pos (by omega) (ev_pos (by omega) ?_))))
      rw [wrap_up (by omega)]
      by_cases h : nameAt l i = nameAt l j
      · refine ev_pos h (ev_to (ev_some _) (by simp [h]))
      · refine ev_neg h (ev_to hr (by simp [h])))
    i 0 (by omega)
  refine ev_to h ?_
  rw [scanN_first (fun j => nameAt l i == nameAt l j) (fun _ => (6 : Int)) r]
  unfold dupFault dupB
  cases firstN (fun j => nameAt l i == nameAt l j) i 0 <;> rfl
theorem Sig_l1 (l : List S128) (hl : l.length ≤ 6) : Ev (fun k => spec_SignatureFault.l1 k (l.length : Int) 0 l) (scanN (dupFault l) (if zeroB l = true then 0 else 4) l.length 0) :=
  loop_scan l.length (dupFault l) (if zeroB l = true then 0 else 4) (fun k i => spec_SignatureFault.l1 k (l.length : Int) i l)
    (by simp only [spec_SignatureFault.l1]; exact ev_neg (by omega) (Sig_l3 l hl))
    (fun i hi r hr => by
      simp only [spec_SignatureFault.l1]
      exact ev_pos (by omega) (Sig_l2 l hl i hi r hr))
    l.length 0 (by omega)
theorem Sig_l0 (l : List S128) (hl : l.length ≤ 6) : Ev (fun k => spec_SignatureFault.l0 k (l.length : Int) 0 l) (scanN (symFault l) (scanN (dupFault l) (if zeroB l = true then 0 else 4) l.length 0) l.length 0) :=
  loop_scan l.length (symFault l) _ (fun k i => spec_SignatureFault.l0 k (l.length : Int) i l)
    (by simp only [spec_SignatureFault.l0]; exact ev_neg (by omega) (Sig_l1 l hl))
    (fun i hi r hr => by
      simp only [spec_SignatureFault.l0]
      refine ev_pos (by omega) (ev_pos (by omega) (ev_pos (by omega) (ev_bind (l2Name_ev _) ?_)))
      unfold symFault
      by_cases h : nameB (rd_T128 l (i : Int)).f0 = true
      · refine ev_pos h (ev_bindq (l1In_eq _ _ _) ?_)
        rw [if_pos h, wrap_up (by omega)]
        by_cases h' : 0 ≤ (rd_T128 l (i : Int)).f1 ∧ (rd_T128 l (i : Int)).f1 ≤ 2
        · rw [if_pos h']
          exact ev_pos (by simpa using h') hr
        · rw [if_neg h']
          exact ev_neg (by simpa using h') (ev_some _)
      · rw [if_neg h]
        exact ev_neg h (ev_some _))
    l.length 0 (by omega)
theorem SignatureFault_spec (l : List S128) : Ev (fun k => spec_SignatureFault.f k l) (sigF l) := by
  unfold spec_SignatureFault.f sigF
  by_cases h1 : (l.length : Int) < 1
  · rw [if_pos (.inl (by omega))]
    refine ev_pos h1 (ev_succ ?_)
    simp only [spec_SignatureFault.j0]
    exact ev_pos (by simp) (ev_some _)
  refine ev_neg h1 (ev_succ ?_)
  simp only [spec_SignatureFault.j0]
  by_cases h2 : (l.length : Int) > 6
  · rw [if_pos (.inr (by omega))]
    exact ev_pos (by simpa using h2) (ev_some _)
  · rw [if_neg (by omega)]
    exact ev_neg (by simpa using h2) (Sig_l0 l (by omega))
theorem symbolIndex_ev (l : List S128) (hl : l.length ≤ 1048576) (s : ByteArray) : Ev (fun k => impl_symbolIndex.f k l s) (placeN (fun j => nameAt l j == s.toList) l.length) := by
  unfold impl_symbolIndex.f
  refine ev_bind (a := placeN (fun j => nameAt l j == s.toList) l.length) ?_ (ev_some _)
  unfold slices_IndexFunc_impl_Symbol_impl_Symbol_impl_symbolIndex_1.f
  have h := loop_scan l.length (fun j => if (nameAt l j == s.toList) = true then some (j : Int) else none) (-1) (fun k i => slices_IndexFunc_impl_Symbol_impl_Symbol_impl_symbolIndex_1.l0 k l (l.length : Int) i [s])
    (by simp only [slices_IndexFunc_impl_Symbol_impl_Symbol_impl_symbolIndex_1.l0]; exact ev_neg (by omega) (ev_some _))
    (fun i hi r hr => by
      simp only [slices_IndexFunc_impl_Symbol_impl_Symbol_impl_symbolIndex_1.l0]
      refine ev_pos (by omega) (ev_pos (by omega) (ev_pos (by omega) (ev_bindq (a := nameAt l i == s.toList) ?_ ?_)))
      · unfold impl_symbolIndex_1_with.f
        rw [if_pos (by simp)]
        rfl
      · rw [wrap_up (by omega)]
        by_cases h : (nameAt l i == s.toList) = true
        · rw [if_pos h]; exact ev_pos h (ev_some _)
        · rw [if_neg h]; exact ev_neg h hr)
    l.length 0 (by omega)
  rw [scanN_place (fun j => nameAt l j == s.toList)] at h
  exact h
theorem dup_place (l : List S128) (i : Nat) (hi : i < l.length) : placeN (fun j => nameAt l j == (rd_T128 l (i : Int)).f0.toList) l.length = (i : Int) ↔ dupB l i = false := by
  unfold dupB
  have hn : (firstN (fun j => nameAt l i == nameAt l j) i 0).isSome = false ↔ ∀ j, j < i → (nameAt l i == nameAt l j) = false := by
    rw [Option.isSome_eq_false_iff, Option.isNone_iff_eq_none, firstN_none]
    exact ⟨fun h j hj => h j (by omega) (by omega), fun h j _ hj => h j (by omega)⟩
  rw [hn]
  rcases placeN_cases (fun j => nameAt l j == (rd_T128 l (i : Int)).f0.toList) l.length with ⟨h1, h2⟩ | ⟨j, hj, h1, h2, h3⟩
  · have := h2 i hi
    simp [nameAt] at this
  · rw [h1]
    constructor
    · intro e
      obtain rfl : j = i := by omega
      intro m hm
      have := h3 m hm
      simp only [beq_eq_false_iff_ne, ne_eq] at this ⊢
      exact fun e => this e.symm
    · intro h
      have hji : ¬ j < i := fun hlt => by
        have := h j hlt
        simp only [beq_eq_false_iff_ne, ne_eq] at this
        exact this (by simpa [nameAt] using (eq_comm.1 (beq_iff_eq.1 h2)))
      have hij : ¬ i < j := fun hlt => by
        have := h3 i hlt
        simp [nameAt] at this
      omega
theorem ISig_last (l : List S128) (hl : l.length ≤ 6) : Ev (fun k => slices_ContainsFunc_impl_Symbol_impl_Symbol_impl_SignatureFault_1.f k l) (zeroB l) := by
  unfold slices_ContainsFunc_impl_Symbol_impl_Symbol_impl_SignatureFault_1.f slices_IndexFunc_impl_Symbol_impl_Symbol_impl_SignatureFault_1.f
  have h := loop_scan l.length (fun j => if ((rd_T128 l (j : Int)).f1 == 0) = true then some (j : Int) else none) (-1) (fun k i => slices_IndexFunc_impl_Symbol_impl_Symbol_impl_SignatureFault_1.l0 k l (l.length : Int) i)
    (by simp only [slices_IndexFunc_impl_Symbol_impl_Symbol_impl_SignatureFault_1.l0]; exact ev_neg (by omega) (ev_some _))
    (fun i hi r hr => by
      simp only [slices_IndexFunc_impl_Symbol_impl_Symbol_impl_SignatureFault_1.l0]
      refine ev_pos (by omega) (ev_pos (by omega) (ev_pos (by omega) (ev_bindq rfl ?_)))
      rw [wrap_up (by omega)]
      by_cases h : ((rd_T128 l (i : Int)).f1 == 0) = true
      · rw [if_pos h]; exact ev_pos h (ev_some _)
      · rw [if_neg h]; exact ev_neg h hr)
    l.length 0 (by omega)
  rw [scanN_first (fun j => (rd_T128 l (j : Int)).f1 == 0) (fun j => (j : Int)) (-1)] at h
  refine ev_bind h (ev_to (ev_some _) ?_)
  unfold zeroB
  cases firstN (fun j => (rd_T128 l (j : Int)).f1 == 0) l.length 0 with
  | none => rfl
  | some j => simp
theorem ISig_l1 (l : List S128) (hl : l.length ≤ 6) : Ev (fun k => impl_SignatureFault.l1 k l (l.length : Int) 0 l) (scanN (dupFault l) (if zeroB l = true then 0 else 4) l.length 0) :=
  loop_scan l.length (dupFault l) (if zeroB l = true then 0 else 4) (fun k i => impl_SignatureFault.l1 k l (l.length : Int) i l)
    (by
      simp only [impl_SignatureFault.l1]
      refine ev_neg (by omega) (ev_bind (ISig_last l hl) ?_)
      by_cases h : zeroB l = true
      · exact ev_to (ev_pos h (ev_some _)) (if_pos h).symm
      · exact ev_to (ev_neg h (ev_some _)) (if_neg h).symm)
    (fun i hi r hr => by
      simp only [impl_SignatureFault.l1]
      refine ev_pos (by omega) (ev_pos (by omega) (ev_pos (by omega) (ev_bind (symbolIndex_ev l (by omega) _) ?_)))
      have hd := dup_place l i hi
      rw [wrap_up (by omega)]
      unfold dupFault
      by_cases h : dupB l i = true
      · rw [if_pos h]
        exact ev_neg (fun e => by rw [hd.1 e] at h; cases h) (ev_some _)
      · rw [if_neg h]
        exact ev_pos (hd.2 (Bool.eq_false_iff.2 h)) hr)
    l.length 0 (by omega)
theorem SignatureFault_impl (l : List S128) : Ev (fun k => impl_SignatureFault.f k l) (sigF l) := by
  unfold impl_SignatureFault.f sigF
  by_cases h1 : (l.length : Int) < 1
  · rw [if_pos (.inl (by omega))]
    refine ev_pos h1 (ev_succ ?_)
    simp only [impl_SignatureFault.j0]
    exact ev_pos (by simp) (ev_some _)
  refine ev_neg h1 (ev_succ ?_)
  simp only [impl_SignatureFault.j0]
  by_cases h2 : (l.length : Int) > 6
  · rw [if_pos (.inr (by omega))]
    exact ev_pos (by simpa using h2) (ev_some _)
  rw [if_neg (by omega)]
  refine ev_neg (by simpa using h2) ?_
  exact loop_scan l.length (symFault l) _ (fun k i => impl_SignatureFault.l0 k l (l.length : Int) i l)
    (by simp only [impl_SignatureFault.l0]; exact ev_neg (by omega) (ISig_l1 l (by omega)))
    (fun i hi r hr => by
      simp only [impl_SignatureFault.l0]
      refine ev_pos (by omega) (ev_pos (by omega) (ev_pos (by omega) (ev_bindq (isName_eq _) ?_)))
      unfold symFault
      by_cases h : nameB (rd_T128 l (i : Int)).f0 = true
      · refine ev_pos h (ev_bindq (within_eq _ _ _) ?_)
        rw [if_pos h, wrap_up (by omega)]
        by_cases h' : 0 ≤ (rd_T128 l (i : Int)).f1 ∧ (rd_T128 l (i : Int)).f1 ≤ 2
        · rw [if_pos h']
          exact ev_pos (by simpa using h') hr
        · rw [if_neg h']
          exact ev_neg (by simpa using h') (ev_some _)
      · rw [if_neg h]
        exact ev_neg h (ev_some _))
    l.length 0 (by omega)
structure Right (l : List S128) : Prop where
  len : 1 ≤ l.length ∧ l.length ≤ 6
  names : ∀ i, i < l.length → nameB (rd_T128 l (i : Int)).f0 = true
  arities : ∀ i, i < l.length → 0 ≤ (rd_T128 l (i : Int)).f1 ∧ (rd_T128 l (i : Int)).f1 ≤ 2
  apart : ∀ i, i < l.length → dupB l i = false
theorem right_of (l : List S128) (h : sigF l = 0) : Right l := by
  unfold sigF at h
  by_cases h1 : l.length < 1 ∨ l.length > 6
  · rw [if_pos h1] at h; omega
  rw [if_neg h1] at h
  have hlen : 1 ≤ l.length ∧ l.length ≤ 6 := by omega
  rcases scanN_cases (symFault l) (scanN (dupFault l) (if zeroB l = true then 0 else 4) l.length 0) l.length 0 with ⟨h2, h3⟩ | ⟨j, _, _, h3⟩
  · rw [h3] at h
    rcases scanN_cases (dupFault l) (if zeroB l = true then 0 else 4) l.length 0 with ⟨h4, h5⟩ | ⟨j, _, _, h5⟩
    · refine ⟨hlen, fun i hi => ?_, fun i hi => ?_, fun i hi => ?_⟩
      · have := h2 i (by omega) (by omega)
        unfold symFault at this
        by_cases hn : nameB (rd_T128 l (i : Int)).f0 = true
        · exact hn
        · rw [if_neg hn] at this; cases this
      · have := h2 i (by omega) (by omega)
        unfold symFault at this
        by_cases hn : nameB (rd_T128 l (i : Int)).f0 = true
        · rw [if_pos hn] at this
          by_cases ha : 0 ≤ (rd_T128 l (i : Int)).f1 ∧ (rd_T128 l (i : Int)).f1 ≤ 2
          · exact ha
          · rw [if_neg ha] at this; cases this
        · rw [if_neg hn] at this; cases this
      · have := h4 i (by omega) (by omega)
        unfold dupFault at this
        by_cases hd : dupB l i = true
        · rw [if_pos hd] at this; cases this
        · exact Bool.eq_false_iff.2 hd
    · rw [h] at h5
      unfold dupFault at h5
      by_cases hd : dupB l j = true
      · rw [if_pos hd] at h5; cases h5
      · rw [if_neg hd] at h5; cases h5
  · rw [h] at h3
    unfold symFault at h3
    by_cases hn : nameB (rd_T128 l (j : Int)).f0 = true
    · rw [if_pos hn] at h3
      by_cases ha : 0 ≤ (rd_T128 l (j : Int)).f1 ∧ (rd_T128 l (j : Int)).f1 ≤ 2
      · rw [if_pos ha] at h3; cases h3
      · rw [if_neg ha] at h3; cases h3
    · rw [if_neg hn] at h3; cases h3
end Go.Proofs.YtnlpbmakdiaaoaaGreatDoor.Pure
set_option linter.unusedVariables false
namespace Go.Proofs.YtnlpbmakdiaaoaaGreatDoor.Pure
open Go.RowKit Go.Proofs.YtnlpbmakdiaaoaaGreatDoor.P Go.Proofs.YtnlpbmakdiaaoaaGreatDoorW.PrintWords Go.Proofs.YtnlpbmakdiaaoaaGreatDoorW.PrintLast Go.Proofs.YtnlpbmakdiaaoaaGreatDoor.Base
def symB (l : List S128) (n : Int) : Bool := decide (0 ≤ n ∧ n ≤ (l.length : Int) - 1)
theorem l2Symbol_eq (l : List S128) (hl : l.length ≤ 1048576) (n : Int) : spec_l2Symbol.f [(⟨l⟩ : S34)] n = some (symB l n) := by
  unfold spec_l2Symbol.f
  rw [if_pos (by simp)]
  show (spec_l1In.f n 0 (wrap64 ((l.length : Int) - 1))).bind _ = _
  rw [l1In_eq, wrap_id (by omega) (by omega)]
  rfl
theorem isSymbol_eq (l : List S128) (hl : l.length ≤ 1048576) (n : Int) : impl_isSymbol.f l n = some (symB l n) := by
  unfold impl_isSymbol.f
  rw [within_eq, wrap_id (by omega) (by omega)]
  rfl
theorem symB_true {l : List S128} {n : Int} (h : symB l n = true) : 0 ≤ n ∧ n < (l.length : Int) := by
  unfold symB at h
  have := of_decide_eq_true h
  omega
end Go.Proofs.YtnlpbmakdiaaoaaGreatDoor.Pure
set_option linter.unusedVariables false
namespace Go.Proofs.YtnlpbmakdiaaoaaGreatDoor.Pure
open Go.RowKit Go.Proofs.YtnlpbmakdiaaoaaGreatDoorW.PrintWords Go.Proofs.YtnlpbmakdiaaoaaGreatDoor.Base
def skipN (ar : Int → Nat) : Nat → List Int → Option (List Int)
  | 0, t => some t
  | _ + 1, [] => none
  | k + 1, n :: t => skipN ar (k + ar n) t
theorem skipN_zero (ar : Int → Nat) (t : List Int) : skipN ar 0 t = some t := by cases t <;> rfl
theorem skipN_add (ar : Int → Nat) (m : Nat) : ∀ (t : List Int) (k : Nat), skipN ar (k + m) t = (skipN ar k t).bind (skipN ar m)
  | t, 0 => by rw [skipN_zero, Nat.zero_add]; rfl
  | [], k + 1 => by rw [show k + 1 + m = (k + m) + 1 by omega]; rfl
  | n :: t, k + 1 => by
    rw [show k + 1 + m = (k + m) + 1 by omega]
    show skipN ar (k + m + ar n) t = (skipN ar (k + ar n) t).bind (skipN ar m)
    rw [show k + m + ar n = k + ar n + m by omega]
    exact skipN_add ar m t (k + ar n)
theorem skipN_cons (ar : Int → Nat) (n : Int) (t : List Int) (k : Nat) : skipN ar (k + 1) (n :: t) = skipN ar (k + ar n) t := rfl
theorem skipN_suffix (ar : Int → Nat) : ∀ (t : List Int) (k : Nat) (u : List Int), skipN ar k t = some u → ∃ d, u = t.drop d ∧ d ≤ t.length ∧ k ≤ d
  | t, 0, u, h => by
    rw [skipN_zero] at h
    obtain rfl := Option.some.inj h
    exact ⟨0, by simp, by omega, by omega⟩
  | [], k + 1, u, h => by cases h
  | n :: t, k + 1, u, h => by
    obtain ⟨d, e, hd, hk⟩ := skipN_suffix ar t (k + ar n) u h
    exact ⟨d + 1, by rw [e]; rfl, by simp; omega, by omega⟩
def endN (ar : Int → Nat) (term : List Int) (k at_ : Nat) : Option Nat := (skipN ar k (term.drop at_)).map fun u => term.length - u.length
theorem endN_some {ar : Int → Nat} {term : List Int} {k at_ e : Nat} (hat : at_ ≤ term.length) (h : endN ar term k at_ = some e) : skipN ar k (term.drop at_) = some (term.drop e) ∧ at_ + k ≤ e ∧ e ≤ term.length := by
  unfold endN at h
  cases hs : skipN ar k (term.drop at_) with
  | none => rw [hs] at h; cases h
  | some u =>
    rw [hs] at h
    obtain ⟨d, e1, hd, hk⟩ := skipN_suffix ar _ _ _ hs
    rw [List.length_drop] at hd
    have he : term.length - u.length = e := Option.some.inj h
    have hul : u.length = term.length - (at_ + d) := by rw [e1, List.drop_drop, List.length_drop]
    have hed : e = at_ + d := by omega
    refine ⟨?_, by omega, by omega⟩
    rw [e1, List.drop_drop, hed]
theorem endN_zero (ar : Int → Nat) (term : List Int) (at_ : Nat) (hat : at_ ≤ term.length) : endN ar term 0 at_ = some at_ := by
  unfold endN
  rw [skipN_zero]
  simp only [Option.map_some, List.length_drop]
  congr 1; omega
theorem endN_out (ar : Int → Nat) (term : List Int) (k at_ : Nat) (hk : 0 < k) (hat : term.length ≤ at_) : endN ar term k at_ = none := by
  unfold endN
  obtain ⟨m, rfl⟩ : ∃ m, k = m + 1 := ⟨k - 1, by omega⟩
  rw [List.drop_eq_nil_of_le hat]; rfl
theorem endN_step (ar : Int → Nat) (term : List Int) (k at_ : Nat) (hat : at_ < term.length) : endN ar term (k + 1) at_ = endN ar term (k + ar term[at_]) (at_ + 1) := by
  unfold endN
  rw [List.drop_eq_getElem_cons hat, skipN_cons]
theorem endN_add (ar : Int → Nat) (term : List Int) (k m at_ : Nat) (hat : at_ ≤ term.length) : endN ar term (k + m) at_ = (endN ar term k at_).bind fun e => endN ar term m e := by
  cases h : endN ar term k at_ with
  | none =>
    unfold endN at h ⊢
    rw [skipN_add]
    cases hs : skipN ar k (term.drop at_) with
    | none => rfl
    | some u => rw [hs] at h; cases h
  | some e =>
    obtain ⟨hs, _, _⟩ := endN_some hat h
    simp only [Option.bind_some]
    unfold endN
    rw [skipN_add, hs]
    rfl
end Go.Proofs.YtnlpbmakdiaaoaaGreatDoor.Pure
set_option linter.unusedVariables false
namespace Go.Proofs.YtnlpbmakdiaaoaaGreatDoor.Pure
open Go.RowKit Go.Proofs.YtnlpbmakdiaaoaaGreatDoor.P Go.Proofs.YtnlpbmakdiaaoaaGreatDoorW.PrintWords Go.Proofs.YtnlpbmakdiaaoaaGreatDoorW.PrintLast Go.Proofs.YtnlpbmakdiaaoaaGreatDoor.Base
def nodeB (l : List S128) (n : Int) : Bool := symB l n || decide (-12 ≤ n ∧ n ≤ -1)
def arL (l : List S128) (n : Int) : Nat := if n < 0 then 0 else (rd_T128 l n).f1.toNat
theorem l3Node_eq (l : List S128) (hl : l.length ≤ 6) (n : Int) : spec_l3Node.f [(⟨l⟩ : S34)] n = some (nodeB l n) := by
  unfold spec_l3Node.f nodeB
  rw [l2Symbol_eq l (by omega)]
  simp only [Option.bind_some]
  by_cases h : symB l n = true
  · rw [if_pos h, h]; rfl
  · rw [if_neg h, l1In_eq, Bool.eq_false_iff.2 h]; rfl
theorem isNode_eq (l : List S128) (hl : l.length ≤ 6) (n : Int) : impl_isNode.f l n = some (nodeB l n) := by
  unfold impl_isNode.f nodeB
  rw [isSymbol_eq l (by omega)]
  simp only [Option.bind_some]
  by_cases h : symB l n = true
  · rw [if_pos h, h]; rfl
  · rw [if_neg h, within_eq, Bool.eq_false_iff.2 h]; rfl
def Nodes (l : List S128) (t : List Int) : Prop := ∀ i, i < t.length → nodeB l (rd t (i : Int)) = true
theorem node_sym {l : List S128} {n : Int} (h : nodeB l n = true) (h0 : ¬ n < 0) : 0 ≤ n ∧ n < (l.length : Int) := by
  unfold nodeB at h
  rw [Bool.or_eq_true] at h
  rcases h with h | h
  · exact symB_true h
  · have := of_decide_eq_true h; omega
theorem arL_cast {l : List S128} (hr : Right l) {n : Int} (h : nodeB l n = true) (h0 : ¬ n < 0) : (rd_T128 l n).f1 = (arL l n : Int) ∧ arL l n ≤ 2 := by
  obtain ⟨a, b⟩ := node_sym h h0
  have := hr.arities n.toNat (by omega)
  rw [Int.toNat_of_nonneg a] at this
  unfold arL
  rw [if_neg h0]
  omega
theorem arL_le {l : List S128} (hr : Right l) {n : Int} (h : nodeB l n = true) : arL l n ≤ 2 := by
  by_cases h0 : n < 0
  · unfold arL; rw [if_pos h0]; omega
  · exact (arL_cast hr h h0).2
def endI (o : Option Nat) : Int := match o with
  | some e => (e : Int)
  | none => -1
theorem l3End_loop (l : List S128) (hr : Right l) (t : List Int) (ht : t.length ≤ 1048576) (hn : Nodes l t) (at_ : Nat) (hat : at_ < t.length) (h0 : ¬ rd t (at_ : Int) < 0)
    (ih : ∀ e, at_ < e → e ≤ t.length → Ev (fun k => spec_l3End.f k [(⟨l⟩ : S34)] t (e : Int)) (endI (endN (arL l) t 1 e))) :
    ∀ (m i e : Nat), i + m = arL l (rd t (at_ : Int)) → at_ < e → e ≤ t.length → Ev (fun k => spec_l3End.l0 k [(⟨l⟩ : S34)] t (at_ : Int) (e : Int) (i : Int)) (endI (endN (arL l) t m e)) := by
  obtain ⟨s0, s1⟩ := node_sym (hn at_ hat) h0
  obtain ⟨ha, ha2⟩ := arL_cast hr (hn at_ hat) h0
  have e0 : (rd_T34 [(⟨l⟩ : S34)] 0).f0 = l := rfl
  intro m
  induction m with
  | zero =>
    intro i e hi he hel
    refine ev_succ ?_
    simp only [spec_l3End.l0, e0]
    refine ev_pos (by simp) (ev_pos (by omega) (ev_pos (by omega) (ev_pos s0 (ev_pos s1 ?_))))
    rw [ha, endN_zero _ _ _ hel]
    exact ev_neg (by omega) (ev_some _)
  | succ m ihm =>
    intro i e hi he hel
    refine ev_succ ?_
    simp only [spec_l3End.l0, e0]
    refine ev_pos (by simp) (ev_pos (by omega) (ev_pos (by omega) (ev_pos s0 (ev_pos s1 ?_))))
    rw [ha]
    refine ev_pos (by omega) (ev_bind (ih e he hel) ?_)
    rw [show m + 1 = 1 + m by omega, endN_add _ _ 1 m e hel]
    cases hE : endN (arL l) t 1 e with
    | none => exact ev_pos (by simp [endI]) (ev_some _)
    | some e' =>
      obtain ⟨_, h1, h2⟩ := endN_some hel hE
      refine ev_neg (by simp [endI]) ?_
      rw [wrap_up (by omega)]
      simp only [Option.bind_some]
      exact ihm (i + 1) e' (by omega) (by omega) h2
theorem l3End_ev (l : List S128) (hr : Right l) (t : List Int) (ht : t.length ≤ 1048576) (hn : Nodes l t) : ∀ (d at_ : Nat), at_ + d = t.length → Ev (fun k => spec_l3End.f k [(⟨l⟩ : S34)] t (at_ : Int)) (endI (endN (arL l) t 1 at_)) := by
  intro d
  induction d using Nat.strongRecOn with
  | _ d ih =>
    intro at_ hd
    refine ev_succ ?_
    simp only [spec_l3End.f]
    by_cases hat : t.length ≤ at_
    · rw [endN_out _ _ _ _ (by omega) hat]
      exact ev_pos (by omega) (ev_some _)
    have hat' : at_ < t.length := by omega
    refine ev_neg (by omega) (ev_pos (by omega) (ev_pos (by omega) ?_))
    rw [endN_step _ _ 0 _ hat', ← rd_get t at_ hat', Nat.zero_add, wrap_up (by omega)]
    by_cases h0 : rd t (at_ : Int) < 0
    · refine ev_pos h0 ?_
      have : arL l (rd t (at_ : Int)) = 0 := by unfold arL; rw [if_pos h0]
      rw [this, endN_zero _ _ _ (by omega)]
      exact ev_some _
    · refine ev_neg h0 ?_
      exact l3End_loop l hr t ht hn at_ hat' h0 (fun e he hel => ih (t.length - e) (by omega) e (by omega)) _ 0 (at_ + 1) (by omega) (by omega) (by omega)
def endJ (n : Nat) (o : Option Nat) : Int := match o with
  | some e => (e : Int)
  | none => (n : Int) + 1
theorem arityOf_eq (l : List S128) (hr : Right l) (n : Int) (h : nodeB l n = true) : impl_arityOf.f l n = some (arL l n : Int) := by
  unfold impl_arityOf.f
  by_cases h0 : n < 0
  · rw [if_pos h0]; unfold arL; rw [if_pos h0]; rfl
  · obtain ⟨s0, s1⟩ := node_sym h h0
    rw [if_neg h0, if_pos s0, if_pos s1, (arL_cast hr h h0).1]
theorem endOf_l0 (l : List S128) (hr : Right l) (t : List Int) (ht : t.length ≤ 1048576) (hn : Nodes l t) : ∀ (d at_ o : Nat), at_ + d = t.length → o ≤ 2 * at_ + 1 → Ev (fun k => impl_endOf.l0 k t (at_ : Int) (o : Int) l) (endJ t.length (endN (arL l) t o at_)) := by
  intro d
  induction d with
  | zero =>
    intro at_ o hd ho
    refine ev_succ ?_
    simp only [impl_endOf.l0]
    cases o with
    | zero =>
      rw [endN_zero _ _ _ (by omega)]
      exact ev_neg (by omega) (ev_some _)
    | succ o =>
      rw [endN_out _ _ _ _ (by omega) (by omega)]
      refine ev_pos (by omega) (ev_pos (by omega) ?_)
      rw [wrap_up (by omega)]
      exact ev_to (ev_some _) (by simp [endJ])
  | succ d ih =>
    intro at_ o hd ho
    refine ev_succ ?_
    simp only [impl_endOf.l0]
    cases o with
    | zero =>
      rw [endN_zero _ _ _ (by omega)]
      exact ev_neg (by omega) (ev_some _)
    | succ o =>
      have hat : at_ < t.length := by omega
      refine ev_pos (by omega) (ev_neg (by omega) (ev_pos (by omega) (ev_pos (by omega) (ev_bindq (arityOf_eq l hr _ (hn at_ hat)) ?_))))
      have ha := arL_le hr (hn at_ hat)
      rw [endN_step _ _ o _ hat, ← rd_get t at_ hat, wrap_up (by omega)]
      generalize arL l (rd t (at_ : Int)) = a at *
      rw [wrap_id (x := (a : Int) - 1) (by omega) (by omega), wrap_id (by omega) (by omega), show ((o + 1 : Nat) : Int) + ((a : Int) - 1) = ((o + a : Nat) : Int) by omega]
      exact ih (at_ + 1) (o + a) (by omega) (by omega)
theorem endOf_ev (l : List S128) (hr : Right l) (t : List Int) (ht : t.length ≤ 1048576) (hn : Nodes l t) (at_ : Nat) (hat : at_ ≤ t.length) : Ev (fun k => impl_endOf.f k l t (at_ : Int)) (endJ t.length (endN (arL l) t 1 at_)) := by
  unfold impl_endOf.f
  exact endOf_l0 l hr t ht hn (t.length - at_) at_ 1 (by omega) (by omega)
def badN (l : List S128) (t : List Int) : Bool := (firstN (fun j => !nodeB l (rd t (j : Int))) t.length 0).isSome
theorem nodes_of {l : List S128} {t : List Int} (h : ¬ badN l t = true) : Nodes l t := by
  unfold badN at h
  have h1 : firstN (fun j => !nodeB l (rd t (j : Int))) t.length 0 = none := by
    cases hf : firstN (fun j => !nodeB l (rd t (j : Int))) t.length 0 with
    | none => rfl
    | some j => rw [hf] at h; exact absurd rfl h
  intro i hi
  have := (firstN_none t.length 0).1 h1 i (by omega) (by omega)
  simpa using this
def termG (l : List S128) (t : List Int) : Int :=
  if t.length < 1 ∨ t.length > 24 then 2 else if badN l t = true then 3 else if endN (arL l) t 1 0 = some t.length then 0 else 1
def termF (l : List S128) (t : List Int) : Int := if sigF l = 0 then termG l t else sigF l
theorem l3Fault_ev (l : List S128) (hr : Right l) (t : List Int) (ht : t.length ≤ 1048576) : Ev (fun k => spec_l3Fault.f k [(⟨l⟩ : S34)] t) (termG l t) := by
  have hl := hr.len
  unfold spec_l3Fault.f termG
  by_cases h1 : (t.length : Int) < 1
  · rw [if_pos (.inl (by omega))]
    refine ev_pos h1 (ev_succ ?_)
    simp only [spec_l3Fault.j0]
    exact ev_pos (by simp) (ev_some _)
  refine ev_neg h1 (ev_succ ?_)
  simp only [spec_l3Fault.j0]
  by_cases h2 : (t.length : Int) > 24
  · rw [if_pos (.inr (by omega))]
    exact ev_pos (by simpa using h2) (ev_some _)
  rw [if_neg (by omega)]
  refine ev_neg (by simpa using h2) ?_
  by_cases hb : badN l t = true
  · rw [if_pos hb]
    unfold badN at hb
    cases hf : firstN (fun j => !nodeB l (rd t (j : Int))) t.length 0 with
    | none => rw [hf] at hb; cases hb
    | some j =>
      obtain ⟨_, hj, hp, hall⟩ := firstN_some _ _ _ hf
      have key : ∀ d i, i + d = j → Ev (fun k => spec_l3Fault.l0 k [(⟨l⟩ : S34)] t (i : Int)) 3 := by
        intro d
        induction d with
        | zero =>
          intro i hi
          obtain rfl : i = j := by omega
          refine ev_succ ?_
          simp only [spec_l3Fault.l0]
          refine ev_pos (by omega) (ev_pos (by omega) (ev_bindq (l3Node_eq l (by omega) _) ?_))
          exact ev_neg (by simpa using hp) (ev_some _)
        | succ d ih =>
          intro i hi
          refine ev_succ ?_
          simp only [spec_l3Fault.l0]
          refine ev_pos (by omega) (ev_pos (by omega) (ev_bindq (l3Node_eq l (by omega) _) ?_))
          have := hall i (by omega) (by omega)
          rw [wrap_up (by omega)]
          exact ev_pos (by simpa using this) (ih (i + 1) (by omega))
      exact key j 0 (by omega)
  · rw [if_neg hb]
    have hn := nodes_of hb
    have h := loop_scan t.length (fun j => if (!nodeB l (rd t (j : Int))) = true then some 3 else none) (if endN (arL l) t 1 0 = some t.length then 0 else 1) (fun k i => spec_l3Fault.l0 k [(⟨l⟩ : S34)] t i)
      (by
        simp only [spec_l3Fault.l0]
        refine ev_neg (by omega) (ev_bind (l3End_ev l hr t ht hn t.length 0 (by omega)) ?_)
        by_cases he : endN (arL l) t 1 0 = some t.length
        · rw [he]; exact ev_pos rfl (ev_to (ev_some _) (if_pos rfl).symm)
        · refine ev_neg ?_ (ev_to (ev_some _) (if_neg he).symm)
          cases hE : endN (arL l) t 1 0 with
          | none => simp [endI] <;> omega
          | some e =>
            intro k
            have : e = t.length := by simp only [endI] at k; omega
            exact he (by rw [hE, this]))
      (fun i hi r hr => by
        simp only [spec_l3Fault.l0]
        refine ev_pos (by omega) (ev_pos (by omega) (ev_bindq (l3Node_eq l (by omega) _) ?_))
        rw [wrap_up (by omega), hn i hi]
        exact ev_pos rfl (ev_to hr (by simp)))
      t.length 0 (by omega)
    refine ev_to h ?_
    exact scanN_none t.length 0 (fun j _ hj => by simp [hn j (by omega)])
theorem Term_bad (l : List S128) (hl : l.length ≤ 6) (t : List Int) (ht : t.length ≤ 1048576) :
    Ev (fun k => slices_ContainsFunc_int64_int64_impl_TermFault_1.f k t [(⟨l⟩ : S34)]) (badN l t) := by
  unfold slices_ContainsFunc_int64_int64_impl_TermFault_1.f slices_IndexFunc_int64_int64_impl_TermFault_1.f
  have h := loop_scan t.length (fun j => if (!nodeB l (rd t (j : Int))) = true then some (j : Int) else none) (-1) (fun k i => slices_IndexFunc_int64_int64_impl_TermFault_1.l0 k t (t.length : Int) i [(⟨l⟩ : S34)])
    (by simp only [slices_IndexFunc_int64_int64_impl_TermFault_1.l0]; exact ev_neg (by omega) (ev_some _))
    (fun i hi r hr => by
      simp only [slices_IndexFunc_int64_int64_impl_TermFault_1.l0]
      refine ev_pos (by omega) (ev_pos (by omega) (ev_pos (by omega) (ev_bindq (a := !nodeB l (rd t (i : Int))) ?_ ?_)))
      · unfold impl_TermFault_1_with.f
        rw [if_pos (by simp)]
        exact bind_eq (isNode_eq l (by omega) _) rfl
      · rw [wrap_up (by omega)]
        by_cases h : (!nodeB l (rd t (i : Int))) = true
        · rw [if_pos h]; exact ev_pos h (ev_some _)
        · rw [if_neg h]; exact ev_neg h hr)
    t.length 0 (by omega)
  rw [scanN_first (fun j => !nodeB l (rd t (j : Int))) (fun j => (j : Int)) (-1)] at h
  refine ev_bind h (ev_to (ev_some _) ?_)
  unfold badN
  cases firstN (fun j => !nodeB l (rd t (j : Int))) t.length 0 with
  | none => rfl
  | some j => simp
theorem TermFault_impl (l : List S128) (t : List Int) (ht : t.length ≤ 1048576) : Ev (fun k => impl_TermFault.f k l t) (termF l t) := by
  unfold impl_TermFault.f termF
  refine ev_bind (SignatureFault_impl l) (ev_ite (fun h => ?_) (fun h => ev_some _))
  have hr := right_of l h
  have hl := hr.len
  unfold termG
  by_cases h1 : (t.length : Int) < 1
  · rw [if_pos (.inl (by omega))]
    refine ev_pos h1 (ev_succ ?_)
    simp only [impl_TermFault.j0]
    exact ev_pos (by simp) (ev_some _)
  refine ev_neg h1 (ev_succ ?_)
  simp only [impl_TermFault.j0]
  by_cases h2 : (t.length : Int) > 24
  · rw [if_pos (.inr (by omega))]
    exact ev_pos (by simpa using h2) (ev_some _)
  rw [if_neg (by omega)]
  refine ev_neg (by simpa using h2) (ev_bind (Term_bad l (by omega) t ht) (ev_ite (fun hb => ev_some _) (fun hb => ?_)))
  have hn := nodes_of hb
  refine ev_bind (endOf_ev l hr t ht hn 0 (by omega)) ?_
  by_cases he : endN (arL l) t 1 0 = some t.length
  · rw [he]; exact ev_pos rfl (ev_to (ev_some _) (if_pos rfl).symm)
  · refine ev_neg ?_ (ev_to (ev_some _) (if_neg he).symm)
    cases hE : endN (arL l) t 1 0 with
    | none => simp [endJ] <;> omega
    | some e =>
      intro k
      have : e = t.length := by simp only [endJ] at k; omega
      exact he (by rw [hE, this])
structure RightT (l : List S128) (t : List Int) : Prop where
  sig : Right l
  len : 1 ≤ t.length ∧ t.length ≤ 24
  nodes : Nodes l t
  whole : endN (arL l) t 1 0 = some t.length
theorem rightT_of {l : List S128} {t : List Int} (h : termF l t = 0) : RightT l t := by
  unfold termF at h
  by_cases hs : sigF l = 0
  · rw [if_pos hs] at h
    unfold termG at h
    by_cases h1 : t.length < 1 ∨ t.length > 24
    · rw [if_pos h1] at h; cases h
    rw [if_neg h1] at h
    by_cases h2 : badN l t = true
    · rw [if_pos h2] at h; cases h
    rw [if_neg h2] at h
    by_cases h3 : endN (arL l) t 1 0 = some t.length
    · exact ⟨right_of l hs, by omega, nodes_of h2, h3⟩
    · rw [if_neg h3] at h; cases h
  · rw [if_neg hs] at h; exact absurd h hs
end Go.Proofs.YtnlpbmakdiaaoaaGreatDoor.Pure
set_option linter.unusedVariables false
namespace Go.Proofs.YtnlpbmakdiaaoaaGreatDoor.Pure
open Go.RowKit Go.Proofs.YtnlpbmakdiaaoaaGreatDoor.P Go.Proofs.YtnlpbmakdiaaoaaGreatDoorW.PrintWords Go.Proofs.YtnlpbmakdiaaoaaGreatDoorW.PrintLast Go.Proofs.YtnlpbmakdiaaoaaGreatDoor.Base
def SmallT (t : List Int) : Prop := t.length ≤ 24 ∧ ∀ i, i < t.length → -12 ≤ rd t (i : Int) ∧ rd t (i : Int) ≤ 6
theorem smallT_of {l : List S128} {t : List Int} (h : RightT l t) : SmallT t := ⟨h.len.2, fun i hi => by
  have hn := h.nodes i hi
  have := h.sig.len
  unfold nodeB at hn
  rw [Bool.or_eq_true] at hn
  rcases hn with hn | hn
  · have := symB_true hn; omega
  · have := of_decide_eq_true hn; omega⟩
theorem termG_right {l : List S128} (hr : Right l) {t : List Int} (h : termG l t = 0) : RightT l t := by
  unfold termG at h
  by_cases h1 : t.length < 1 ∨ t.length > 24
  · rw [if_pos h1] at h; cases h
  rw [if_neg h1] at h
  by_cases h2 : badN l t = true
  · rw [if_pos h2] at h; cases h
  rw [if_neg h2] at h
  by_cases h3 : endN (arL l) t 1 0 = some t.length
  · exact ⟨hr, by omega, nodes_of h2, h3⟩
  · rw [if_neg h3] at h; cases h
end Go.Proofs.YtnlpbmakdiaaoaaGreatDoor.Pure
set_option linter.unusedVariables false
namespace Go.Proofs.YtnlpbmakdiaaoaaGreatDoor.Pure
open Go.RowKit Go.Proofs.YtnlpbmakdiaaoaaGreatDoorW.PrintWords Go.Proofs.YtnlpbmakdiaaoaaGreatDoor.Base
def putL : List Int → Int → List Int
  | [], n => [n]
  | x :: xs, n => if n ≤ x then (if x = n then x :: xs else n :: x :: xs) else x :: putL xs n
theorem mem_putL (n y : Int) : ∀ l : List Int, y ∈ putL l n ↔ y = n ∨ y ∈ l
  | [] => by simp [putL]
  | x :: xs => by
    unfold putL
    by_cases h : n ≤ x
    · rw [if_pos h]
      by_cases e : x = n
      · rw [if_pos e]; subst e; simp
      · rw [if_neg e]; simp
    · rw [if_neg h, List.mem_cons, mem_putL n y xs, List.mem_cons]
      constructor
      · rintro (h | h | h)
        · exact .inr (.inl h)
        · exact .inl h
        · exact .inr (.inr h)
      · rintro (h | h | h)
        · exact .inr (.inl h)
        · exact .inl h
        · exact .inr (.inr h)
theorem rise_putL (n : Int) : ∀ l : List Int, l.Pairwise (· < ·) → (putL l n).Pairwise (· < ·)
  | [], _ => by simp [putL]
  | x :: xs, h => by
    unfold putL
    rw [List.pairwise_cons] at h
    by_cases hn : n ≤ x
    · rw [if_pos hn]
      by_cases e : x = n
      · rw [if_pos e, List.pairwise_cons]; exact h
      · rw [if_neg e, List.pairwise_cons, List.pairwise_cons]
        refine ⟨fun y hy => ?_, h⟩
        rcases List.mem_cons.1 hy with rfl | hy
        · omega
        · have := h.1 y hy; omega
    · rw [if_neg hn, List.pairwise_cons]
      refine ⟨fun y hy => ?_, rise_putL n xs h.2⟩
      rcases (mem_putL n y xs).1 hy with rfl | hy
      · omega
      · exact h.1 y hy
theorem putL_length (n : Int) : ∀ l : List Int, (putL l n).length ≤ l.length + 1
  | [] => by simp [putL]
  | x :: xs => by
    unfold putL
    split
    · split
      · simp
      · simp
    · have := putL_length n xs
      simp only [List.length_cons]; omega
theorem rise_ext : ∀ a b : List Int, a.Pairwise (· < ·) → b.Pairwise (· < ·) → (∀ x, x ∈ a ↔ x ∈ b) → a = b
  | [], [], _, _, _ => rfl
  | [], y :: ys, _, _, h => by have := (h y).2 (by simp); simp at this
  | x :: xs, [], _, _, h => by have := (h x).1 (by simp); simp at this
  | x :: xs, y :: ys, ha, hb, h => by
    rw [List.pairwise_cons] at ha hb
    have e : x = y := by
      have h1 := (h x).1 (by simp)
      have h2 := (h y).2 (by simp)
      rcases List.mem_cons.1 h1 with h1 | h1
      · exact h1
      rcases List.mem_cons.1 h2 with h2 | h2
      · exact h2.symm
      have := ha.1 y h2
      have := hb.1 x h1
      omega
    subst e
    congr 1
    refine rise_ext xs ys ha.2 hb.2 (fun z => ?_)
    constructor
    · intro hz
      have h1 := (h z).1 (by simp [hz])
      rcases List.mem_cons.1 h1 with h1 | h1
      · have := ha.1 z hz; omega
      · exact h1
    · intro hz
      have h1 := (h z).2 (by simp [hz])
      rcases List.mem_cons.1 h1 with h1 | h1
      · have := hb.1 z hz; omega
      · exact h1
theorem compactUpTo_rise (d : Array Int) (hs : ∀ i j, i < j → j < d.size → d[i]! ≤ d[j]!) : ∀ m, m ≤ d.size → (Lib.compactUpTo d m).Pairwise (· < ·) ∧ ∀ x, x ∈ Lib.compactUpTo d m ↔ ∃ j, j < m ∧ d[j]! = x := by
  intro m
  induction m with
  | zero => intro _; simp [Lib.compactUpTo]
  | succ m ih =>
    intro hm
    obtain ⟨h1, h2⟩ := ih (by omega)
    rw [Lib.compactUpTo_succ]
    by_cases hk : m = 0 ∨ d[m]! ≠ d[m - 1]!
    · have hkp : Lib.keeps d m = true := by
        rcases hk with rfl | hk
        · exact Lib.keeps_lt_one d 0 (by omega)
        · exact Lib.keeps_pos hk
      rw [if_pos hkp]
      refine ⟨List.pairwise_append.2 ⟨h1, by simp, fun a ha b hb => ?_⟩, fun x => ?_⟩
      · rw [List.mem_singleton] at hb
        subst hb
        obtain ⟨j, hj, rfl⟩ := (h2 a).1 ha
        rcases hk with rfl | hk
        · omega
        · have e1 := hs (m - 1) m (by omega) (by omega)
          by_cases hjm : j = m - 1
          · subst hjm; omega
          · have e2 := hs j (m - 1) (by omega) (by omega); omega
      · rw [List.mem_append, List.mem_singleton, h2]
        constructor
        · rintro (⟨j, hj, e⟩ | e)
          · exact ⟨j, by omega, e⟩
          · exact ⟨m, by omega, e.symm⟩
        · rintro ⟨j, hj, e⟩
          by_cases hjm : j = m
          · subst hjm; exact .inr e.symm
          · exact .inl ⟨j, by omega, e⟩
    · have hm0 : 0 < m := by
        rcases Nat.eq_zero_or_pos m with h | h
        · exact absurd (.inl h) hk
        · exact h
      have he : d[m]! = d[m - 1]! := by
        by_cases h : d[m]! = d[m - 1]!
        · exact h
        · exact absurd (.inr h) hk
      rw [Lib.keeps_neg hm0 he]
      simp only [Bool.false_eq_true, if_false, List.append_nil]
      refine ⟨h1, fun x => ?_⟩
      rw [h2]
      constructor
      · rintro ⟨j, hj, e⟩; exact ⟨j, by omega, e⟩
      · rintro ⟨j, hj, e⟩
        by_cases hjm : j = m
        · subst hjm; exact ⟨j - 1, by omega, by rw [← he]; exact e⟩
        · exact ⟨j, by omega, e⟩
theorem compact_rise (zs : List Int) (hs : zs.Pairwise (· ≤ ·)) : (Lib.compact zs).Pairwise (· < ·) ∧ ∀ x, x ∈ Lib.compact zs ↔ x ∈ zs := by
  have hg : ∀ i (hi : i < zs.length), zs.toArray[i]! = zs[i] := fun i hi => by simp [getElem!_pos, hi]
  have h := compactUpTo_rise zs.toArray (fun i j hij hj => by
    have hj' : j < zs.length := by simpa using hj
    rw [hg i (by omega), hg j hj']
    exact List.pairwise_iff_getElem.1 hs i j (by omega) hj' hij) zs.length (by simp)
  refine ⟨h.1, fun x => ?_⟩
  rw [Lib.compact, h.2, List.mem_iff_getElem]
  constructor
  · rintro ⟨j, hj, e⟩; exact ⟨j, hj, by rw [← hg j hj]; exact e⟩
  · rintro ⟨j, hj, e⟩; exact ⟨j, hj, by rw [hg j hj]; exact e⟩
theorem sort_rise (zs : List Int) : (zs.mergeSort fun x y => decide (x ≤ y)).Pairwise (· ≤ ·) := by
  have h := List.pairwise_mergeSort (le := fun x y : Int => decide (x ≤ y)) (fun a b c h1 h2 => by simp at *; omega) (fun a b => by simp; omega) zs
  exact h.imp (fun h => of_decide_eq_true h)
theorem sorted_eq (zs r : List Int) (h1 : r.Pairwise (· < ·)) (h2 : ∀ x, x ∈ r ↔ x ∈ zs) : Lib.compact (zs.mergeSort fun x y => decide (x ≤ y)) = r := by
  obtain ⟨h3, h4⟩ := compact_rise _ (sort_rise zs)
  refine rise_ext _ _ h3 h1 (fun x => ?_)
  rw [h4, h2, List.mem_mergeSort]
def varsL (t : List Int) : List Int := t.foldl (fun a n => if n < 0 then putL a (-1 - n) else a) []
def varN (n : Int) : List Int := if n < 0 then [-1 - n] else []
theorem foldl_put (t : List Int) : ∀ a : List Int, a.Pairwise (· < ·) → (t.foldl (fun a n => if n < 0 then putL a (-1 - n) else a) a).Pairwise (· < ·) ∧ ∀ x, x ∈ t.foldl (fun a n => if n < 0 then putL a (-1 - n) else a) a ↔ x ∈ a ∨ x ∈ t.flatMap varN := by
  induction t with
  | nil => intro a ha; exact ⟨ha, fun x => by simp⟩
  | cons n t ih =>
    intro a ha
    rw [List.foldl_cons]
    by_cases hn : n < 0
    · obtain ⟨h1, h2⟩ := ih (putL a (-1 - n)) (rise_putL _ _ ha)
      simp only [if_pos hn]
      refine ⟨h1, fun x => ?_⟩
      rw [h2, mem_putL, List.flatMap_cons, List.mem_append, varN, if_pos hn, List.mem_singleton]
      constructor
      · rintro ((h | h) | h)
        · exact .inr (.inl h)
        · exact .inl h
        · exact .inr (.inr h)
      · rintro (h | h | h)
        · exact .inl (.inr h)
        · exact .inl (.inl h)
        · exact .inr h
    · obtain ⟨h1, h2⟩ := ih a ha
      simp only [if_neg hn]
      refine ⟨h1, fun x => ?_⟩
      rw [h2, List.flatMap_cons, List.mem_append, varN, if_neg hn]
      simp
theorem varsL_rise (t : List Int) : (varsL t).Pairwise (· < ·) := (foldl_put t [] List.Pairwise.nil).1
theorem mem_varsL (t : List Int) (x : Int) : x ∈ varsL t ↔ x ∈ t.flatMap varN := by
  have := (foldl_put t [] List.Pairwise.nil).2 x
  unfold varsL
  rw [this]
  simp
theorem mem_varN (t : List Int) (x : Int) : x ∈ t.flatMap varN ↔ ∃ n ∈ t, n < 0 ∧ x = -1 - n := by
  rw [List.mem_flatMap]
  constructor
  · rintro ⟨n, hn, hx⟩
    unfold varN at hx
    by_cases h : n < 0
    · rw [if_pos h, List.mem_singleton] at hx; exact ⟨n, hn, h, hx⟩
    · rw [if_neg h] at hx; simp at hx
  · rintro ⟨n, hn, h, hx⟩
    refine ⟨n, hn, ?_⟩
    unfold varN
    rw [if_pos h, List.mem_singleton]; exact hx
theorem varsL_sorted (t : List Int) : Lib.compact ((t.flatMap varN).mergeSort fun x y => decide (x ≤ y)) = varsL t :=
  sorted_eq _ _ (varsL_rise t) (mem_varsL t)
theorem flatVar_length (t : List Int) : (t.flatMap varN).length ≤ t.length := by
  induction t with
  | nil => simp
  | cons n t ih =>
    rw [List.flatMap_cons, List.length_append, List.length_cons]
    unfold varN
    split
    · simp only [List.length_singleton]; unfold varN at ih; omega
    · simp only [List.length_nil]; unfold varN at ih; omega
theorem varsL_length (t : List Int) : (varsL t).length ≤ t.length := by
  have h : ∀ (t a : List Int), (t.foldl (fun a n => if n < 0 then putL a (-1 - n) else a) a).length ≤ a.length + t.length := by
    intro t
    induction t with
    | nil => intro a; simp
    | cons n t ih =>
      intro a
      rw [List.foldl_cons]
      refine Nat.le_trans (ih _) ?_
      by_cases hn : n < 0
      · have := putL_length (-1 - n) a
        simp only [if_pos hn, List.length_cons]; omega
      · simp only [if_neg hn, List.length_cons]; omega
  have := h t []
  unfold varsL
  simpa using this
end Go.Proofs.YtnlpbmakdiaaoaaGreatDoor.Pure
set_option linter.unusedVariables false
namespace Go.Proofs.YtnlpbmakdiaaoaaGreatDoor.Pure
open Go.RowKit Go.Proofs.YtnlpbmakdiaaoaaGreatDoor.P Go.Proofs.YtnlpbmakdiaaoaaGreatDoorW.PrintWords Go.Proofs.YtnlpbmakdiaaoaaGreatDoorW.PrintLast Go.Proofs.YtnlpbmakdiaaoaaGreatDoor.Base
theorem rdV_get (xs : List (List Int)) (i : Nat) (h : i < xs.length) : rd_L6 xs (i : Int) = xs[i] := by
  unfold rd_L6; exact getD_get xs i _ h
theorem varsOf_l1 (ts : List (List Int)) (n : Nat) (i : Nat) (hn : ts.length ≤ 2) (t : List Int) (hs : SmallT t) (r : List Int) : ∀ (d j : Nat) (a : List Int), j + d = t.length → a.length ≤ 24 * i + j →  i < 2 →
    Ev (fun k => impl_varsOf.l0 k (a ++ (t.drop j).flatMap varN) ts (n : Int) ((i + 1 : Nat) : Int)) r → Ev (fun k => impl_varsOf.l1 k a ts (n : Int) (i : Int) t (t.length : Int) (j : Int)) r := by
  have hl := hs.1
  intro d
  induction d with
  | zero =>
    intro j a hj ha hi hr
    refine ev_succ ?_
    simp only [impl_varsOf.l1]
    rw [wrap_up (i := i) (by omega)]
    rw [List.drop_eq_nil_of_le (by omega), List.flatMap_nil, List.append_nil] at hr
    exact ev_neg (by omega) hr
  | succ d ih =>
    intro j a hj ha hi hr
    have hjl : j < t.length := by omega
    have hv := hs.2 j hjl
    refine ev_succ ?_
    simp only [impl_varsOf.l1]
    rw [rd_get t j hjl] at *
    rw [List.drop_eq_getElem_cons hjl, List.flatMap_cons] at hr
    refine ev_pos (by omega) (ev_pos (by omega) (ev_pos (by omega) ?_))
    rw [wrap_up (i := j) (by omega)]
    by_cases hneg : t[j] < 0
    · rw [wrap_id (by omega) (by omega)]
      unfold varN at hr
      rw [if_pos hneg, ← List.append_assoc] at hr
      exact ev_pos hneg (ev_pos (by omega) (ih (j + 1) _ (by omega) (by rw [List.length_append, List.length_singleton]; omega) hi hr))
    · unfold varN at hr
      rw [if_neg hneg, List.nil_append] at hr
      exact ev_neg hneg (ih (j + 1) _ (by omega) (by omega) hi hr)
theorem varsOf_l0 (ts : List (List Int)) (hn : ts.length ≤ 2) (hs : ∀ t ∈ ts, SmallT t) : ∀ (d i : Nat) (a : List Int), i + d = ts.length → a.length ≤ 24 * i →
    Ev (fun k => impl_varsOf.l0 k a ts (ts.length : Int) (i : Int)) (Lib.compact ((a ++ (ts.drop i).flatMap (fun t => t.flatMap varN)).mergeSort fun x y => decide (x ≤ y))) := by
  intro d
  induction d with
  | zero =>
    intro i a hi ha
    refine ev_succ ?_
    simp only [impl_varsOf.l0]
    rw [List.drop_eq_nil_of_le (by omega), List.flatMap_nil, List.append_nil]
    have hsl : (a.mergeSort fun x y => decide (x ≤ y)).length = a.length := List.length_mergeSort a
    refine ev_neg (by omega) (ev_bindq (a := a.mergeSort fun x y => decide (x ≤ y)) ?_ (ev_bindq (a := Lib.compact (a.mergeSort fun x y => decide (x ≤ y))) ?_ (ev_some _)))
    · unfold slices_Sort_int64_int64.f
      exact if_pos (by omega)
    · unfold slices_Compact_int64_int64.f
      exact if_pos ⟨by omega, Lib.compact_length_le _⟩
  | succ d ih =>
    intro i a hi ha
    have hil : i < ts.length := by omega
    have hst := hs _ (List.getElem_mem hil)
    refine ev_succ ?_
    simp only [impl_varsOf.l0]
    rw [rdV_get ts i hil]
    refine ev_pos (by omega) (ev_pos (by omega) (ev_pos (by omega) ?_))
    refine varsOf_l1 ts ts.length i hn ts[i] hst _ ts[i].length 0 a (by omega) (by omega) (by omega) ?_
    rw [List.drop_zero]
    have hfl := flatVar_length ts[i]
    have hl := hst.1
    refine ev_to (ih (i + 1) _ (by omega) (by rw [List.length_append]; omega)) ?_
    rw [List.drop_eq_getElem_cons hil, List.flatMap_cons, List.append_assoc]
theorem varsOf_ev (ts : List (List Int)) (hn : ts.length ≤ 2) (hs : ∀ t ∈ ts, SmallT t) : Ev (fun k => impl_varsOf.f k ts) (Lib.compact ((ts.flatMap (fun t => t.flatMap varN)).mergeSort fun x y => decide (x ≤ y))) := by
  unfold impl_varsOf.f
  exact varsOf_l0 ts hn hs ts.length 0 [] (by omega) (by simp)
end Go.Proofs.YtnlpbmakdiaaoaaGreatDoor.Pure
set_option linter.unusedVariables false
namespace Go.Proofs.YtnlpbmakdiaaoaaGreatDoor.Pure
open Go.RowKit Go.Proofs.YtnlpbmakdiaaoaaGreatDoor.P Go.Proofs.YtnlpbmakdiaaoaaGreatDoorW.PrintWords Go.Proofs.YtnlpbmakdiaaoaaGreatDoorW.PrintLast Go.Proofs.YtnlpbmakdiaaoaaGreatDoor.Base
theorem first_ev2 (a b : Int) : Ev (fun k => impl_firstCode.f k [a, b]) (if a = 0 then b else a) := by
  unfold impl_firstCode.f cmp_Or_int64.f
  refine ev_bind (a := if a = 0 then b else a) ?_ (ev_some _)
  refine ev_succ ?_
  simp only [cmp_Or_int64.l0]
  refine ev_pos (by simp) (ev_pos (by omega) (ev_pos (by simp) ?_))
  have e0 : rd [a, b] 0 = a := rfl
  rw [e0]
  refine ev_ite (fun h => ?_) (fun h => ev_some _)
  refine ev_succ ?_
  have e1 : wrap64 (0 + 1) = 1 := by rw [wrap_id (by omega) (by omega)]; rfl
  have e2 : rd [a, b] 1 = b := rfl
  simp only [cmp_Or_int64.l0, e1, e2]
  refine ev_pos (by simp) (ev_pos (by omega) (ev_pos (by simp) ?_))
  by_cases hb : b = 0
  · refine ev_pos hb (ev_succ ?_)
    have e3 : wrap64 (1 + 1) = 2 := by rw [wrap_id (by omega) (by omega)]; rfl
    simp only [cmp_Or_int64.l0, e3]
    exact ev_neg (by simp) (ev_to (ev_some _) hb.symm)
  · exact ev_neg hb (ev_some _)
end Go.Proofs.YtnlpbmakdiaaoaaGreatDoor.Pure
set_option linter.unusedVariables false
namespace Go.Proofs.YtnlpbmakdiaaoaaGreatDoor.Pure
open Go.RowKit Go.Proofs.YtnlpbmakdiaaoaaGreatDoor.P Go.Proofs.YtnlpbmakdiaaoaaGreatDoorW.PrintWords Go.Proofs.YtnlpbmakdiaaoaaGreatDoorW.PrintLast Go.Proofs.YtnlpbmakdiaaoaaGreatDoor.Base
def highN (t : List Int) : Bool := (firstN (fun j => decide (rd t (j : Int) < -6)) t.length 0).isSome
theorem highN_iff (t : List Int) : highN t = true ↔ ∃ n ∈ t, n < -6 := by
  unfold highN
  constructor
  · intro h
    cases hf : firstN (fun j => decide (rd t (j : Int) < -6)) t.length 0 with
    | none => rw [hf] at h; cases h
    | some j =>
      obtain ⟨_, hj, hp, _⟩ := firstN_some _ _ _ hf
      have hj' : j < t.length := by omega
      have hp := of_decide_eq_true hp
      rw [rd_get t j hj'] at hp
      exact ⟨t[j], List.getElem_mem _, hp⟩
  · rintro ⟨n, hn, hlt⟩
    obtain ⟨j, hj, rfl⟩ := List.mem_iff_getElem.1 hn
    cases hf : firstN (fun j => decide (rd t (j : Int) < -6)) t.length 0 with
    | some j => rfl
    | none =>
      have := (firstN_none _ 0).1 hf j (by omega) (by omega)
      rw [rd_get t j hj] at this
      exact absurd hlt (of_decide_eq_false this)
theorem l4Low_ev (t : List Int) (ht : t.length ≤ 1048576) : Ev (fun k => spec_l4Low.f k t) (!highN t) := by
  unfold spec_l4Low.f
  have h := loop_scan t.length (fun j => if decide (rd t (j : Int) < -6) = true then some false else none) true (fun k i => spec_l4Low.l0 k t i)
    (by simp only [spec_l4Low.l0]; exact ev_neg (by omega) (ev_some _))
    (fun i hi r hr => by
      simp only [spec_l4Low.l0]
      refine ev_pos (by omega) (ev_pos (by omega) ?_)
      rw [wrap_up (by omega)]
      by_cases h : rd t (i : Int) < -6
      · exact ev_pos h (ev_to (ev_some _) (by simp [h]))
      · exact ev_neg h (ev_to hr (by simp [h])))
    t.length 0 (by omega)
  rw [scanN_first (fun j => decide (rd t (j : Int) < -6)) (fun _ => false) true] at h
  refine ev_to h ?_
  unfold highN
  cases firstN (fun j => decide (rd t (j : Int) < -6)) t.length 0 <;> rfl
def equG (l : List S128) (a b : List Int) : Int :=
  if termG l a = 0 then (if termG l b = 0 then (if highN a = true ∨ highN b = true then 3 else 0) else termG l b) else termG l a
def equF (l : List S128) (a b : List Int) : Int := if sigF l = 0 then equG l a b else sigF l
theorem l4Fault_ev (l : List S128) (hr : Right l) (a b : List Int) (ha : a.length ≤ 1048576) (hb : b.length ≤ 1048576) : Ev (fun k => spec_l4Fault.f k [(⟨l⟩ : S34)] [(⟨a, b⟩ : S28)]) (equG l a b) := by
  have e0 : (rd_T28 [(⟨a, b⟩ : S28)] 0).f0 = a := rfl
  have e1 : (rd_T28 [(⟨a, b⟩ : S28)] 0).f1 = b := rfl
  unfold spec_l4Fault.f equG
  simp only [e0, e1]
  refine ev_pos (by simp) (ev_bind (l3Fault_ev l hr a ha) (ev_ite (fun h1 => ev_bind (l3Fault_ev l hr b hb) (ev_ite (fun h2 => ev_bind (l4Low_ev a ha) ?_) (fun h2 => ev_some _))) (fun h1 => ev_some _)))
  have hb' := l4Low_ev b hb
  cases h3 : highN a with
  | true => exact ev_to (ev_neg (by simp) (ev_some 3)) (by simp)
  | false =>
    refine ev_pos rfl (ev_bind hb' ?_)
    cases h4 : highN b with
    | true => exact ev_to (ev_neg (by simp) (ev_some 3)) (by simp)
    | false => exact ev_to (ev_pos rfl (ev_some 0)) (by simp)
theorem EquationFault_spec (l : List S128) (a b : List Int) (ha : a.length ≤ 1048576) (hb : b.length ≤ 1048576) : Ev (fun k => spec_EquationFault.f k l a b) (equF l a b) := by
  unfold spec_EquationFault.f equF
  exact ev_bind (SignatureFault_spec l) (ev_ite (fun h => ev_bind (l4Fault_ev l (right_of l h) a b ha hb) (ev_some _)) (fun h => ev_some _))
theorem high_vars (zs : List Int) (hz : zs.length ≤ 1048576) : Ev (fun k => slices_ContainsFunc_int64_int64_impl_EquationFault_1.f k zs) (decide (∃ v ∈ zs, v ≥ 6)) := by
  unfold slices_ContainsFunc_int64_int64_impl_EquationFault_1.f slices_IndexFunc_int64_int64_impl_EquationFault_1.f
  have h := loop_scan zs.length (fun j => if decide (rd zs (j : Int) ≥ 6) = true then some (j : Int) else none) (-1) (fun k i => slices_IndexFunc_int64_int64_impl_EquationFault_1.l0 k zs (zs.length : Int) i)
    (by simp only [slices_IndexFunc_int64_int64_impl_EquationFault_1.l0]; exact ev_neg (by omega) (ev_some _))
    (fun i hi r hr => by
      simp only [slices_IndexFunc_int64_int64_impl_EquationFault_1.l0]
      refine ev_pos (by omega) (ev_pos (by omega) (ev_pos (by omega) (ev_bindq (a := decide (rd zs (i : Int) ≥ 6)) rfl ?_)))
      rw [wrap_up (by omega)]
      by_cases h : decide (rd zs (i : Int) ≥ 6) = true
      · rw [if_pos h]; exact ev_pos h (ev_some _)
      · rw [if_neg h]; exact ev_neg h hr)
    zs.length 0 (by omega)
  rw [scanN_first (fun j => decide (rd zs (j : Int) ≥ 6)) (fun j => (j : Int)) (-1)] at h
  refine ev_bind h (ev_to (ev_some _) ?_)
  cases hf : firstN (fun j => decide (rd zs (j : Int) ≥ 6)) zs.length 0 with
  | none =>
    have hn := (firstN_none _ 0).1 hf
    have : ¬ ∃ v ∈ zs, v ≥ 6 := by
      rintro ⟨v, hv, h6⟩
      obtain ⟨j, hj, rfl⟩ := List.mem_iff_getElem.1 hv
      have := hn j (by omega) (by omega)
      rw [rd_get zs j hj] at this
      exact absurd h6 (of_decide_eq_false this)
    simp [this]
  | some j =>
    obtain ⟨_, hj, hp, _⟩ := firstN_some _ _ _ hf
    have hj' : j < zs.length := by omega
    have hp := of_decide_eq_true hp
    rw [rd_get zs j hj'] at hp
    have : ∃ v ∈ zs, v ≥ 6 := ⟨zs[j], List.getElem_mem _, hp⟩
    simp [this]
theorem EquationFault_impl (l : List S128) (a b : List Int) (ha : a.length ≤ 1048576) (hb : b.length ≤ 1048576) : Ev (fun k => impl_EquationFault.f k l a b) (equF l a b) := by
  unfold impl_EquationFault.f equF equG
  refine ev_bind (TermFault_impl l a ha) (ev_bind (TermFault_impl l b hb) (ev_bind (first_ev2 _ _) ?_))
  unfold termF
  by_cases hs : sigF l = 0
  · rw [if_pos hs, if_pos hs, if_pos hs]
    have hr := right_of l hs
    by_cases h1 : termG l a = 0
    · rw [if_pos h1, if_pos h1]
      by_cases h2 : termG l b = 0
      · rw [if_pos h2]
        have sa := smallT_of (termG_right hr h1)
        have sb := smallT_of (termG_right hr h2)
        have hv := varsOf_ev [a, b] (by simp) (fun x hx => by
          rcases List.mem_cons.1 hx with rfl | hx
          · exact sa
          · rw [List.mem_singleton] at hx; subst hx; exact sb)
        rw [List.flatMap_cons, List.flatMap_cons, List.flatMap_nil, List.append_nil, ← List.flatMap_append, varsL_sorted] at hv
        have hvl := varsL_length (a ++ b)
        rw [List.length_append] at hvl
        refine ev_pos h2 (ev_bind hv (ev_bind (high_vars _ (by have := sa.1; have := sb.1; omega)) ?_))
        have e : (∃ v ∈ varsL (a ++ b), v ≥ 6) ↔ (highN a = true ∨ highN b = true) := by
          rw [highN_iff, highN_iff]
          constructor
          · rintro ⟨v, hv, h6⟩
            rw [mem_varsL, mem_varN] at hv
            obtain ⟨n, hn, _, rfl⟩ := hv
            rcases List.mem_append.1 hn with hn | hn
            · exact .inl ⟨n, hn, by omega⟩
            · exact .inr ⟨n, hn, by omega⟩
          · rintro (⟨n, hn, hlt⟩ | ⟨n, hn, hlt⟩)
            · exact ⟨-1 - n, by rw [mem_varsL, mem_varN]; exact ⟨n, List.mem_append_left _ hn, by omega, rfl⟩, by omega⟩
            · exact ⟨-1 - n, by rw [mem_varsL, mem_varN]; exact ⟨n, List.mem_append_right _ hn, by omega, rfl⟩, by omega⟩
        by_cases h3 : ∃ v ∈ varsL (a ++ b), v ≥ 6
        · rw [if_pos (e.1 h3)]; exact ev_pos (decide_eq_true h3) (ev_some _)
        · rw [if_neg (fun k => h3 (e.2 k))]; exact ev_neg (by simpa using h3) (ev_some _)
      · rw [if_neg h2]; exact ev_neg h2 (ev_some _)
    · rw [if_neg h1, if_neg h1]; exact ev_neg h1 (ev_some _)
  · rw [if_neg hs, if_neg hs, if_neg hs]
    exact ev_neg hs (ev_some _)
end Go.Proofs.YtnlpbmakdiaaoaaGreatDoor.Pure
set_option linter.unusedVariables false
namespace Go.Proofs.YtnlpbmakdiaaoaaGreatDoor.Pure
open Go.RowKit Go.Proofs.YtnlpbmakdiaaoaaGreatDoorW.PrintWords Go.Proofs.YtnlpbmakdiaaoaaGreatDoor.Base
def argsN (ar : Int → Nat) (t : List Int) : Nat → Nat → List Nat
  | 0, _ => []
  | m + 1, e => e :: (match endN ar t 1 e with
    | some e' => argsN ar t m e'
    | none => [])
theorem argsN_succ {ar : Int → Nat} {t : List Int} {m e e' : Nat} (h : endN ar t 1 e = some e') : argsN ar t (m + 1) e = e :: argsN ar t m e' := by
  rw [argsN, h]
def argsAt (ar : Int → Nat) (t : List Int) (a : Nat) : List Nat := argsN ar t (ar (rd t (a : Int))) (a + 1)
theorem argsN_bound {ar : Int → Nat} {t : List Int} : ∀ (m e e' : Nat), e ≤ t.length → endN ar t m e = some e' → (argsN ar t m e).length = m ∧ ∀ p ∈ argsN ar t m e, e ≤ p ∧ p < t.length ∧ ∃ q, endN ar t 1 p = some q
  | 0, e, e', he, h => ⟨rfl, fun p hp => by cases hp⟩
  | m + 1, e, e', he, h => by
    rw [show m + 1 = 1 + m by omega, endN_add ar t 1 m e he] at h
    cases h1 : endN ar t 1 e with
    | none => rw [h1] at h; cases h
    | some q =>
      rw [h1] at h
      simp only [Option.bind_some] at h
      obtain ⟨_, b1, b2⟩ := endN_some he h1
      obtain ⟨i1, i2⟩ := argsN_bound m q e' b2 h
      rw [argsN_succ h1]
      refine ⟨by rw [List.length_cons, i1], fun p hp => ?_⟩
      rcases List.mem_cons.1 hp with rfl | hp
      · exact ⟨Nat.le_refl _, by omega, q, h1⟩
      · obtain ⟨c1, c2, c3⟩ := i2 p hp
        exact ⟨by omega, c2, c3⟩
theorem endN_args {ar : Int → Nat} {t : List Int} {a e : Nat} (ha : a < t.length) (h : endN ar t 1 a = some e) : endN ar t (ar (rd t (a : Int))) (a + 1) = some e := by
  rw [endN_step ar t 0 a ha, ← rd_get t a ha, Nat.zero_add] at h
  exact h
theorem argsAt_bound {ar : Int → Nat} {t : List Int} {a e : Nat} (ha : a < t.length) (h : endN ar t 1 a = some e) :
    (argsAt ar t a).length = ar (rd t (a : Int)) ∧ ∀ p ∈ argsAt ar t a, a < p ∧ p < t.length ∧ ∃ q, endN ar t 1 p = some q := by
  obtain ⟨h1, h2⟩ := argsN_bound (ar (rd t (a : Int))) (a + 1) e (by omega) (endN_args ha h)
  exact ⟨h1, fun p hp => by obtain ⟨x, y, z⟩ := h2 p hp; exact ⟨by omega, y, z⟩⟩
end Go.Proofs.YtnlpbmakdiaaoaaGreatDoor.Pure
set_option linter.unusedVariables false
namespace Go.Proofs.YtnlpbmakdiaaoaaGreatDoor.Pure
open Go.RowKit Go.Proofs.YtnlpbmakdiaaoaaGreatDoor.P Go.Proofs.YtnlpbmakdiaaoaaGreatDoorW.PrintWords Go.Proofs.YtnlpbmakdiaaoaaGreatDoorW.PrintLast Go.Proofs.YtnlpbmakdiaaoaaGreatDoorW.PrintMore Go.Proofs.YtnlpbmakdiaaoaaGreatDoor.Base
theorem argumentsOf_l0 (l : List S128) (hr : Right l) (t : List Int) (ht : t.length ≤ 1048576) (hn : Nodes l t) (n : Nat) : ∀ (m i e e' : Nat) (acc : List Int), i + m = n → n ≤ 2 → e ≤ t.length → endN (arL l) t m e = some e' → acc.length ≤ 1000 + i →
    Ev (fun k => impl_argumentsOf.l0 k t acc (e : Int) (n : Int) (i : Int) l) (acc ++ (argsN (arL l) t m e).map fun p : Nat => (p : Int)) := by
  intro m
  induction m with
  | zero =>
    intro i e e' acc hi hn2 he hE hacc
    refine ev_succ ?_
    simp only [impl_argumentsOf.l0]
    refine ev_neg (by omega) (ev_to (ev_some _) ?_)
    simp [argsN]
  | succ m ihm =>
    intro i e e' acc hi hn2 he hE hacc
    refine ev_succ ?_
    simp only [impl_argumentsOf.l0]
    rw [show m + 1 = 1 + m by omega, endN_add _ _ 1 m e he] at hE
    cases h1 : endN (arL l) t 1 e with
    | none => rw [h1] at hE; cases hE
    | some q =>
      rw [h1] at hE
      simp only [Option.bind_some] at hE
      obtain ⟨_, b1, b2⟩ := endN_some he h1
      have hend := endOf_ev l hr t ht hn e he
      rw [h1] at hend
      refine ev_pos (by omega) (ev_pos (by omega) (ev_bind hend ?_))
      rw [wrap_up (by omega), argsN_succ h1]
      refine ev_to (ihm (i + 1) q e' (acc ++ [(e : Int)]) (by omega) hn2 b2 hE (by simp; omega)) ?_
      simp
theorem argumentsOf_ev (l : List S128) (hr : Right l) (t : List Int) (ht : t.length ≤ 1048576) (hn : Nodes l t) (a e : Nat) (ha : a < t.length) (he : endN (arL l) t 1 a = some e) :
    Ev (fun k => impl_argumentsOf.f k l t (a : Int)) ((argsAt (arL l) t a).map fun p : Nat => (p : Int)) := by
  unfold impl_argumentsOf.f
  refine ev_pos (by omega) (ev_pos (by omega) (ev_bindq (arityOf_eq l hr _ (hn a ha)) ?_))
  rw [wrap_up (by omega)]
  have := argumentsOf_l0 l hr t ht hn (arL l (rd t (a : Int))) (arL l (rd t (a : Int))) 0 (a + 1) e [] (by omega) (arL_le hr (hn a ha)) (by omega) (endN_args ha he) (by simp)
  exact ev_to this (by simp [argsAt])
end Go.Proofs.YtnlpbmakdiaaoaaGreatDoor.Pure
set_option linter.unusedVariables false
namespace Go.Proofs.YtnlpbmakdiaaoaaGreatDoor.Pure
open Go.RowKit Go.Proofs.YtnlpbmakdiaaoaaGreatDoorW.PrintWords Go.Proofs.YtnlpbmakdiaaoaaGreatDoor.Base
def joinB (ps : List ByteArray) : ByteArray := ⟨(Lib.join (ps.map (·.data.toList)) [44]).toArray⟩
def txtN (ar : Int → Nat) (nm : Int → ByteArray) (t : List Int) : Nat → Nat → ByteArray
  | 0, _ => ⟨#[]⟩
  | f + 1, a =>
    if rd t (a : Int) < 0 then strOfNums [(wrap64 (64 - (rd t (a : Int)))) % 256]
    else if (argsAt ar t a) = [] then nm (rd t (a : Int))
    else nm (rd t (a : Int)) ++ (⟨#[40]⟩ : ByteArray) ++ joinB ((argsAt ar t a).map (txtN ar nm t f)) ++ (⟨#[41]⟩ : ByteArray)
theorem txtN_more {ar : Int → Nat} {nm : Int → ByteArray} {t : List Int} : ∀ (f g a e : Nat), a < t.length → endN ar t 1 a = some e → t.length - a ≤ f → t.length - a ≤ g → txtN ar nm t f a = txtN ar nm t g a
  | 0, g, a, e, ha, h, hf, hg => by omega
  | f + 1, 0, a, e, ha, h, hf, hg => by omega
  | f + 1, g + 1, a, e, ha, h, hf, hg => by
    obtain ⟨_, hb⟩ := argsAt_bound ha h
    rw [txtN, txtN]
    have hm : (argsAt ar t a).map (txtN ar nm t f) = (argsAt ar t a).map (txtN ar nm t g) := List.map_congr_left fun p hp => by
      obtain ⟨b1, b2, q, hq⟩ := hb p hp
      exact txtN_more f g p q b2 hq (by omega) (by omega)
    rw [hm]
def lens : List ByteArray → Nat
  | [] => 0
  | x :: xs => x.size + 1 + lens xs
theorem join_len (x : ByteArray) : ∀ ps : List ByteArray, (Lib.join ((x :: ps).map (·.data.toList)) [44]).length = x.size + lens ps := by
  intro ps
  rw [List.map_cons, Lib.join_cons, List.length_append, ← Lib.size_eq]
  congr 1
  induction ps with
  | nil => rfl
  | cons y ys ih =>
    simp only [Lib.joinTail, List.map_cons, List.flatten_cons, List.length_append, List.length_singleton, lens] at ih ⊢
    rw [← Lib.size_eq, ih]; omega
theorem joinB_size (x : ByteArray) (ps : List ByteArray) : (joinB (x :: ps)).size = x.size + lens ps := by
  rw [Lib.size_eq, joinB]
  simp only
  exact join_len x ps
theorem txtN_size {ar : Int → Nat} {nm : Int → ByteArray} {t : List Int} (hn : ∀ i, i < t.length → (nm (rd t (i : Int))).size ≤ 3) : ∀ (f a e : Nat), a < t.length → endN ar t 1 a = some e → (txtN ar nm t f a).size + 1 ≤ 6 * (e - a)
  | 0, a, e, ha, h => by
    obtain ⟨_, h1, h2⟩ := endN_some (by omega) h
    show 0 + 1 ≤ _
    omega
  | f + 1, a, e, ha, h => by
    obtain ⟨_, h1, h2⟩ := endN_some (by omega) h
    rw [txtN]
    by_cases h0 : rd t (a : Int) < 0
    · rw [if_pos h0]
      have : (strOfNums [(wrap64 (64 - (rd t (a : Int)))) % 256]).size = 1 := rfl
      omega
    rw [if_neg h0]
    have hnm := hn a ha
    by_cases hA : argsAt ar t a = []
    · rw [if_pos hA]; omega
    rw [if_neg hA]
    have hE := endN_args ha h
    have key : ∀ (m p q : Nat), p ≤ t.length → endN ar t m p = some q → lens ((argsN ar t m p).map (txtN ar nm t f)) ≤ 6 * (q - p) ∧ p ≤ q := by
      intro m
      induction m with
      | zero =>
        intro p q hp hq
        rw [endN_zero _ _ _ hp] at hq
        obtain rfl := Option.some.inj hq
        exact ⟨by simp [argsN, lens], Nat.le_refl _⟩
      | succ m ih =>
        intro p q hp hq
        rw [show m + 1 = 1 + m by omega, endN_add ar t 1 m p hp] at hq
        cases h1 : endN ar t 1 p with
        | none => rw [h1] at hq; cases hq
        | some p' =>
          rw [h1] at hq
          simp only [Option.bind_some] at hq
          obtain ⟨_, b1, b2⟩ := endN_some hp h1
          obtain ⟨i1, i2⟩ := ih p' q b2 hq
          have hs := txtN_size hn f p p' (by omega) h1
          rw [argsN_succ h1]
          simp only [List.map_cons, lens]
          omega
    obtain ⟨k1, k2⟩ := key _ _ _ (by omega) hE
    unfold argsAt at hA ⊢
    cases hc : argsN ar t (ar (rd t (a : Int))) (a + 1) with
    | nil => exact absurd hc hA
    | cons p ps =>
      rw [hc] at k1
      simp only [List.map_cons, lens] at k1
      rw [List.map_cons]
      rw [ByteArray.size_append, ByteArray.size_append, ByteArray.size_append, joinB_size]
      have s1 : (⟨#[40]⟩ : ByteArray).size = 1 := rfl
      have s2 : (⟨#[41]⟩ : ByteArray).size = 1 := rfl
      rw [s1, s2]
      omega
end Go.Proofs.YtnlpbmakdiaaoaaGreatDoor.Pure
set_option linter.unusedVariables false
namespace Go.Proofs.YtnlpbmakdiaaoaaGreatDoor.Pure
open Go.RowKit Go.Proofs.YtnlpbmakdiaaoaaGreatDoor.P Go.Proofs.YtnlpbmakdiaaoaaGreatDoorW.PrintWords Go.Proofs.YtnlpbmakdiaaoaaGreatDoorW.PrintLast Go.Proofs.YtnlpbmakdiaaoaaGreatDoorW.PrintMore Go.Proofs.YtnlpbmakdiaaoaaGreatDoor.Base
def nameL (l : List S128) (n : Int) : ByteArray := (rd_T128 l n).f0
def txtA (l : List S128) (t : List Int) (a : Nat) : ByteArray := txtN (arL l) (nameL l) t t.length a
theorem txtA_eq (l : List S128) (t : List Int) {a e : Nat} (ha : a < t.length) (h : endN (arL l) t 1 a = some e) :
    txtA l t a = if rd t (a : Int) < 0 then strOfNums [(wrap64 (64 - (rd t (a : Int)))) % 256]
      else if (argsAt (arL l) t a) = [] then nameL l (rd t (a : Int))
      else nameL l (rd t (a : Int)) ++ (⟨#[40]⟩ : ByteArray) ++ joinB ((argsAt (arL l) t a).map (txtA l t)) ++ (⟨#[41]⟩ : ByteArray) := by
  obtain ⟨L, hL⟩ : ∃ L, t.length = L + 1 := ⟨t.length - 1, by omega⟩
  obtain ⟨_, hb⟩ := argsAt_bound ha h
  have hm : (argsAt (arL l) t a).map (txtN (arL l) (nameL l) t L) = (argsAt (arL l) t a).map (txtA l t) := List.map_congr_left fun p hp => by
    obtain ⟨b1, b2, q, hq⟩ := hb p hp
    exact txtN_more L t.length p q b2 hq (by omega) (by omega)
  rw [← hm]
  unfold txtA
  rw [hL, txtN]
theorem nameL_size {l : List S128} (hr : Right l) {t : List Int} (hn : Nodes l t) : ∀ i, i < t.length → (nameL l (rd t (i : Int))).size ≤ 3 := by
  intro i hi
  by_cases h0 : rd t (i : Int) < 0
  · have e : rd_T128 l (rd t (i : Int)) = rd_T128 l ((0 : Nat) : Int) := by
      unfold rd_T128
      rw [Int.toNat_of_nonpos (by omega)]; rfl
    have hl := hr.len
    have := hr.names 0 (by omega)
    unfold nameL
    rw [e]
    unfold nameB at this
    rw [Bool.and_eq_true] at this
    have := of_decide_eq_true this.1
    exact this.2
  · obtain ⟨s0, s1⟩ := node_sym (hn i hi) h0
    have := hr.names (rd t (i : Int)).toNat (by omega)
    rw [Int.toNat_of_nonneg s0] at this
    unfold nameB at this
    rw [Bool.and_eq_true] at this
    have := of_decide_eq_true this.1
    exact this.2
theorem txtA_size {l : List S128} (hr : Right l) {t : List Int} (hn : Nodes l t) (ht : t.length ≤ 24) {a e : Nat} (ha : a < t.length) (h : endN (arL l) t 1 a = some e) : (txtA l t a).size ≤ 144 := by
  have := txtN_size (nm := nameL l) (nameL_size hr hn) t.length a e ha h
  obtain ⟨_, h1, h2⟩ := endN_some (by omega) h
  unfold txtA
  omega
theorem bext {x y : ByteArray} (h : x.data.toList = y.data.toList) : x = y := by
  cases x; cases y; congr 1; exact Array.toList_inj.1 h
theorem app_list (x y : ByteArray) : (x ++ y).data.toList = x.data.toList ++ y.data.toList := by
  rw [ByteArray.data_append, Array.toList_append]
theorem app_assoc (x y z : ByteArray) : (x ++ y) ++ z = x ++ (y ++ z) := bext (by simp only [app_list, List.append_assoc])
def comB : List ByteArray → ByteArray
  | [] => ⟨#[]⟩
  | x :: xs => (⟨#[44]⟩ : ByteArray) ++ x ++ comB xs
theorem comB_list : ∀ ps : List ByteArray, (comB ps).data.toList = Lib.joinTail [44] (ps.map (·.data.toList))
  | [] => rfl
  | x :: xs => by
    rw [comB, app_list, app_list, comB_list xs]
    rfl
theorem joinB_cons (x : ByteArray) (ps : List ByteArray) : joinB (x :: ps) = x ++ comB ps := bext (by
  rw [app_list, comB_list]
  show (Lib.join ((x :: ps).map (·.data.toList)) [44]) = _
  rw [List.map_cons, Lib.join_cons])
theorem app_nil (x : ByteArray) : x ++ (⟨#[]⟩ : ByteArray) = x := bext (by rw [app_list]; exact List.append_nil _)
theorem l4Text_loop (l : List S128) (hr : Right l) (t : List Int) (ht : t.length ≤ 24) (hn : Nodes l t) (nm : ByteArray) (A : Nat) (hA : A ≤ 2) (B : Nat)
    (ih : ∀ p, B < p → p < t.length → (∃ q, endN (arL l) t 1 p = some q) → Ev (fun k => spec_l4Text.f k [(⟨l⟩ : S34)] t (p : Int)) (txtA l t p)) :
    ∀ (m i e e' : Nat) (o : ByteArray), i + m = A → 0 < i → B < e → e ≤ t.length → endN (arL l) t m e = some e' → o.size ≤ 1000 * (i + 1) →
      Ev (fun k => spec_l4Text.l0 k [(⟨l⟩ : S34)] t o (e : Int) (i : Int) nm (A : Int)) (o ++ comB ((argsN (arL l) t m e).map (txtA l t)) ++ (⟨#[41]⟩ : ByteArray)) := by
  intro m
  induction m with
  | zero =>
    intro i e e' o hi hi0 hB he hE ho
    refine ev_succ ?_
    simp only [spec_l4Text.l0]
    refine ev_neg (by omega) (ev_pos (by omega) (ev_to (ev_some _) ?_))
    simp only [argsN, List.map_nil, comB, app_nil]
  | succ m ihm =>
    intro i e e' o hi hi0 hB he hE ho
    rw [show m + 1 = 1 + m by omega, endN_add _ _ 1 m e he] at hE
    cases h1 : endN (arL l) t 1 e with
    | none => rw [h1] at hE; cases hE
    | some q =>
      rw [h1] at hE
      simp only [Option.bind_some] at hE
      obtain ⟨_, b1, b2⟩ := endN_some he h1
      have hd := ih e hB (by omega) ⟨q, h1⟩
      have hend := l3End_ev l hr t (by omega) hn (t.length - e) e (by omega)
      rw [h1] at hend
      have hsz := txtA_size hr hn ht (by omega) h1
      have s1 : (⟨#[44]⟩ : ByteArray).size = 1 := rfl
      refine ev_succ ?_
      simp only [spec_l4Text.l0]
      refine ev_pos (by omega) (ev_pos (by omega) (ev_pos (by omega) (ev_bind hd (ev_pos (by rw [ByteArray.size_append, s1]; omega) (ev_bind hend ?_)))))
      rw [wrap_up (by omega)]
      refine ev_to (ihm (i + 1) q e' (o ++ (⟨#[44]⟩ : ByteArray) ++ txtA l t e) (by omega) (by omega) (by omega) b2 hE (by rw [ByteArray.size_append, ByteArray.size_append, s1]; omega)) ?_
      rw [argsN_succ h1]
      simp only [List.map_cons, comB, app_assoc]
theorem l4Text_ev (l : List S128) (hr : Right l) (t : List Int) (ht : t.length ≤ 24) (hn : Nodes l t) : ∀ (d a : Nat), a + d = t.length → a < t.length → (∃ e, endN (arL l) t 1 a = some e) →
    Ev (fun k => spec_l4Text.f k [(⟨l⟩ : S34)] t (a : Int)) (txtA l t a) := by
  intro d
  induction d using Nat.strongRecOn with
  | _ d ih =>
    intro a hd ha ⟨e, he⟩
    have e0 : (rd_T34 [(⟨l⟩ : S34)] 0).f0 = l := rfl
    refine ev_succ ?_
    simp only [spec_l4Text.f, e0]
    refine ev_pos (by omega) (ev_pos (by omega) ?_)
    rw [txtA_eq l t ha he]
    by_cases h0 : rd t (a : Int) < 0
    · rw [if_pos h0]; exact ev_pos h0 (ev_some _)
    rw [if_neg h0]
    refine ev_neg h0 ?_
    obtain ⟨s0, s1⟩ := node_sym (hn a ha) h0
    obtain ⟨hA, hA2⟩ := arL_cast hr (hn a ha) h0
    obtain ⟨hlen, hb⟩ := argsAt_bound ha he
    have hE := endN_args ha he
    have hnm := nameL_size hr hn a ha
    refine ev_pos (by simp) (ev_pos s0 (ev_pos s1 ?_))
    rw [hA]
    cases hm : arL l (rd t (a : Int)) with
    | zero =>
      rw [hm] at hlen
      rw [if_pos (List.eq_nil_of_length_eq_zero hlen)]
      exact ev_pos rfl (ev_some _)
    | succ m =>
      have hne : ¬ argsAt (arL l) t a = [] := fun k => by rw [k, hm] at hlen; cases hlen
      rw [if_neg hne]
      refine ev_neg (by omega) (ev_pos (by show (nameL l (rd t (a : Int))).size + 1 ≤ _; omega) ?_)
      rw [hm] at hE
      rw [show m + 1 = 1 + m by omega, endN_add _ _ 1 m (a + 1) (by omega)] at hE
      cases h1 : endN (arL l) t 1 (a + 1) with
      | none => rw [h1] at hE; cases hE
      | some q =>
        rw [h1] at hE
        simp only [Option.bind_some] at hE
        obtain ⟨_, b1, b2⟩ := endN_some (by omega) h1
        have ih' : ∀ p, a < p → p < t.length → (∃ q, endN (arL l) t 1 p = some q) → Ev (fun k => spec_l4Text.f k [(⟨l⟩ : S34)] t (p : Int)) (txtA l t p) := fun p h1 h2 h3 => ih (t.length - p) (by omega) p (by omega) h2 h3
        have hend := l3End_ev l hr t (by omega) hn (t.length - (a + 1)) (a + 1) (by omega)
        rw [h1] at hend
        have hsz := txtA_size hr hn ht (by omega) h1
        have s2 : (⟨#[40]⟩ : ByteArray).size = 1 := rfl
        refine ev_succ ?_
        simp only [spec_l4Text.l0]
        rw [wrap_up (by omega)]
        refine ev_pos (by omega) (ev_neg (by omega) (ev_bind (ih' (a + 1) (by omega) (by omega) ⟨q, h1⟩) (ev_pos (by rw [ByteArray.size_append, s2]; show (nameL l (rd t (a : Int))).size + 1 + _ ≤ _; omega) (ev_bind hend ?_))))
        have hloop := l4Text_loop l hr t ht hn (nameL l (rd t (a : Int))) (m + 1) (by omega) a ih' m 1 q e (nameL l (rd t (a : Int)) ++ (⟨#[40]⟩ : ByteArray) ++ txtA l t (a + 1)) (by omega) (by omega) (by omega) b2 hE (by rw [ByteArray.size_append, ByteArray.size_append, s2]; omega)
        have e1 : wrap64 (0 + 1) = ((1 : Nat) : Int) := by rw [wrap_id (by omega) (by omega)]; rfl
        rw [e1]
        refine ev_to hloop ?_
        unfold argsAt
        rw [hm, argsN_succ h1, List.map_cons, joinB_cons]
        simp only [app_assoc]
theorem join_eq (ps : List ByteArray) (h : (lens ps) ≤ 1000) (hp : ps.length ≤ 2) : strings_Join.f ps (⟨#[44]⟩ : ByteArray) = some (joinB ps) := by
  unfold strings_Join.f joinB
  refine if_pos ⟨by omega, ?_⟩
  cases ps with
  | nil => simp [Lib.join_nil]
  | cons x xs =>
    have := join_len x xs
    simp only [lens] at h
    show (Lib.join ((x :: xs).map (·.data.toList)) [44]).length ≤ _
    omega
theorem textAt_ev (l : List S128) (hr : Right l) (t : List Int) (ht : t.length ≤ 24) (hn : Nodes l t) : ∀ (d a : Nat), a + d = t.length → a < t.length → (∃ e, endN (arL l) t 1 a = some e) →
    Ev (fun k => impl_textAt.f k l t (a : Int)) (txtA l t a) := by
  intro d
  induction d using Nat.strongRecOn with
  | _ d ih =>
    intro a hd ha ⟨e, he⟩
    refine ev_succ ?_
    simp only [impl_textAt.f]
    refine ev_pos (by omega) (ev_pos (by omega) ?_)
    rw [txtA_eq l t ha he]
    by_cases h0 : rd t (a : Int) < 0
    · rw [if_pos h0]; exact ev_pos h0 (ev_some _)
    rw [if_neg h0]
    refine ev_neg h0 ?_
    obtain ⟨s0, s1⟩ := node_sym (hn a ha) h0
    obtain ⟨hlen, hb⟩ := argsAt_bound ha he
    have hps : (argsAt (arL l) t a).length ≤ 2 := by rw [hlen]; exact arL_le hr (hn a ha)
    have hnm := nameL_size hr hn a ha
    refine ev_pos s0 (ev_pos s1 (ev_bind (argumentsOf_ev l hr t (by omega) hn a e ha he) ?_))
    show Ev (fun k => impl_textAt.l0 k t (nameL l (rd t (a : Int))) [] ((argsAt (arL l) t a).map fun p : Nat => (p : Int)) (((argsAt (arL l) t a).map fun p : Nat => (p : Int)).length : Int) 0 l) _
    generalize nameL l (rd t (a : Int)) = nm at hnm
    generalize argsAt (arL l) t a = ps at hb hps
    have key : ∀ (r i : Nat) (acc : List ByteArray), i + r = ps.length → acc = (ps.take i).map (txtA l t) → Ev (fun k => impl_textAt.l0 k t nm acc (ps.map fun p : Nat => (p : Int)) ((ps.map fun p : Nat => (p : Int)).length : Int) (i : Int) l)
        (if ps = [] then nm else nm ++ (⟨#[40]⟩ : ByteArray) ++ joinB (ps.map (txtA l t)) ++ (⟨#[41]⟩ : ByteArray)) := by
      intro r
      induction r with
      | zero =>
        intro i acc hi hacc
        have hacc' : acc = ps.map (txtA l t) := by rw [hacc, List.take_of_length_le (by omega)]
        refine ev_succ ?_
        simp only [impl_textAt.l0, List.length_map]
        refine ev_neg (by omega) ?_
        rw [hacc']
        by_cases hp : ps = []
        · subst hp
          exact ev_pos (by simp) (ev_to (ev_some _) (if_pos rfl).symm)
        · have hp0 : ps.length ≠ 0 := fun k => hp (List.eq_nil_of_length_eq_zero k)
          rw [if_neg hp]
          have hl : ∀ qs : List Nat, (∀ p ∈ qs, p < t.length ∧ ∃ q, endN (arL l) t 1 p = some q) → lens (qs.map (txtA l t)) ≤ 145 * qs.length := by
            intro qs
            induction qs with
            | nil => intro _; simp [lens]
            | cons p qs ihq =>
              intro hq
              obtain ⟨c1, q, c2⟩ := hq p (by simp)
              have := txtA_size hr hn ht c1 c2
              have := ihq (fun z hz => hq z (by simp [hz]))
              simp only [List.map_cons, lens, List.length_cons]; omega
          have hl := hl ps (fun p hp => (hb p hp).2)
          have hjs : (joinB (ps.map (txtA l t))).size ≤ 1000 := by
            cases hc : ps with
            | nil => exact absurd hc hp
            | cons p qs =>
              rw [hc] at hl hps
              rw [List.map_cons, joinB_size]
              simp only [List.map_cons, lens, List.length_cons] at hl hps
              omega
          have s1 : (⟨#[40]⟩ : ByteArray).size = 1 := rfl
          refine ev_neg (by rw [List.length_map]; omega) (ev_pos (by omega) (ev_bindq (join_eq _ (by omega) (by rw [List.length_map]; exact hps)) (ev_pos (by rw [ByteArray.size_append, s1]; omega) (ev_pos (by rw [ByteArray.size_append, ByteArray.size_append, s1]; omega) (ev_some _)))))
      | succ r ihr =>
        intro i acc hi hacc
        have hi' : i < ps.length := by omega
        obtain ⟨b1, b2, b3⟩ := hb ps[i] (List.getElem_mem hi')
        refine ev_succ ?_
        simp only [impl_textAt.l0, List.length_map]
        refine ev_pos (by omega) (ev_pos (by omega) (ev_pos (by omega) ?_))
        rw [rd_get (ps.map fun p : Nat => (p : Int)) i (by rw [List.length_map]; exact hi'), List.getElem_map]
        refine ev_bind (ih (t.length - ps[i]) (by omega) ps[i] (by omega) b2 b3) (ev_pos (by rw [hacc, List.length_map, List.length_take]; omega) ?_)
        rw [wrap_up (by omega)]
        have := ihr (i + 1) (acc ++ [txtA l t ps[i]]) (by omega) (by rw [hacc, List.take_succ_eq_append_getElem hi', List.map_append]; rfl)
        simp only [List.length_map] at this
        exact this
    exact key ps.length 0 [] (by omega) (by simp)
end Go.Proofs.YtnlpbmakdiaaoaaGreatDoor.Pure
set_option linter.unusedVariables false
namespace Go.Proofs.YtnlpbmakdiaaoaaGreatDoor.Pure
open Go.RowKit Go.Proofs.YtnlpbmakdiaaoaaGreatDoor.P Go.Proofs.YtnlpbmakdiaaoaaGreatDoorW.PrintWords Go.Proofs.YtnlpbmakdiaaoaaGreatDoorW.PrintLast Go.Proofs.YtnlpbmakdiaaoaaGreatDoorW.PrintMore Go.Proofs.YtnlpbmakdiaaoaaGreatDoor.Base
def sayA (l : List S128) (a b : List Int) : ByteArray := (txtA l a 0 ++ (⟨#[61]⟩ : ByteArray)) ++ txtA l b 0
theorem equF_zero {l : List S128} {a b : List Int} (h : equF l a b = 0) : RightT l a ∧ RightT l b := by
  unfold equF at h
  by_cases hs : sigF l = 0
  · rw [if_pos hs] at h
    unfold equG at h
    by_cases h1 : termG l a = 0
    · rw [if_pos h1] at h
      by_cases h2 : termG l b = 0
      · exact ⟨rightT_of (by unfold termF; rw [if_pos hs]; exact h1), rightT_of (by unfold termF; rw [if_pos hs]; exact h2)⟩
      · rw [if_neg h2] at h; exact absurd h h2
    · rw [if_neg h1] at h; exact absurd h h1
  · rw [if_neg hs] at h; exact absurd h hs
theorem say_sizes {l : List S128} {a b : List Int} (ra : RightT l a) (rb : RightT l b) : (txtA l a 0).size ≤ 144 ∧ (txtA l b 0).size ≤ 144 ∧ (txtA l a 0 ++ (⟨#[61]⟩ : ByteArray)).size ≤ 145 := by
  have h1 := txtA_size ra.sig ra.nodes ra.len.2 (a := 0) (by have := ra.len; omega) ra.whole
  have h2 := txtA_size rb.sig rb.nodes rb.len.2 (a := 0) (by have := rb.len; omega) rb.whole
  refine ⟨h1, h2, ?_⟩
  rw [Lib.size_eq, app_list, List.length_append, ← Lib.size_eq]
  show (txtA l a 0).size + 1 ≤ 145
  omega
theorem l4Say_ev {l : List S128} {a b : List Int} (ra : RightT l a) (rb : RightT l b) : Ev (fun k => spec_l4Say.f k [(⟨l⟩ : S34)] [(⟨a, b⟩ : S28)]) (sayA l a b) := by
  have e0 : (rd_T28 [(⟨a, b⟩ : S28)] 0).f0 = a := rfl
  have e1 : (rd_T28 [(⟨a, b⟩ : S28)] 0).f1 = b := rfl
  have la := ra.len
  have lb := rb.len
  obtain ⟨s1, s2, s3⟩ := say_sizes ra rb
  unfold spec_l4Say.f sayA
  simp only [e0, e1]
  exact ev_pos (by simp) (ev_bind (l4Text_ev l ra.sig a (by omega) ra.nodes a.length 0 (by omega) (by omega) ⟨_, ra.whole⟩) (ev_pos (by omega)
    (ev_bind (l4Text_ev l rb.sig b (by omega) rb.nodes b.length 0 (by omega) (by omega) ⟨_, rb.whole⟩) (ev_pos (by omega) (ev_some _)))))
theorem equationText_ev {l : List S128} {a b : List Int} (ra : RightT l a) (rb : RightT l b) : Ev (fun k => impl_equationText.f k l a b) (sayA l a b) := by
  have la := ra.len
  have lb := rb.len
  obtain ⟨s1, s2, s3⟩ := say_sizes ra rb
  unfold impl_equationText.f sayA
  exact ev_bind (textAt_ev l ra.sig a (by omega) ra.nodes a.length 0 (by omega) (by omega) ⟨_, ra.whole⟩) (ev_pos (by omega)
    (ev_bind (textAt_ev l rb.sig b (by omega) rb.nodes b.length 0 (by omega) (by omega) ⟨_, rb.whole⟩) (ev_pos (by omega) (ev_some _))))
def sayR (l : List S128) (a b : List Int) : Int × ByteArray := if equF l a b = 0 then (0, sayA l a b) else (equF l a b, (⟨#[]⟩ : ByteArray))
theorem EquationText_spec (l : List S128) (a b : List Int) (ha : a.length ≤ 1048576) (hb : b.length ≤ 1048576) : Ev (fun k => spec_EquationText.f k l a b) (sayR l a b) := by
  unfold spec_EquationText.f sayR
  exact ev_bind (EquationFault_spec l a b ha hb) (ev_ite (fun h => ev_bind (l4Say_ev (equF_zero h).1 (equF_zero h).2) (ev_some _)) (fun h => ev_some _))
theorem EquationText_impl (l : List S128) (a b : List Int) (ha : a.length ≤ 1048576) (hb : b.length ≤ 1048576) : Ev (fun k => impl_EquationText.f k l a b) (sayR l a b) := by
  unfold impl_EquationText.f sayR
  exact ev_bind (EquationFault_impl l a b ha hb) (ev_ite (fun h => ev_bind (equationText_ev (equF_zero h).1 (equF_zero h).2) (ev_some _)) (fun h => ev_some _))
end Go.Proofs.YtnlpbmakdiaaoaaGreatDoor.Pure
set_option linter.unusedVariables false
namespace Go.Proofs.YtnlpbmakdiaaoaaGreatDoor.Pure
open Go.RowKit Go.Proofs.YtnlpbmakdiaaoaaGreatDoor.P Go.Proofs.YtnlpbmakdiaaoaaGreatDoorW.PrintWords Go.Proofs.YtnlpbmakdiaaoaaGreatDoorW.PrintLast Go.Proofs.YtnlpbmakdiaaoaaGreatDoor.Base
theorem toInt64S_l0 (l : List Int) (hl : l.length ≤ 35184372088832) : ∀ (d i : Nat), i + d = l.length → Ev (fun k => laws_toInt64S.l0 k l (cpart 0 l i) (i : Int)) l := by
  intro d
  induction d with
  | zero =>
    intro i hi
    refine ev_succ ?_
    simp only [laws_toInt64S.l0]
    refine ev_neg (by omega) ?_
    obtain rfl : i = l.length := by omega
    rw [cpart_end]
    exact ev_some _
  | succ d ih =>
    intro i hi
    refine ev_succ ?_
    simp only [laws_toInt64S.l0]
    refine ev_pos (by omega) (ev_pos (by omega) (ev_pos (by rw [cpart_length _ _ _ (by omega)]; omega) ?_))
    rw [wrap_up (by omega), Int.toNat_natCast, cpart_set 0 l i (by omega) _ (rd_some l i (by omega))]
    exact ih (i + 1) (by omega)
theorem toInt64S_ev (l : List Int) (hl : l.length ≤ 35184372088832) : Ev (fun k => laws_toInt64S.f k l) l := by
  unfold laws_toInt64S.f
  refine ev_pos (by omega) (ev_pos (by omega) ?_)
  rw [Int.toNat_natCast, ← cpart_zero]
  exact toInt64S_l0 l hl l.length 0 (by omega)
theorem eqInt64S_l0 (a b : List Int) (hab : a.length = b.length) (hl : a.length ≤ 9223372036854775807) : ∀ (d i : Nat), i + d = a.length → Ev (fun k => laws_eqInt64S.l0 k a b (i : Int)) (decide (a.drop i = b.drop i)) := by
  intro d
  induction d with
  | zero =>
    intro i hi
    refine ev_succ ?_
    simp only [laws_eqInt64S.l0]
    refine ev_neg (by omega) ?_
    rw [List.drop_eq_nil_of_le (by omega), List.drop_eq_nil_of_le (by omega)]
    exact ev_some _
  | succ d ih =>
    intro i hi
    refine ev_succ ?_
    simp only [laws_eqInt64S.l0]
    refine ev_pos (by omega) (ev_pos (by omega) (ev_pos (by omega) ?_))
    rw [rd_drop a i (by omega), rd_drop b i (by omega)]
    by_cases h : rd a (i : Int) = rd b (i : Int)
    · refine ev_pos h ?_
      rw [wrap_up (by omega)]
      refine ev_to (ih (i + 1) (by omega)) ?_
      simp [h]
    · refine ev_neg h ?_
      refine ev_to (ev_some _) ?_
      simp [h]
theorem eqInt64S_ev (a b : List Int) (hl : a.length ≤ 9223372036854775807) : Ev (fun k => laws_eqInt64S.f k a b) (decide (a = b)) := by
  unfold laws_eqInt64S.f
  by_cases h : a.length = b.length
  · refine ev_pos (by omega) ?_
    exact eqInt64S_l0 a b h hl a.length 0 (by omega)
  · refine ev_neg (by omega) ?_
    refine ev_to (ev_some _) ?_
    have : ¬ a = b := fun e => h (by rw [e])
    simp [this]
end Go.Proofs.YtnlpbmakdiaaoaaGreatDoor.Pure
set_option linter.unusedVariables false
namespace Go.Proofs.YtnlpbmakdiaaoaaGreatDoor.Pure
open Go.RowKit Go.Proofs.YtnlpbmakdiaaoaaGreatDoor.P Go.Proofs.YtnlpbmakdiaaoaaGreatDoorW.PrintWords Go.Proofs.YtnlpbmakdiaaoaaGreatDoorW.PrintLast Go.Proofs.YtnlpbmakdiaaoaaGreatDoor.Base
theorem szInts_cases (l : List Int) (hl : l.length ≤ maxLen) (v : Int) (h0 : 0 ≤ v) (h1 : v ≤ 1048576) :
    laws_szInt64S.f l v = some (-1) ∨ ∃ u, laws_szInt64S.f l v = some u ∧ 0 ≤ u ∧ u ≤ v ∧ (l.length : Int) ≤ v := by
  unfold maxLen at hl
  unfold laws_szInt64S.f
  rw [wrap_id (x := v - (l.length : Int)) (by omega) (by omega)]
  by_cases h : v - (l.length : Int) < 0
  · rw [if_pos h]; exact .inl rfl
  · rw [if_neg h]; exact .inr ⟨_, rfl, by omega, by omega, by omega⟩
theorem szOne_cases (a b : List Int) (ha : a.length ≤ maxLen) (hb : b.length ≤ maxLen) (v : Int) (h0 : 0 ≤ v) (h1 : v ≤ 1048576) :
    laws_szEquation.f a b v = some (-1) ∨ ∃ u, laws_szEquation.f a b v = some u ∧ 0 ≤ u ∧ u ≤ v ∧ a.length ≤ 1048576 ∧ b.length ≤ 1048576 := by
  unfold laws_szEquation.f
  rcases szInts_cases a ha v h0 h1 with e | ⟨u, e, u0, uv, hq⟩
  · rw [e]; exact .inl rfl
  · rw [e]
    simp only [Option.bind_some]
    rw [if_neg (by omega)]
    rcases szInts_cases b hb u u0 (by omega) with e | ⟨t, e, t0, tv, hq'⟩
    · rw [e]; exact .inl rfl
    · rw [e]
      simp only [Option.bind_some]
      rw [if_neg (by omega)]
      exact .inr ⟨t, rfl, t0, by omega, by omega, by omega⟩
theorem toOne_ev (a b : List Int) (ha : a.length ≤ 1048576) (hb : b.length ≤ 1048576) : Ev (fun k => laws_toEquation.f k a b) (a, b) := by
  unfold laws_toEquation.f
  exact ev_bind (toInt64S_ev a (by omega)) (ev_bind (toInt64S_ev b (by omega)) (ev_some _))
theorem eqOne_ev (a b : List Int) (ha : a.length ≤ 1048576) (hb : b.length ≤ 1048576) : Ev (fun k => laws_eqEquation.f k a b a b) true := by
  unfold laws_eqEquation.f
  exact ev_bind (eqInt64S_ev a a (by omega)) (ev_pos (by simp) (ev_bind (eqInt64S_ev b b (by omega)) (ev_pos (by simp) (ev_some _))))
end Go.Proofs.YtnlpbmakdiaaoaaGreatDoor.Pure
set_option linter.unusedVariables false
namespace Go.Proofs.YtnlpbmakdiaaoaaGreatDoor.Pure
open Go.RowKit Go.Proofs.YtnlpbmakdiaaoaaGreatDoor.P Go.Proofs.YtnlpbmakdiaaoaaGreatDoorW.PrintWords Go.Proofs.YtnlpbmakdiaaoaaGreatDoorW.PrintLast Go.Proofs.YtnlpbmakdiaaoaaGreatDoor.Base
theorem eqTextResult_same (c : Int) (s : ByteArray) : laws_eqTextResult.f c s c s = some true := by
  unfold laws_eqTextResult.f; simp
theorem FnExactEquationText (l : List S126) (a b : List Int) (hl : FitsL l) (w1 : a.length ≤ maxLen ∧ ∀ x ∈ a, (Lit.int .i64 x).wf = true) (w2 : b.length ≤ maxLen ∧ ∀ x ∈ b, (Lit.int .i64 x).wf = true) :
    ∃ k, laws_FnExactEquationText.f k l a b = some true := by
  refine ev_ex (g := fun k => laws_FnExactEquationText.f k l a b) ?_
  unfold laws_FnExactEquationText.f
  obtain ⟨r, hr, h1⟩ := szSignature_ev l hl 1048576 (by omega) (by omega)
  refine ev_bind hr ?_
  by_cases hr0 : r < 0
  · exact ev_pos hr0 (ev_some _)
  have h1 := h1 hr0
  refine ev_neg hr0 ?_
  rcases szOne_cases a b w1.1 w2.1 r (by omega) (by omega) with e | ⟨u, e, u0, ur, ha, hb⟩
  · exact ev_bindq e (ev_pos (by omega) (ev_some _))
  refine ev_bindq e (ev_neg (by omega) ?_)
  have t := toSignature_ev l (by omega)
  have es := eqSignature_ev (l.map toI) (by rw [List.length_map]; omega)
  have tb := toOne_ev a b ha hb
  have eb := eqOne_ev a b ha hb
  exact ev_bind t (ev_bind tb (ev_bind (EquationText_spec _ a b ha hb) (ev_bind t (ev_bind tb (ev_bind (EquationText_impl _ a b ha hb)
    (ev_bindq (eqTextResult_same _ _) (ev_pos rfl (ev_bind t (ev_bind es (ev_pos rfl (ev_bind tb (ev_bind eb (ev_pos rfl (ev_some _))))))))))))))
end Go.Proofs.YtnlpbmakdiaaoaaGreatDoor.Pure
