/- A part of the proof of the law FnNodes. -/
import Derived.Lib.SlicesCompact
import Derived.Lib.RowBridge
import Derived.Lib.Bytes
import Derived.Laws.StructEq
import Derived.Test.YtcanokiehjjbgaaDoorCFnNodes0
import Derived.Test.YtcanokiehjjbgaaDoorCFnNodes1
import Derived.Test.YtcanokiehjjbgaaDoorCFnNodes2
import Derived.Test.YtcanokiehjjbgaaDoorCFnNodes3
import Derived.Test.YtcanokiehjjbgaaDoorCFnNodes4
import Derived.Test.YtcanokiehjjbgaaDoorCFnNodes5
import Derived.Test.YtcanokiehjjbgaaDoorCFnNodes6
import Derived.Test.YtcanokiehjjbgaaDoorCFnNodes7
import Derived.Test.YtcanokiehjjbgaaDoorCFnNodes8
import Derived.Test.YtcanokiehjjbgaaDoorCFnNodes9
import Derived.Test.YtcanokiehjjbgaaDoorCFnNodes10
set_option linter.unusedVariables false
namespace Go.Proofs.YtcanokiehjjbgaaDoor.Pure
open Go.RowKit Go.Proofs.YtcanokiehjjbgaaDoor.P Go.Proofs.YtcanokiehjjbgaaDoorW.PrintWords Go.Proofs.YtcanokiehjjbgaaDoorW.PrintLast Go.Proofs.YtcanokiehjjbgaaDoor.Base
theorem bt_get (s : ByteArray) (i : Nat) (h : i < s.data.toList.length) : bt s (i : Int) = ((s.data.toList[i]).toNat : Int) := by
 have hs : i < s.size := by rw [Lib.size_eq]; exact h
 unfold bt
 rw [dif_pos (by simpa using hs)]
 rfl
theorem l2Name_l0 (s : ByteArray) (hl : s.size ≤ 3) : ∀ (d i : Nat), i + d = s.size → Ev (fun k => spec_l2Name.l0 k s (i : Int)) ((s.data.toList.drop i).all letterB) := by
 have hz := Lib.size_eq s
 intro d
 induction d with
 | zero =>
  intro i hi
  refine ev_succ ?_
  simp only [spec_l2Name.l0]
  refine ev_neg (by omega) (ev_to (ev_some _) ?_)
  rw [List.drop_eq_nil_of_le (by omega)]; rfl
 | succ d ih =>
  intro i hi
  have hi' : i < s.data.toList.length := by omega
  refine ev_succ ?_
  simp only [spec_l2Name.l0]
  refine ev_pos (by omega) (ev_pos (by omega) ?_)
  rw [bt_get s i hi', List.drop_eq_getElem_cons hi', wrap_up (by omega)]
  generalize s.data.toList[i] = b
  by_cases h1 : (b.toNat : Int) < 97
  ·refine ev_pos h1 (ev_to (ev_some _) ?_)
   have : letterB b = false := by unfold letterB; simp; omega
   simp [this]
  refine ev_neg h1 ?_
  by_cases h2 : (b.toNat : Int) > 122
  ·refine ev_pos h2 (ev_to (ev_some _) ?_)
   have : letterB b = false := by unfold letterB; simp; omega
   simp [this]
  refine ev_neg h2 (ev_to (ih (i + 1) (by omega)) ?_)
  have : letterB b = true := by unfold letterB; simp; omega
  simp [this]
theorem l2Name_ev (s : ByteArray) : Ev (fun k => spec_l2Name.f k s) (nameB s) := by
 unfold spec_l2Name.f nameB
 by_cases h1 : (s.size : Int) < 1
 ·refine ev_pos h1 (ev_succ ?_)
  simp only [spec_l2Name.j0]
  exact ev_pos (by simp) (ev_to (ev_some _) (by simp; omega))
 refine ev_neg h1 (ev_succ ?_)
 simp only [spec_l2Name.j0]
 by_cases h2 : (s.size : Int) > 3
 ·exact ev_pos (by simpa using h2) (ev_to (ev_some _) (by simp; omega))
 refine ev_neg (by simpa using h2) (ev_to (l2Name_l0 s (by omega) s.size 0 (by omega)) ?_)
 have : decide (1 ≤ s.size ∧ s.size ≤ 3) = true := by simp; omega
 rw [this]; rfl
theorem isName_eq (s : ByteArray) : impl_isName.f s = some (nameB s) := by
 unfold impl_isName.f nameB
 by_cases h1 : (s.size : Int) ≥ 1
 ·rw [if_pos h1]
  by_cases h2 : (s.size : Int) ≤ 3
  ·rw [if_pos h2]
   have ht : strings_Trim.f s abc = some ⟨(Lib.trimS s.data.toList abc.data.toList).toArray⟩ := by
    unfold strings_Trim.f
    exact if_pos ⟨by omega, by decide, by decide +kernel⟩
   refine bind_eq ht ?_
   have : decide (1 ≤ s.size ∧ s.size ≤ 3) = true := by simp; omega
   rw [this, Lib.toList_data]
   simp only [Bool.true_and]
   rw [← trim_abc]
  ·rw [if_neg h2]
   have : decide (1 ≤ s.size ∧ s.size ≤ 3) = false := by simp; omega
   rw [this]; rfl
 ·rw [if_neg h1]
  have : decide (1 ≤ s.size ∧ s.size ≤ 3) = false := by simp; omega
  rw [this]; rfl
def nameAt (l : List S110) (i : Nat) : List UInt8 := (rd_T110 l (i : Int)).f0.toList
def symFault (l : List S110) (i : Nat) : Option Int :=
 if nameB (rd_T110 l (i : Int)).f0 = true then (if 0 ≤ (rd_T110 l (i : Int)).f1 ∧ (rd_T110 l (i : Int)).f1 ≤ 2 then none else some 3) else some 5
def dupB (l : List S110) (i : Nat) : Bool := (firstN (fun j => nameAt l i == nameAt l j) i 0).isSome
def dupFault (l : List S110) (i : Nat) : Option Int := if dupB l i = true then some 6 else none
def zeroB (l : List S110) : Bool := (firstN (fun j => (rd_T110 l (j : Int)).f1 == 0) l.length 0).isSome
def sigF (l : List S110) : Int :=
 if l.length < 1 ∨ l.length > 6 then 2 else scanN (symFault l) (scanN (dupFault l) (if zeroB l = true then 0 else 4) l.length 0) l.length 0
theorem within_eq (a b c : Int) : impl_within.f a b c = some (decide (b ≤ a ∧ a ≤ c)) := by
 unfold impl_within.f
 by_cases h : a ≥ b
 ·rw [if_pos h]
  by_cases h' : a ≤ c
  ·simp [h']; omega
  ·simp [h']
 ·rw [if_neg h]
  simp; omega
theorem l1In_eq (a b c : Int) : spec_l1In.f a b c = some (decide (b ≤ a ∧ a ≤ c)) := by
 unfold spec_l1In.f
 by_cases h : a ≥ b
 ·rw [if_pos h]
  by_cases h' : a ≤ c
  ·simp [h']; omega
  ·simp [h']
 ·rw [if_neg h]
  simp; omega
theorem Sig_l3 (l : List S110) (hl : l.length ≤ 6) : Ev (fun k => spec_SignatureFault.l3 k (l.length : Int) 0 l) (if zeroB l = true then 0 else 4) := by
 have h := loop_scan l.length (fun j => if ((rd_T110 l (j : Int)).f1 == 0) = true then some 0 else none) 4 (fun k i => spec_SignatureFault.l3 k (l.length : Int) i l)
  (by simp only [spec_SignatureFault.l3]; exact ev_neg (by omega) (ev_some _))
  (fun i hi r hr => by
   simp only [spec_SignatureFault.l3]
   refine ev_pos (by omega) (ev_pos (by omega) (ev_pos (by omega) ?_))
   rw [wrap_up (by omega)]
   by_cases h : (rd_T110 l (i : Int)).f1 = 0
   ·refine ev_pos h (ev_to (ev_some _) (by simp [h]))
   ·refine ev_neg h (ev_to hr (by simp [h])))
  l.length 0 (by omega)
 refine ev_to h ?_
 rw [scanN_first (fun j => (rd_T110 l (j : Int)).f1 == 0) (fun _ => (0 : Int)) 4]
 unfold zeroB
 cases firstN (fun j => (rd_T110 l (j : Int)).f1 == 0) l.length 0 <;> rfl
theorem Sig_l2 (l : List S110) (hl : l.length ≤ 6) (i : Nat) (hi : i < l.length) (r : Int) (hr : Ev (fun k => spec_SignatureFault.l1 k (l.length : Int) ((i + 1 : Nat) : Int) l) r) :
  Ev (fun k => spec_SignatureFault.l2 k (l.length : Int) (i : Int) 0 l) ((dupFault l i).getD r) := by
 have h := loop_scan i (fun j => if (nameAt l i == nameAt l j) = true then some 6 else none) r (fun k j => spec_SignatureFault.l2 k (l.length : Int) (i : Int) j l)
  (by simp only [spec_SignatureFault.l2]; refine ev_neg (by omega) ?_; rw [wrap_up (by omega)]; exact hr)
  (fun j hj r hr => by
   simp only [spec_SignatureFault.l2]
   refine ev_pos (by omega) (ev_pos (by omega) (ev_pos (by omega) (ev_pos (by omega) (ev_pos (by omega) ?_))))
   rw [wrap_up (by omega)]
   by_cases h : nameAt l i = nameAt l j
   ·refine ev_pos h (ev_to (ev_some _) (by simp [h]))
   ·refine ev_neg h (ev_to hr (by simp [h])))
  i 0 (by omega)
 refine ev_to h ?_
 rw [scanN_first (fun j => nameAt l i == nameAt l j) (fun _ => (6 : Int)) r]
 unfold dupFault dupB
 cases firstN (fun j => nameAt l i == nameAt l j) i 0 <;> rfl
theorem Sig_l1 (l : List S110) (hl : l.length ≤ 6) : Ev (fun k => spec_SignatureFault.l1 k (l.length : Int) 0 l) (scanN (dupFault l) (if zeroB l = true then 0 else 4) l.length 0) :=
 loop_scan l.length (dupFault l) (if zeroB l = true then 0 else 4) (fun k i => spec_SignatureFault.l1 k (l.length : Int) i l)
  (by simp only [spec_SignatureFault.l1]; exact ev_neg (by omega) (Sig_l3 l hl))
  (fun i hi r hr => by
   simp only [spec_SignatureFault.l1]
   exact ev_pos (by omega) (Sig_l2 l hl i hi r hr))
  l.length 0 (by omega)
theorem Sig_l0 (l : List S110) (hl : l.length ≤ 6) : Ev (fun k => spec_SignatureFault.l0 k (l.length : Int) 0 l) (scanN (symFault l) (scanN (dupFault l) (if zeroB l = true then 0 else 4) l.length 0) l.length 0) :=
 loop_scan l.length (symFault l) _ (fun k i => spec_SignatureFault.l0 k (l.length : Int) i l)
  (by simp only [spec_SignatureFault.l0]; exact ev_neg (by omega) (Sig_l1 l hl))
  (fun i hi r hr => by
   simp only [spec_SignatureFault.l0]
   refine ev_pos (by omega) (ev_pos (by omega) (ev_pos (by omega) (ev_bind (l2Name_ev _) ?_)))
   unfold symFault
   by_cases h : nameB (rd_T110 l (i : Int)).f0 = true
   ·refine ev_pos h (ev_bindq (l1In_eq _ _ _) ?_)
    rw [if_pos h, wrap_up (by omega)]
    by_cases h' : 0 ≤ (rd_T110 l (i : Int)).f1 ∧ (rd_T110 l (i : Int)).f1 ≤ 2
    ·rw [if_pos h']
     exact ev_pos (by simpa using h') hr
    ·rw [if_neg h']
     exact ev_neg (by simpa using h') (ev_some _)
   ·rw [if_neg h]
    exact ev_neg h (ev_some _))
  l.length 0 (by omega)
theorem SignatureFault_spec (l : List S110) : Ev (fun k => spec_SignatureFault.f k l) (sigF l) := by
 unfold spec_SignatureFault.f sigF
 by_cases h1 : (l.length : Int) < 1
 ·rw [if_pos (.inl (by omega))]
  refine ev_pos h1 (ev_succ ?_)
  simp only [spec_SignatureFault.j0]
  exact ev_pos (by simp) (ev_some _)
 refine ev_neg h1 (ev_succ ?_)
 simp only [spec_SignatureFault.j0]
 by_cases h2 : (l.length : Int) > 6
 ·rw [if_pos (.inr (by omega))]
  exact ev_pos (by simpa using h2) (ev_some _)
 ·rw [if_neg (by omega)]
  exact ev_neg (by simpa using h2) (Sig_l0 l (by omega))
theorem symbolIndex_ev (l : List S110) (hl : l.length ≤ 1048576) (s : ByteArray) : Ev (fun k => impl_symbolIndex.f k l s) (placeN (fun j => nameAt l j == s.toList) l.length) := by
 unfold impl_symbolIndex.f
 refine ev_bind (a := placeN (fun j => nameAt l j == s.toList) l.length) ?_ (ev_some _)
 unfold slices_IndexFunc_impl_Symbol_impl_Symbol_impl_symbolIndex_1.f
 have h := loop_scan l.length (fun j => if (nameAt l j == s.toList) = true then some (j : Int) else none) (-1) (fun k i => slices_IndexFunc_impl_Symbol_impl_Symbol_impl_symbolIndex_1.l0 k l (l.length : Int) i [s])
  (by simp only [slices_IndexFunc_impl_Symbol_impl_Symbol_impl_symbolIndex_1.l0]; exact ev_neg (by omega) (ev_some _))
  (fun i hi r hr => by
   simp only [slices_IndexFunc_impl_Symbol_impl_Symbol_impl_symbolIndex_1.l0]
   refine ev_pos (by omega) (ev_pos (by omega) (ev_pos (by omega) (ev_bindq (a := nameAt l i == s.toList) ?_ ?_)))
   ·unfold impl_symbolIndex_1_with.f
    rw [if_pos (by simp)]
    rfl
   ·rw [wrap_up (by omega)]
    by_cases h : (nameAt l i == s.toList) = true
    ·rw [if_pos h]; exact ev_pos h (ev_some _)
    ·rw [if_neg h]; exact ev_neg h hr)
  l.length 0 (by omega)
 rw [scanN_place (fun j => nameAt l j == s.toList)] at h
 exact h
theorem dup_place (l : List S110) (i : Nat) (hi : i < l.length) : placeN (fun j => nameAt l j == (rd_T110 l (i : Int)).f0.toList) l.length = (i : Int) ↔ dupB l i = false := by
 unfold dupB
 have hn : (firstN (fun j => nameAt l i == nameAt l j) i 0).isSome = false ↔ ∀ j, j < i → (nameAt l i == nameAt l j) = false := by
  rw [Option.isSome_eq_false_iff, Option.isNone_iff_eq_none, firstN_none]
  exact ⟨fun h j hj => h j (by omega) (by omega), fun h j _ hj => h j (by omega)⟩
 rw [hn]
 rcases placeN_cases (fun j => nameAt l j == (rd_T110 l (i : Int)).f0.toList) l.length with ⟨h1, h2⟩ | ⟨j, hj, h1, h2, h3⟩
 ·have := h2 i hi
  simp [nameAt] at this
 ·rw [h1]
  constructor
  ·intro e
   obtain rfl : j = i := by omega
   intro m hm
   have := h3 m hm
   simp only [beq_eq_false_iff_ne, ne_eq] at this ⊢
   exact fun e => this e.symm
  ·intro h
   have hji : ¬ j < i := fun hlt => by
    have := h j hlt
    simp only [beq_eq_false_iff_ne, ne_eq] at this
    exact this (by simpa [nameAt] using (eq_comm.1 (beq_iff_eq.1 h2)))
   have hij : ¬ i < j := fun hlt => by
    have := h3 i hlt
    simp [nameAt] at this
   omega
theorem ISig_last (l : List S110) (hl : l.length ≤ 6) : Ev (fun k => slices_ContainsFunc_impl_Symbol_impl_Symbol_impl_SignatureFault_1.f k l) (zeroB l) := by
 unfold slices_ContainsFunc_impl_Symbol_impl_Symbol_impl_SignatureFault_1.f slices_IndexFunc_impl_Symbol_impl_Symbol_impl_SignatureFault_1.f
 have h := loop_scan l.length (fun j => if ((rd_T110 l (j : Int)).f1 == 0) = true then some (j : Int) else none) (-1) (fun k i => slices_IndexFunc_impl_Symbol_impl_Symbol_impl_SignatureFault_1.l0 k l (l.length : Int) i)
  (by simp only [slices_IndexFunc_impl_Symbol_impl_Symbol_impl_SignatureFault_1.l0]; exact ev_neg (by omega) (ev_some _))
  (fun i hi r hr => by
   simp only [slices_IndexFunc_impl_Symbol_impl_Symbol_impl_SignatureFault_1.l0]
   refine ev_pos (by omega) (ev_pos (by omega) (ev_pos (by omega) (ev_bindq rfl ?_)))
   rw [wrap_up (by omega)]
   by_cases h : ((rd_T110 l (i : Int)).f1 == 0) = true
   ·rw [if_pos h]; exact ev_pos h (ev_some _)
   ·rw [if_neg h]; exact ev_neg h hr)
  l.length 0 (by omega)
 rw [scanN_first (fun j => (rd_T110 l (j : Int)).f1 == 0) (fun j => (j : Int)) (-1)] at h
 refine ev_bind h (ev_to (ev_some _) ?_)
 unfold zeroB
 cases firstN (fun j => (rd_T110 l (j : Int)).f1 == 0) l.length 0 with
 | none => rfl
 | some j => simp
theorem ISig_l1 (l : List S110) (hl : l.length ≤ 6) : Ev (fun k => impl_SignatureFault.l1 k l (l.length : Int) 0 l) (scanN (dupFault l) (if zeroB l = true then 0 else 4) l.length 0) :=
 loop_scan l.length (dupFault l) (if zeroB l = true then 0 else 4) (fun k i => impl_SignatureFault.l1 k l (l.length : Int) i l)
  (by
   simp only [impl_SignatureFault.l1]
   refine ev_neg (by omega) (ev_bind (ISig_last l hl) ?_)
   by_cases h : zeroB l = true
   ·exact ev_to (ev_pos h (ev_some _)) (if_pos h).symm
   ·exact ev_to (ev_neg h (ev_some _)) (if_neg h).symm)
  (fun i hi r hr => by
   simp only [impl_SignatureFault.l1]
   refine ev_pos (by omega) (ev_pos (by omega) (ev_pos (by omega) (ev_bind (symbolIndex_ev l (by omega) _) ?_)))
   have hd := dup_place l i hi
   rw [wrap_up (by omega)]
   unfold dupFault
   by_cases h : dupB l i = true
   ·rw [if_pos h]
    exact ev_neg (fun e => by rw [hd.1 e] at h; cases h) (ev_some _)
   ·rw [if_neg h]
    exact ev_pos (hd.2 (Bool.eq_false_iff.2 h)) hr)
  l.length 0 (by omega)
theorem SignatureFault_impl (l : List S110) : Ev (fun k => impl_SignatureFault.f k l) (sigF l) := by
 unfold impl_SignatureFault.f sigF
 by_cases h1 : (l.length : Int) < 1
 ·rw [if_pos (.inl (by omega))]
  refine ev_pos h1 (ev_succ ?_)
  simp only [impl_SignatureFault.j0]
  exact ev_pos (by simp) (ev_some _)
 refine ev_neg h1 (ev_succ ?_)
 simp only [impl_SignatureFault.j0]
 by_cases h2 : (l.length : Int) > 6
 ·rw [if_pos (.inr (by omega))]
  exact ev_pos (by simpa using h2) (ev_some _)
 rw [if_neg (by omega)]
 refine ev_neg (by simpa using h2) ?_
 exact loop_scan l.length (symFault l) _ (fun k i => impl_SignatureFault.l0 k l (l.length : Int) i l)
  (by simp only [impl_SignatureFault.l0]; exact ev_neg (by omega) (ISig_l1 l (by omega)))
  (fun i hi r hr => by
   simp only [impl_SignatureFault.l0]
   refine ev_pos (by omega) (ev_pos (by omega) (ev_pos (by omega) (ev_bindq (isName_eq _) ?_)))
   unfold symFault
   by_cases h : nameB (rd_T110 l (i : Int)).f0 = true
   ·refine ev_pos h (ev_bindq (within_eq _ _ _) ?_)
    rw [if_pos h, wrap_up (by omega)]
    by_cases h' : 0 ≤ (rd_T110 l (i : Int)).f1 ∧ (rd_T110 l (i : Int)).f1 ≤ 2
    ·rw [if_pos h']
     exact ev_pos (by simpa using h') hr
    ·rw [if_neg h']
     exact ev_neg (by simpa using h') (ev_some _)
   ·rw [if_neg h]
    exact ev_neg h (ev_some _))
  l.length 0 (by omega)
structure Right (l : List S110) : Prop where
 len : 1 ≤ l.length ∧ l.length ≤ 6
 names : ∀ i, i < l.length → nameB (rd_T110 l (i : Int)).f0 = true
 arities : ∀ i, i < l.length → 0 ≤ (rd_T110 l (i : Int)).f1 ∧ (rd_T110 l (i : Int)).f1 ≤ 2
 apart : ∀ i, i < l.length → dupB l i = false
theorem right_of (l : List S110) (h : sigF l = 0) : Right l := by
 unfold sigF at h
 by_cases h1 : l.length < 1 ∨ l.length > 6
 ·rw [if_pos h1] at h; omega
 rw [if_neg h1] at h
 have hlen : 1 ≤ l.length ∧ l.length ≤ 6 := by omega
 rcases scanN_cases (symFault l) (scanN (dupFault l) (if zeroB l = true then 0 else 4) l.length 0) l.length 0 with ⟨h2, h3⟩ | ⟨j, _, _, h3⟩
 ·rw [h3] at h
  rcases scanN_cases (dupFault l) (if zeroB l = true then 0 else 4) l.length 0 with ⟨h4, h5⟩ | ⟨j, _, _, h5⟩
  ·refine ⟨hlen, fun i hi => ?_, fun i hi => ?_, fun i hi => ?_⟩
   ·have := h2 i (by omega) (by omega)
    unfold symFault at this
    by_cases hn : nameB (rd_T110 l (i : Int)).f0 = true
    ·exact hn
    ·rw [if_neg hn] at this; cases this
   ·have := h2 i (by omega) (by omega)
    unfold symFault at this
    by_cases hn : nameB (rd_T110 l (i : Int)).f0 = true
    ·rw [if_pos hn] at this
     by_cases ha : 0 ≤ (rd_T110 l (i : Int)).f1 ∧ (rd_T110 l (i : Int)).f1 ≤ 2
     ·exact ha
     ·rw [if_neg ha] at this; cases this
    ·rw [if_neg hn] at this; cases this
   ·have := h4 i (by omega) (by omega)
    unfold dupFault at this
    by_cases hd : dupB l i = true
    ·rw [if_pos hd] at this; cases this
    ·exact Bool.eq_false_iff.2 hd
  ·rw [h] at h5
   unfold dupFault at h5
   by_cases hd : dupB l j = true
   ·rw [if_pos hd] at h5; cases h5
   ·rw [if_neg hd] at h5; cases h5
 ·rw [h] at h3
  unfold symFault at h3
  by_cases hn : nameB (rd_T110 l (j : Int)).f0 = true
  ·rw [if_pos hn] at h3
   by_cases ha : 0 ≤ (rd_T110 l (j : Int)).f1 ∧ (rd_T110 l (j : Int)).f1 ≤ 2
   ·rw [if_pos ha] at h3; cases h3
   ·rw [if_neg ha] at h3; cases h3
  ·rw [if_neg hn] at h3; cases h3
end Go.Proofs.YtcanokiehjjbgaaDoor.Pure
set_option linter.unusedVariables false
namespace Go.Proofs.YtcanokiehjjbgaaDoor.Pure
open Go.RowKit Go.Proofs.YtcanokiehjjbgaaDoor.P Go.Proofs.YtcanokiehjjbgaaDoorW.PrintWords Go.Proofs.YtcanokiehjjbgaaDoorW.PrintLast Go.Proofs.YtcanokiehjjbgaaDoor.Base
def symB (l : List S110) (n : Int) : Bool := decide (0 ≤ n ∧ n ≤ (l.length : Int) - 1)
theorem l2Symbol_eq (l : List S110) (hl : l.length ≤ 1048576) (n : Int) : spec_l2Symbol.f [(⟨l⟩ : S26)] n = some (symB l n) := by
 unfold spec_l2Symbol.f
 rw [if_pos (by simp)]
 show (spec_l1In.f n 0 (wrap64 ((l.length : Int) - 1))).bind _ = _
 rw [l1In_eq, wrap_id (by omega) (by omega)]
 rfl
theorem isSymbol_eq (l : List S110) (hl : l.length ≤ 1048576) (n : Int) : impl_isSymbol.f l n = some (symB l n) := by
 unfold impl_isSymbol.f
 rw [within_eq, wrap_id (by omega) (by omega)]
 rfl
theorem symB_true {l : List S110} {n : Int} (h : symB l n = true) : 0 ≤ n ∧ n < (l.length : Int) := by
 unfold symB at h
 have := of_decide_eq_true h
 omega
end Go.Proofs.YtcanokiehjjbgaaDoor.Pure
set_option linter.unusedVariables false
namespace Go.Proofs.YtcanokiehjjbgaaDoor.Pure
open Go.RowKit Go.Proofs.YtcanokiehjjbgaaDoorW.PrintWords Go.Proofs.YtcanokiehjjbgaaDoor.Base
def skipN (ar : Int → Nat) : Nat → List Int → Option (List Int)
 | 0, t => some t
 | _ + 1, [] => none
 | k + 1, n :: t => skipN ar (k + ar n) t
theorem skipN_zero (ar : Int → Nat) (t : List Int) : skipN ar 0 t = some t := by cases t <;> rfl
theorem skipN_add (ar : Int → Nat) (m : Nat) : ∀ (t : List Int) (k : Nat), skipN ar (k + m) t = (skipN ar k t).bind (skipN ar m)
 | t, 0 => by rw [skipN_zero, Nat.zero_add]; rfl
 | [], k + 1 => by rw [show k + 1 + m = (k + m) + 1 by omega]; rfl
 | n :: t, k + 1 => by
  rw [show k + 1 + m = (k + m) + 1 by omega]
  show skipN ar (k + m + ar n) t = (skipN ar (k + ar n) t).bind (skipN ar m)
  rw [show k + m + ar n = k + ar n + m by omega]
  exact skipN_add ar m t (k + ar n)
theorem skipN_succ (ar : Int → Nat) (t : List Int) (k : Nat) : skipN ar (k + 1) t = (skipN ar 1 t).bind (skipN ar k) := by
 rw [show k + 1 = 1 + k by omega]; exact skipN_add ar k t 1
theorem skipN_cons (ar : Int → Nat) (n : Int) (t : List Int) (k : Nat) : skipN ar (k + 1) (n :: t) = skipN ar (k + ar n) t := rfl
theorem skipN_suffix (ar : Int → Nat) : ∀ (t : List Int) (k : Nat) (u : List Int), skipN ar k t = some u → ∃ d, u = t.drop d ∧ d ≤ t.length ∧ k ≤ d
 | t, 0, u, h => by
  rw [skipN_zero] at h
  obtain rfl := Option.some.inj h
  exact ⟨0, by simp, by omega, by omega⟩
 | [], k + 1, u, h => by cases h
 | n :: t, k + 1, u, h => by
  obtain ⟨d, e, hd, hk⟩ := skipN_suffix ar t (k + ar n) u h
  exact ⟨d + 1, by rw [e]; rfl, by simp; omega, by omega⟩
def endN (ar : Int → Nat) (term : List Int) (k at_ : Nat) : Option Nat := (skipN ar k (term.drop at_)).map fun u => term.length - u.length
theorem endN_some {ar : Int → Nat} {term : List Int} {k at_ e : Nat} (hat : at_ ≤ term.length) (h : endN ar term k at_ = some e) : skipN ar k (term.drop at_) = some (term.drop e) ∧ at_ + k ≤ e ∧ e ≤ term.length := by
 unfold endN at h
 cases hs : skipN ar k (term.drop at_) with
 | none => rw [hs] at h; cases h
 | some u =>
  rw [hs] at h
  obtain ⟨d, e1, hd, hk⟩ := skipN_suffix ar _ _ _ hs
  rw [List.length_drop] at hd
  have he : term.length - u.length = e := Option.some.inj h
  have hul : u.length = term.length - (at_ + d) := by rw [e1, List.drop_drop, List.length_drop]
  have hed : e = at_ + d := by omega
  refine ⟨?_, by omega, by omega⟩
  rw [e1, List.drop_drop, hed]
theorem endN_zero (ar : Int → Nat) (term : List Int) (at_ : Nat) (hat : at_ ≤ term.length) : endN ar term 0 at_ = some at_ := by
 unfold endN
 rw [skipN_zero]
 simp only [Option.map_some, List.length_drop]
 congr 1; omega
theorem endN_out (ar : Int → Nat) (term : List Int) (k at_ : Nat) (hk : 0 < k) (hat : term.length ≤ at_) : endN ar term k at_ = none := by
 unfold endN
 obtain ⟨m, rfl⟩ : ∃ m, k = m + 1 := ⟨k - 1, by omega⟩
 rw [List.drop_eq_nil_of_le hat]; rfl
theorem endN_step (ar : Int → Nat) (term : List Int) (k at_ : Nat) (hat : at_ < term.length) : endN ar term (k + 1) at_ = endN ar term (k + ar term[at_]) (at_ + 1) := by
 unfold endN
 rw [List.drop_eq_getElem_cons hat, skipN_cons]
theorem endN_add (ar : Int → Nat) (term : List Int) (k m at_ : Nat) (hat : at_ ≤ term.length) : endN ar term (k + m) at_ = (endN ar term k at_).bind fun e => endN ar term m e := by
 cases h : endN ar term k at_ with
 | none =>
  unfold endN at h ⊢
  rw [skipN_add]
  cases hs : skipN ar k (term.drop at_) with
  | none => rfl
  | some u => rw [hs] at h; cases h
 | some e =>
  obtain ⟨hs, _, _⟩ := endN_some hat h
  simp only [Option.bind_some]
  unfold endN
  rw [skipN_add, hs]
  rfl
end Go.Proofs.YtcanokiehjjbgaaDoor.Pure
set_option linter.unusedVariables false
namespace Go.Proofs.YtcanokiehjjbgaaDoor.Pure
open Go.RowKit Go.Proofs.YtcanokiehjjbgaaDoor.P Go.Proofs.YtcanokiehjjbgaaDoorW.PrintWords Go.Proofs.YtcanokiehjjbgaaDoorW.PrintLast Go.Proofs.YtcanokiehjjbgaaDoor.Base
def nodeB (l : List S110) (n : Int) : Bool := symB l n || decide (-12 ≤ n ∧ n ≤ -1)
def arL (l : List S110) (n : Int) : Nat := if n < 0 then 0 else (rd_T110 l n).f1.toNat
theorem l3Node_eq (l : List S110) (hl : l.length ≤ 6) (n : Int) : spec_l3Node.f [(⟨l⟩ : S26)] n = some (nodeB l n) := by
 unfold spec_l3Node.f nodeB
 rw [l2Symbol_eq l (by omega)]
 simp only [Option.bind_some]
 by_cases h : symB l n = true
 ·rw [if_pos h, h]; rfl
 ·rw [if_neg h, l1In_eq, Bool.eq_false_iff.2 h]; rfl
theorem isNode_eq (l : List S110) (hl : l.length ≤ 6) (n : Int) : impl_isNode.f l n = some (nodeB l n) := by
 unfold impl_isNode.f nodeB
 rw [isSymbol_eq l (by omega)]
 simp only [Option.bind_some]
 by_cases h : symB l n = true
 ·rw [if_pos h, h]; rfl
 ·rw [if_neg h, within_eq, Bool.eq_false_iff.2 h]; rfl
def Nodes (l : List S110) (t : List Int) : Prop := ∀ i, i < t.length → nodeB l (rd t (i : Int)) = true
theorem node_sym {l : List S110} {n : Int} (h : nodeB l n = true) (h0 : ¬ n < 0) : 0 ≤ n ∧ n < (l.length : Int) := by
 unfold nodeB at h
 rw [Bool.or_eq_true] at h
 rcases h with h | h
 ·exact symB_true h
 ·have := of_decide_eq_true h; omega
theorem arL_cast {l : List S110} (hr : Right l) {n : Int} (h : nodeB l n = true) (h0 : ¬ n < 0) : (rd_T110 l n).f1 = (arL l n : Int) ∧ arL l n ≤ 2 := by
 obtain ⟨a, b⟩ := node_sym h h0
 have := hr.arities n.toNat (by omega)
 rw [Int.toNat_of_nonneg a] at this
 unfold arL
 rw [if_neg h0]
 omega
theorem arL_le {l : List S110} (hr : Right l) {n : Int} (h : nodeB l n = true) : arL l n ≤ 2 := by
 by_cases h0 : n < 0
 ·unfold arL; rw [if_pos h0]; omega
 ·exact (arL_cast hr h h0).2
def endI (o : Option Nat) : Int := match o with
 | some e => (e : Int)
 | none => -1
theorem l3End_loop (l : List S110) (hr : Right l) (t : List Int) (ht : t.length ≤ 1048576) (hn : Nodes l t) (at_ : Nat) (hat : at_ < t.length) (h0 : ¬ rd t (at_ : Int) < 0)
  (ih : ∀ e, at_ < e → e ≤ t.length → Ev (fun k => spec_l3End.f k [(⟨l⟩ : S26)] t (e : Int)) (endI (endN (arL l) t 1 e))) :
  ∀ (m i e : Nat), i + m = arL l (rd t (at_ : Int)) → at_ < e → e ≤ t.length → Ev (fun k => spec_l3End.l0 k [(⟨l⟩ : S26)] t (at_ : Int) (e : Int) (i : Int)) (endI (endN (arL l) t m e)) := by
 obtain ⟨s0, s1⟩ := node_sym (hn at_ hat) h0
 obtain ⟨ha, ha2⟩ := arL_cast hr (hn at_ hat) h0
 have e0 : (rd_T26 [(⟨l⟩ : S26)] 0).f0 = l := rfl
 intro m
 induction m with
 | zero =>
  intro i e hi he hel
  refine ev_succ ?_
  simp only [spec_l3End.l0, e0]
  refine ev_pos (by simp) (ev_pos (by omega) (ev_pos (by omega) (ev_pos s0 (ev_pos s1 ?_))))
  rw [ha, endN_zero _ _ _ hel]
  exact ev_neg (by omega) (ev_some _)
 | succ m ihm =>
  intro i e hi he hel
  refine ev_succ ?_
  simp only [spec_l3End.l0, e0]
  refine ev_pos (by simp) (ev_pos (by omega) (ev_pos (by omega) (ev_pos s0 (ev_pos s1 ?_))))
  rw [ha]
  refine ev_pos (by omega) (ev_bind (ih e he hel) ?_)
  rw [show m + 1 = 1 + m by omega, endN_add _ _ 1 m e hel]
  cases hE : endN (arL l) t 1 e with
  | none => exact ev_pos (by simp [endI]) (ev_some _)
  | some e' =>
   obtain ⟨_, h1, h2⟩ := endN_some hel hE
   refine ev_neg (by simp [endI]) ?_
   rw [wrap_up (by omega)]
   simp only [Option.bind_some]
   exact ihm (i + 1) e' (by omega) (by omega) h2
theorem l3End_ev (l : List S110) (hr : Right l) (t : List Int) (ht : t.length ≤ 1048576) (hn : Nodes l t) : ∀ (d at_ : Nat), at_ + d = t.length → Ev (fun k => spec_l3End.f k [(⟨l⟩ : S26)] t (at_ : Int)) (endI (endN (arL l) t 1 at_)) := by
 intro d
 induction d using Nat.strongRecOn with
 | _ d ih =>
  intro at_ hd
  refine ev_succ ?_
  simp only [spec_l3End.f]
  by_cases hat : t.length ≤ at_
  ·rw [endN_out _ _ _ _ (by omega) hat]
   exact ev_pos (by omega) (ev_some _)
  have hat' : at_ < t.length := by omega
  refine ev_neg (by omega) (ev_pos (by omega) (ev_pos (by omega) ?_))
  rw [endN_step _ _ 0 _ hat', ← rd_get t at_ hat', Nat.zero_add, wrap_up (by omega)]
  by_cases h0 : rd t (at_ : Int) < 0
  ·refine ev_pos h0 ?_
   have : arL l (rd t (at_ : Int)) = 0 := by unfold arL; rw [if_pos h0]
   rw [this, endN_zero _ _ _ (by omega)]
   exact ev_some _
  ·refine ev_neg h0 ?_
   exact l3End_loop l hr t ht hn at_ hat' h0 (fun e he hel => ih (t.length - e) (by omega) e (by omega)) _ 0 (at_ + 1) (by omega) (by omega) (by omega)
def endJ (n : Nat) (o : Option Nat) : Int := match o with
 | some e => (e : Int)
 | none => (n : Int) + 1
theorem arityOf_eq (l : List S110) (hr : Right l) (n : Int) (h : nodeB l n = true) : impl_arityOf.f l n = some (arL l n : Int) := by
 unfold impl_arityOf.f
 by_cases h0 : n < 0
 ·rw [if_pos h0]; unfold arL; rw [if_pos h0]; rfl
 ·obtain ⟨s0, s1⟩ := node_sym h h0
  rw [if_neg h0, if_pos s0, if_pos s1, (arL_cast hr h h0).1]
theorem endOf_l0 (l : List S110) (hr : Right l) (t : List Int) (ht : t.length ≤ 1048576) (hn : Nodes l t) : ∀ (d at_ o : Nat), at_ + d = t.length → o ≤ 2 * at_ + 1 → Ev (fun k => impl_endOf.l0 k t (at_ : Int) (o : Int) l) (endJ t.length (endN (arL l) t o at_)) := by
 intro d
 induction d with
 | zero =>
  intro at_ o hd ho
  refine ev_succ ?_
  simp only [impl_endOf.l0]
  cases o with
  | zero =>
   rw [endN_zero _ _ _ (by omega)]
   exact ev_neg (by omega) (ev_some _)
  | succ o =>
   rw [endN_out _ _ _ _ (by omega) (by omega)]
   refine ev_pos (by omega) (ev_pos (by omega) ?_)
   rw [wrap_up (by omega)]
   exact ev_to (ev_some _) (by simp [endJ])
 | succ d ih =>
  intro at_ o hd ho
  refine ev_succ ?_
  simp only [impl_endOf.l0]
  cases o with
  | zero =>
   rw [endN_zero _ _ _ (by omega)]
   exact ev_neg (by omega) (ev_some _)
  | succ o =>
   have hat : at_ < t.length := by omega
   refine ev_pos (by omega) (ev_neg (by omega) (ev_pos (by omega) (ev_pos (by omega) (ev_bindq (arityOf_eq l hr _ (hn at_ hat)) ?_))))
   have ha := arL_le hr (hn at_ hat)
   rw [endN_step _ _ o _ hat, ← rd_get t at_ hat, wrap_up (by omega)]
   generalize arL l (rd t (at_ : Int)) = a at *
   rw [wrap_id (x := (a : Int) - 1) (by omega) (by omega), wrap_id (by omega) (by omega), show ((o + 1 : Nat) : Int) + ((a : Int) - 1) = ((o + a : Nat) : Int) by omega]
   exact ih (at_ + 1) (o + a) (by omega) (by omega)
theorem endOf_ev (l : List S110) (hr : Right l) (t : List Int) (ht : t.length ≤ 1048576) (hn : Nodes l t) (at_ : Nat) (hat : at_ ≤ t.length) : Ev (fun k => impl_endOf.f k l t (at_ : Int)) (endJ t.length (endN (arL l) t 1 at_)) := by
 unfold impl_endOf.f
 exact endOf_l0 l hr t ht hn (t.length - at_) at_ 1 (by omega) (by omega)
def badN (l : List S110) (t : List Int) : Bool := (firstN (fun j => !nodeB l (rd t (j : Int))) t.length 0).isSome
theorem nodes_of {l : List S110} {t : List Int} (h : ¬ badN l t = true) : Nodes l t := by
 unfold badN at h
 have h1 : firstN (fun j => !nodeB l (rd t (j : Int))) t.length 0 = none := by
  cases hf : firstN (fun j => !nodeB l (rd t (j : Int))) t.length 0 with
  | none => rfl
  | some j => rw [hf] at h; exact absurd rfl h
 intro i hi
 have := (firstN_none t.length 0).1 h1 i (by omega) (by omega)
 simpa using this
def termG (l : List S110) (t : List Int) : Int :=
 if t.length < 1 ∨ t.length > 24 then 2 else if badN l t = true then 3 else if endN (arL l) t 1 0 = some t.length then 0 else 1
def termF (l : List S110) (t : List Int) : Int := if sigF l = 0 then termG l t else sigF l
theorem l3Fault_ev (l : List S110) (hr : Right l) (t : List Int) (ht : t.length ≤ 1048576) : Ev (fun k => spec_l3Fault.f k [(⟨l⟩ : S26)] t) (termG l t) := by
 have hl := hr.len
 unfold spec_l3Fault.f termG
 by_cases h1 : (t.length : Int) < 1
 ·rw [if_pos (.inl (by omega))]
  refine ev_pos h1 (ev_succ ?_)
  simp only [spec_l3Fault.j0]
  exact ev_pos (by simp) (ev_some _)
 refine ev_neg h1 (ev_succ ?_)
 simp only [spec_l3Fault.j0]
 by_cases h2 : (t.length : Int) > 24
 ·rw [if_pos (.inr (by omega))]
  exact ev_pos (by simpa using h2) (ev_some _)
 rw [if_neg (by omega)]
 refine ev_neg (by simpa using h2) ?_
 by_cases hb : badN l t = true
 ·rw [if_pos hb]
  unfold badN at hb
  cases hf : firstN (fun j => !nodeB l (rd t (j : Int))) t.length 0 with
  | none => rw [hf] at hb; cases hb
  | some j =>
   obtain ⟨_, hj, hp, hall⟩ := firstN_some _ _ _ hf
   have key : ∀ d i, i + d = j → Ev (fun k => spec_l3Fault.l0 k [(⟨l⟩ : S26)] t (i : Int)) 3 := by
    intro d
    induction d with
    | zero =>
     intro i hi
     obtain rfl : i = j := by omega
     refine ev_succ ?_
     simp only [spec_l3Fault.l0]
     refine ev_pos (by omega) (ev_pos (by omega) (ev_bindq (l3Node_eq l (by omega) _) ?_))
     exact ev_neg (by simpa using hp) (ev_some _)
    | succ d ih =>
     intro i hi
     refine ev_succ ?_
     simp only [spec_l3Fault.l0]
     refine ev_pos (by omega) (ev_pos (by omega) (ev_bindq (l3Node_eq l (by omega) _) ?_))
     have := hall i (by omega) (by omega)
     rw [wrap_up (by omega)]
     exact ev_pos (by simpa using this) (ih (i + 1) (by omega))
   exact key j 0 (by omega)
 ·rw [if_neg hb]
  have hn := nodes_of hb
  have h := loop_scan t.length (fun j => if (!nodeB l (rd t (j : Int))) = true then some 3 else none) (if endN (arL l) t 1 0 = some t.length then 0 else 1) (fun k i => spec_l3Fault.l0 k [(⟨l⟩ : S26)] t i)
   (by
    simp only [spec_l3Fault.l0]
    refine ev_neg (by omega) (ev_bind (l3End_ev l hr t ht hn t.length 0 (by omega)) ?_)
    by_cases he : endN (arL l) t 1 0 = some t.length
    ·rw [he]; exact ev_pos rfl (ev_to (ev_some _) (if_pos rfl).symm)
    ·refine ev_neg ?_ (ev_to (ev_some _) (if_neg he).symm)
     cases hE : endN (arL l) t 1 0 with
     | none => simp [endI] <;> omega
     | some e =>
      intro k
      have : e = t.length := by simp only [endI] at k; omega
      exact he (by rw [hE, this]))
   (fun i hi r hr => by
    simp only [spec_l3Fault.l0]
    refine ev_pos (by omega) (ev_pos (by omega) (ev_bindq (l3Node_eq l (by omega) _) ?_))
    rw [wrap_up (by omega), hn i hi]
    exact ev_pos rfl (ev_to hr (by simp)))
   t.length 0 (by omega)
  refine ev_to h ?_
  exact scanN_none t.length 0 (fun j _ hj => by simp [hn j (by omega)])
theorem TermFault_spec (l : List S110) (t : List Int) (ht : t.length ≤ 1048576) : Ev (fun k => spec_TermFault.f k l t) (termF l t) := by
 unfold spec_TermFault.f termF
 exact ev_bind (SignatureFault_spec l) (ev_ite (fun h => ev_bind (l3Fault_ev l (right_of l h) t ht) (ev_some _)) (fun h => ev_some _))
theorem Term_bad (l : List S110) (hl : l.length ≤ 6) (t : List Int) (ht : t.length ≤ 1048576) :
  Ev (fun k => slices_ContainsFunc_int64_int64_impl_TermFault_1.f k t [(⟨l⟩ : S26)]) (badN l t) := by
 unfold slices_ContainsFunc_int64_int64_impl_TermFault_1.f slices_IndexFunc_int64_int64_impl_TermFault_1.f
 have h := loop_scan t.length (fun j => if (!nodeB l (rd t (j : Int))) = true then some (j : Int) else none) (-1) (fun k i => slices_IndexFunc_int64_int64_impl_TermFault_1.l0 k t (t.length : Int) i [(⟨l⟩ : S26)])
  (by simp only [slices_IndexFunc_int64_int64_impl_TermFault_1.l0]; exact ev_neg (by omega) (ev_some _))
  (fun i hi r hr => by
   simp only [slices_IndexFunc_int64_int64_impl_TermFault_1.l0]
   refine ev_pos (by omega) (ev_pos (by omega) (ev_pos (by omega) (ev_bindq (a := !nodeB l (rd t (i : Int))) ?_ ?_)))
   ·unfold impl_TermFault_1_with.f
    rw [if_pos (by simp)]
    exact bind_eq (isNode_eq l (by omega) _) rfl
   ·rw [wrap_up (by omega)]
    by_cases h : (!nodeB l (rd t (i : Int))) = true
    ·rw [if_pos h]; exact ev_pos h (ev_some _)
    ·rw [if_neg h]; exact ev_neg h hr)
  t.length 0 (by omega)
 rw [scanN_first (fun j => !nodeB l (rd t (j : Int))) (fun j => (j : Int)) (-1)] at h
 refine ev_bind h (ev_to (ev_some _) ?_)
 unfold badN
 cases firstN (fun j => !nodeB l (rd t (j : Int))) t.length 0 with
 | none => rfl
 | some j => simp
theorem TermFault_impl (l : List S110) (t : List Int) (ht : t.length ≤ 1048576) : Ev (fun k => impl_TermFault.f k l t) (termF l t) := by
 unfold impl_TermFault.f termF
 refine ev_bind (SignatureFault_impl l) (ev_ite (fun h => ?_) (fun h => ev_some _))
 have hr := right_of l h
 have hl := hr.len
 unfold termG
 by_cases h1 : (t.length : Int) < 1
 ·rw [if_pos (.inl (by omega))]
  refine ev_pos h1 (ev_succ ?_)
  simp only [impl_TermFault.j0]
  exact ev_pos (by simp) (ev_some _)
 refine ev_neg h1 (ev_succ ?_)
 simp only [impl_TermFault.j0]
 by_cases h2 : (t.length : Int) > 24
 ·rw [if_pos (.inr (by omega))]
  exact ev_pos (by simpa using h2) (ev_some _)
 rw [if_neg (by omega)]
 refine ev_neg (by simpa using h2) (ev_bind (Term_bad l (by omega) t ht) (ev_ite (fun hb => ev_some _) (fun hb => ?_)))
 have hn := nodes_of hb
 refine ev_bind (endOf_ev l hr t ht hn 0 (by omega)) ?_
 by_cases he : endN (arL l) t 1 0 = some t.length
 ·rw [he]; exact ev_pos rfl (ev_to (ev_some _) (if_pos rfl).symm)
 ·refine ev_neg ?_ (ev_to (ev_some _) (if_neg he).symm)
  cases hE : endN (arL l) t 1 0 with
  | none => simp [endJ] <;> omega
  | some e =>
   intro k
   have : e = t.length := by simp only [endJ] at k; omega
   exact he (by rw [hE, this])
structure RightT (l : List S110) (t : List Int) : Prop where
 sig : Right l
 len : 1 ≤ t.length ∧ t.length ≤ 24
 nodes : Nodes l t
 whole : endN (arL l) t 1 0 = some t.length
theorem rightT_of {l : List S110} {t : List Int} (h : termF l t = 0) : RightT l t := by
 unfold termF at h
 by_cases hs : sigF l = 0
 ·rw [if_pos hs] at h
  unfold termG at h
  by_cases h1 : t.length < 1 ∨ t.length > 24
  ·rw [if_pos h1] at h; cases h
  rw [if_neg h1] at h
  by_cases h2 : badN l t = true
  ·rw [if_pos h2] at h; cases h
  rw [if_neg h2] at h
  by_cases h3 : endN (arL l) t 1 0 = some t.length
  ·exact ⟨right_of l hs, by omega, nodes_of h2, h3⟩
  ·rw [if_neg h3] at h; cases h
 ·rw [if_neg hs] at h; exact absurd h hs
end Go.Proofs.YtcanokiehjjbgaaDoor.Pure
set_option linter.unusedVariables false
namespace Go.Proofs.YtcanokiehjjbgaaDoor.Pure
open Go.RowKit Go.Proofs.YtcanokiehjjbgaaDoor.P Go.Proofs.YtcanokiehjjbgaaDoorW.PrintWords Go.Proofs.YtcanokiehjjbgaaDoorW.PrintLast Go.Proofs.YtcanokiehjjbgaaDoor.Base
def SmallT (t : List Int) : Prop := t.length ≤ 24 ∧ ∀ i, i < t.length → -12 ≤ rd t (i : Int) ∧ rd t (i : Int) ≤ 6
theorem smallT_of {l : List S110} {t : List Int} (h : RightT l t) : SmallT t := ⟨h.len.2, fun i hi => by
 have hn := h.nodes i hi
 have := h.sig.len
 unfold nodeB at hn
 rw [Bool.or_eq_true] at hn
 rcases hn with hn | hn
 ·have := symB_true hn; omega
 ·have := of_decide_eq_true hn; omega⟩
end Go.Proofs.YtcanokiehjjbgaaDoor.Pure
set_option linter.unusedVariables false
namespace Go.Proofs.YtcanokiehjjbgaaDoor.Pure
open Go.RowKit Go.Proofs.YtcanokiehjjbgaaDoorW.PrintWords Go.Proofs.YtcanokiehjjbgaaDoor.Base
def putL : List Int → Int → List Int
 | [], n => [n]
 | x :: xs, n => if n ≤ x then (if x = n then x :: xs else n :: x :: xs) else x :: putL xs n
theorem mem_putL (n y : Int) : ∀ l : List Int, y ∈ putL l n ↔ y = n ∨ y ∈ l
 | [] => by simp [putL]
 | x :: xs => by
  unfold putL
  by_cases h : n ≤ x
  ·rw [if_pos h]
   by_cases e : x = n
   ·rw [if_pos e]; subst e; simp
   ·rw [if_neg e]; simp
  ·rw [if_neg h, List.mem_cons, mem_putL n y xs, List.mem_cons]
   constructor
   ·rintro (h | h | h)
    ·exact .inr (.inl h)
    ·exact .inl h
    ·exact .inr (.inr h)
   ·rintro (h | h | h)
    ·exact .inr (.inl h)
    ·exact .inl h
    ·exact .inr (.inr h)
theorem rise_putL (n : Int) : ∀ l : List Int, l.Pairwise (· < ·) → (putL l n).Pairwise (· < ·)
 | [], _ => by simp [putL]
 | x :: xs, h => by
  unfold putL
  rw [List.pairwise_cons] at h
  by_cases hn : n ≤ x
  ·rw [if_pos hn]
   by_cases e : x = n
   ·rw [if_pos e, List.pairwise_cons]; exact h
   ·rw [if_neg e, List.pairwise_cons, List.pairwise_cons]
    refine ⟨fun y hy => ?_, h⟩
    rcases List.mem_cons.1 hy with rfl | hy
    ·omega
    ·have := h.1 y hy; omega
  ·rw [if_neg hn, List.pairwise_cons]
   refine ⟨fun y hy => ?_, rise_putL n xs h.2⟩
   rcases (mem_putL n y xs).1 hy with rfl | hy
   ·omega
   ·exact h.1 y hy
theorem putL_length (n : Int) : ∀ l : List Int, (putL l n).length ≤ l.length + 1
 | [] => by simp [putL]
 | x :: xs => by
  unfold putL
  split
  ·split
   ·simp
   ·simp
  ·have := putL_length n xs
   simp only [List.length_cons]; omega
theorem rise_ext : ∀ a b : List Int, a.Pairwise (· < ·) → b.Pairwise (· < ·) → (∀ x, x ∈ a ↔ x ∈ b) → a = b
 | [], [], _, _, _ => rfl
 | [], y :: ys, _, _, h => by have := (h y).2 (by simp); simp at this
 | x :: xs, [], _, _, h => by have := (h x).1 (by simp); simp at this
 | x :: xs, y :: ys, ha, hb, h => by
  rw [List.pairwise_cons] at ha hb
  have e : x = y := by
   have h1 := (h x).1 (by simp)
   have h2 := (h y).2 (by simp)
   rcases List.mem_cons.1 h1 with h1 | h1
   ·exact h1
   rcases List.mem_cons.1 h2 with h2 | h2
   ·exact h2.symm
   have := ha.1 y h2
   have := hb.1 x h1
   omega
  subst e
  congr 1
  refine rise_ext xs ys ha.2 hb.2 (fun z => ?_)
  constructor
  ·intro hz
   have h1 := (h z).1 (by simp [hz])
   rcases List.mem_cons.1 h1 with h1 | h1
   ·have := ha.1 z hz; omega
   ·exact h1
  ·intro hz
   have h1 := (h z).2 (by simp [hz])
   rcases List.mem_cons.1 h1 with h1 | h1
   ·have := hb.1 z hz; omega
   ·exact h1
theorem compactUpTo_rise (d : Array Int) (hs : ∀ i j, i < j → j < d.size → d[i]! ≤ d[j]!) : ∀ m, m ≤ d.size → (Lib.compactUpTo d m).Pairwise (· < ·) ∧ ∀ x, x ∈ Lib.compactUpTo d m ↔ ∃ j, j < m ∧ d[j]! = x := by
 intro m
 induction m with
 | zero => intro _; simp [Lib.compactUpTo]
 | succ m ih =>
  intro hm
  obtain ⟨h1, h2⟩ := ih (by omega)
  rw [Lib.compactUpTo_succ]
  by_cases hk : m = 0 ∨ d[m]! ≠ d[m - 1]!
  ·have hkp : Lib.keeps d m = true := by
    rcases hk with rfl | hk
    ·exact Lib.keeps_lt_one d 0 (by omega)
    ·exact Lib.keeps_pos hk
   rw [if_pos hkp]
   refine ⟨List.pairwise_append.2 ⟨h1, by simp, fun a ha b hb => ?_⟩, fun x => ?_⟩
   ·rw [List.mem_singleton] at hb
    subst hb
    obtain ⟨j, hj, rfl⟩ := (h2 a).1 ha
    rcases hk with rfl | hk
    ·omega
    ·have e1 := hs (m - 1) m (by omega) (by omega)
     by_cases hjm : j = m - 1
     ·subst hjm; omega
     ·have e2 := hs j (m - 1) (by omega) (by omega); omega
   ·rw [List.mem_append, List.mem_singleton, h2]
    constructor
    ·rintro (⟨j, hj, e⟩ | e)
     ·exact ⟨j, by omega, e⟩
     ·exact ⟨m, by omega, e.symm⟩
    ·rintro ⟨j, hj, e⟩
     by_cases hjm : j = m
     ·subst hjm; exact .inr e.symm
     ·exact .inl ⟨j, by omega, e⟩
  ·have hm0 : 0 < m := by
    rcases Nat.eq_zero_or_pos m with h | h
    ·exact absurd (.inl h) hk
    ·exact h
   have he : d[m]! = d[m - 1]! := by
    by_cases h : d[m]! = d[m - 1]!
    ·exact h
    ·exact absurd (.inr h) hk
   rw [Lib.keeps_neg hm0 he]
   simp only [Bool.false_eq_true, if_false, List.append_nil]
   refine ⟨h1, fun x => ?_⟩
   rw [h2]
   constructor
   ·rintro ⟨j, hj, e⟩; exact ⟨j, by omega, e⟩
   ·rintro ⟨j, hj, e⟩
    by_cases hjm : j = m
    ·subst hjm; exact ⟨j - 1, by omega, by rw [← he]; exact e⟩
    ·exact ⟨j, by omega, e⟩
theorem compact_rise (zs : List Int) (hs : zs.Pairwise (· ≤ ·)) : (Lib.compact zs).Pairwise (· < ·) ∧ ∀ x, x ∈ Lib.compact zs ↔ x ∈ zs := by
 have hg : ∀ i (hi : i < zs.length), zs.toArray[i]! = zs[i] := fun i hi => by simp [getElem!_pos, hi]
 have h := compactUpTo_rise zs.toArray (fun i j hij hj => by
  have hj' : j < zs.length := by simpa using hj
  rw [hg i (by omega), hg j hj']
  exact List.pairwise_iff_getElem.1 hs i j (by omega) hj' hij) zs.length (by simp)
 refine ⟨h.1, fun x => ?_⟩
 rw [Lib.compact, h.2, List.mem_iff_getElem]
 constructor
 ·rintro ⟨j, hj, e⟩; exact ⟨j, hj, by rw [← hg j hj]; exact e⟩
 ·rintro ⟨j, hj, e⟩; exact ⟨j, hj, by rw [hg j hj]; exact e⟩
theorem sort_rise (zs : List Int) : (zs.mergeSort fun x y => decide (x ≤ y)).Pairwise (· ≤ ·) := by
 have h := List.pairwise_mergeSort (le := fun x y : Int => decide (x ≤ y)) (fun a b c h1 h2 => by simp at *; omega) (fun a b => by simp; omega) zs
 exact h.imp (fun h => of_decide_eq_true h)
theorem sorted_eq (zs r : List Int) (h1 : r.Pairwise (· < ·)) (h2 : ∀ x, x ∈ r ↔ x ∈ zs) : Lib.compact (zs.mergeSort fun x y => decide (x ≤ y)) = r := by
 obtain ⟨h3, h4⟩ := compact_rise _ (sort_rise zs)
 refine rise_ext _ _ h3 h1 (fun x => ?_)
 rw [h4, h2, List.mem_mergeSort]
def varsL (t : List Int) : List Int := t.foldl (fun a n => if n < 0 then putL a (-1 - n) else a) []
def varN (n : Int) : List Int := if n < 0 then [-1 - n] else []
theorem foldl_put (t : List Int) : ∀ a : List Int, a.Pairwise (· < ·) → (t.foldl (fun a n => if n < 0 then putL a (-1 - n) else a) a).Pairwise (· < ·) ∧ ∀ x, x ∈ t.foldl (fun a n => if n < 0 then putL a (-1 - n) else a) a ↔ x ∈ a ∨ x ∈ t.flatMap varN := by
 induction t with
 | nil => intro a ha; exact ⟨ha, fun x => by simp⟩
 | cons n t ih =>
  intro a ha
  rw [List.foldl_cons]
  by_cases hn : n < 0
  ·obtain ⟨h1, h2⟩ := ih (putL a (-1 - n)) (rise_putL _ _ ha)
   simp only [if_pos hn]
   refine ⟨h1, fun x => ?_⟩
   rw [h2, mem_putL, List.flatMap_cons, List.mem_append, varN, if_pos hn, List.mem_singleton]
   constructor
   ·rintro ((h | h) | h)
    ·exact .inr (.inl h)
    ·exact .inl h
    ·exact .inr (.inr h)
   ·rintro (h | h | h)
    ·exact .inl (.inr h)
    ·exact .inl (.inl h)
    ·exact .inr h
  ·obtain ⟨h1, h2⟩ := ih a ha
   simp only [if_neg hn]
   refine ⟨h1, fun x => ?_⟩
   rw [h2, List.flatMap_cons, List.mem_append, varN, if_neg hn]
   simp
theorem varsL_rise (t : List Int) : (varsL t).Pairwise (· < ·) := (foldl_put t [] List.Pairwise.nil).1
theorem mem_varsL (t : List Int) (x : Int) : x ∈ varsL t ↔ x ∈ t.flatMap varN := by
 have := (foldl_put t [] List.Pairwise.nil).2 x
 unfold varsL
 rw [this]
 simp
theorem mem_varN (t : List Int) (x : Int) : x ∈ t.flatMap varN ↔ ∃ n ∈ t, n < 0 ∧ x = -1 - n := by
 rw [List.mem_flatMap]
 constructor
 ·rintro ⟨n, hn, hx⟩
  unfold varN at hx
  by_cases h : n < 0
  ·rw [if_pos h, List.mem_singleton] at hx; exact ⟨n, hn, h, hx⟩
  ·rw [if_neg h] at hx; simp at hx
 ·rintro ⟨n, hn, h, hx⟩
  refine ⟨n, hn, ?_⟩
  unfold varN
  rw [if_pos h, List.mem_singleton]; exact hx
theorem varsL_sorted (t : List Int) : Lib.compact ((t.flatMap varN).mergeSort fun x y => decide (x ≤ y)) = varsL t :=
 sorted_eq _ _ (varsL_rise t) (mem_varsL t)
theorem flatVar_length (t : List Int) : (t.flatMap varN).length ≤ t.length := by
 induction t with
 | nil => simp
 | cons n t ih =>
  rw [List.flatMap_cons, List.length_append, List.length_cons]
  unfold varN
  split
  ·simp only [List.length_singleton]; unfold varN at ih; omega
  ·simp only [List.length_nil]; unfold varN at ih; omega
theorem varsL_length (t : List Int) : (varsL t).length ≤ t.length := by
 have h : ∀ (t a : List Int), (t.foldl (fun a n => if n < 0 then putL a (-1 - n) else a) a).length ≤ a.length + t.length := by
  intro t
  induction t with
  | nil => intro a; simp
  | cons n t ih =>
   intro a
   rw [List.foldl_cons]
   refine Nat.le_trans (ih _) ?_
   by_cases hn : n < 0
   ·have := putL_length (-1 - n) a
    simp only [if_pos hn, List.length_cons]; omega
   ·simp only [if_neg hn, List.length_cons]; omega
 have := h t []
 unfold varsL
 simpa using this
end Go.Proofs.YtcanokiehjjbgaaDoor.Pure
set_option linter.unusedVariables false
namespace Go.Proofs.YtcanokiehjjbgaaDoor.Pure
open Go.RowKit Go.Proofs.YtcanokiehjjbgaaDoor.P Go.Proofs.YtcanokiehjjbgaaDoorW.PrintWords Go.Proofs.YtcanokiehjjbgaaDoorW.PrintLast Go.Proofs.YtcanokiehjjbgaaDoor.Base
theorem l1Put_done (l : List Int) (hl : l.length ≤ 1000) (n : Int) : ∀ (d i : Nat) (ys : List Int), i + d = l.length → ys.length ≤ i + 1 → Ev (fun k => spec_l1Put.l0 k l n ys true (i : Int)) (ys ++ l.drop i) := by
 intro d
 induction d with
 | zero =>
  intro i ys hi hy
  refine ev_succ ?_
  simp only [spec_l1Put.l0]
  exact ev_neg (by omega) (ev_pos trivial (ev_to (ev_some _) (by rw [List.drop_eq_nil_of_le (by omega), List.append_nil])))
 | succ d ih =>
  intro i ys hi hy
  have ha : i < l.length := by omega
  refine ev_succ ?_
  simp only [spec_l1Put.l0]
  refine ev_pos (by omega) (ev_pos trivial (ev_succ ?_))
  simp only [spec_l1Put.j1]
  refine ev_neg (by simp) (ev_pos (by omega) (ev_pos (by omega) (ev_pos (by omega) ?_)))
  rw [wrap_up (by omega), rd_get l i ha]
  refine ev_to (ih (i + 1) (ys ++ [l[i]]) (by omega) (by rw [List.length_append, List.length_singleton]; omega)) ?_
  rw [List.drop_eq_getElem_cons ha, List.append_assoc]; rfl
theorem l1Put_open (l : List Int) (hl : l.length ≤ 1000) (n : Int) : ∀ (d i : Nat) (ys : List Int), i + d = l.length → ys.length ≤ i → Ev (fun k => spec_l1Put.l0 k l n ys false (i : Int)) (ys ++ putL (l.drop i) n) := by
 intro d
 induction d with
 | zero =>
  intro i ys hi hy
  refine ev_succ ?_
  simp only [spec_l1Put.l0]
  refine ev_neg (by omega) (ev_neg (by simp) (ev_pos (by omega) (ev_to (ev_some _) ?_)))
  rw [List.drop_eq_nil_of_le (by omega)]; rfl
 | succ d ih =>
  intro i ys hi hy
  have ha : i < l.length := by omega
  refine ev_succ ?_
  simp only [spec_l1Put.l0]
  refine ev_pos (by omega) (ev_neg (by simp) (ev_pos (by omega) (ev_succ ?_)))
  simp only [spec_l1Put.j1]
  rw [wrap_up (by omega), rd_get l i ha, List.drop_eq_getElem_cons ha, putL]
  by_cases h1 : l[i] ≥ n
  ·rw [if_pos (show n ≤ l[i] from h1)]
   refine ev_pos (decide_eq_true h1) (ev_pos (by omega) (ev_pos (by omega) ?_))
   by_cases h2 : l[i] = n
   ·rw [if_pos h2]
    refine ev_pos h2 (ev_pos (by omega) ?_)
    refine ev_to (l1Put_done l hl n d (i + 1) (ys ++ [l[i]]) (by omega) (by rw [List.length_append, List.length_singleton]; omega)) ?_
    rw [List.append_assoc]; rfl
   ·rw [if_neg h2]
    refine ev_neg h2 (ev_pos (by omega) (ev_bindq rfl (ev_pos (by rw [List.length_append, List.length_singleton]; omega) ?_)))
    refine ev_to (l1Put_done l hl n d (i + 1) (ys ++ [n] ++ [l[i]]) (by omega) (by simp only [List.length_append, List.length_singleton]; omega)) ?_
    rw [List.append_assoc, List.append_assoc]; rfl
  ·rw [if_neg (show ¬ n ≤ l[i] from h1)]
   refine ev_neg (by simpa using h1) (ev_pos (by omega) (ev_pos (by omega) (ev_pos (by omega) ?_)))
   refine ev_to (ih (i + 1) (ys ++ [l[i]]) (by omega) (by rw [List.length_append, List.length_singleton]; omega)) ?_
   rw [List.append_assoc]; rfl
theorem l1Put_ev (l : List Int) (hl : l.length ≤ 1000) (n : Int) : Ev (fun k => spec_l1Put.f k l n) (putL l n) := by
 unfold spec_l1Put.f
 exact l1Put_open l hl n l.length 0 [] (by omega) (by simp)
theorem l3Vars_l0 (t : List Int) (hs : SmallT t) : ∀ (d i : Nat) (a : List Int), i + d = t.length → a.length ≤ i → Ev (fun k => spec_l3Vars.l0 k t a (i : Int)) ((t.drop i).foldl (fun a n => if n < 0 then putL a (-1 - n) else a) a) := by
 have hl := hs.1
 intro d
 induction d with
 | zero =>
  intro i a hi hy
  refine ev_succ ?_
  simp only [spec_l3Vars.l0]
  exact ev_neg (by omega) (ev_to (ev_some _) (by rw [List.drop_eq_nil_of_le (by omega)]; rfl))
 | succ d ih =>
  intro i a hi hy
  have ha : i < t.length := by omega
  have hv := hs.2 i ha
  refine ev_succ ?_
  simp only [spec_l3Vars.l0]
  rw [wrap_up (by omega), rd_get t i ha, List.drop_eq_getElem_cons ha, List.foldl_cons]
  rw [rd_get t i ha] at hv
  refine ev_pos (by omega) (ev_pos (by omega) ?_)
  by_cases hn : t[i] < 0
  ·rw [if_pos hn, wrap_id (by omega) (by omega)]
   have := putL_length (-1 - t[i]) a
   exact ev_pos hn (ev_bind (l1Put_ev a (by omega) _) (ih (i + 1) _ (by omega) (by omega)))
  ·rw [if_neg hn]
   exact ev_neg hn (ih (i + 1) a (by omega) (by omega))
theorem l3Vars_ev (t : List Int) (hs : SmallT t) : Ev (fun k => spec_l3Vars.f k t) (varsL t) := by
 unfold spec_l3Vars.f
 exact l3Vars_l0 t hs t.length 0 [] (by omega) (by simp)
theorem rdV_get (xs : List (List Int)) (i : Nat) (h : i < xs.length) : rd_L6 xs (i : Int) = xs[i] := by
 unfold rd_L6; exact getD_get xs i _ h
theorem varsOf_l1 (ts : List (List Int)) (n : Nat) (i : Nat) (hn : ts.length ≤ 2) (t : List Int) (hs : SmallT t) (r : List Int) : ∀ (d j : Nat) (a : List Int), j + d = t.length → a.length ≤ 24 * i + j →  i < 2 →
  Ev (fun k => impl_varsOf.l0 k (a ++ (t.drop j).flatMap varN) ts (n : Int) ((i + 1 : Nat) : Int)) r → Ev (fun k => impl_varsOf.l1 k a ts (n : Int) (i : Int) t (t.length : Int) (j : Int)) r := by
 have hl := hs.1
 intro d
 induction d with
 | zero =>
  intro j a hj ha hi hr
  refine ev_succ ?_
  simp only [impl_varsOf.l1]
  rw [wrap_up (i := i) (by omega)]
  rw [List.drop_eq_nil_of_le (by omega), List.flatMap_nil, List.append_nil] at hr
  exact ev_neg (by omega) hr
 | succ d ih =>
  intro j a hj ha hi hr
  have hjl : j < t.length := by omega
  have hv := hs.2 j hjl
  refine ev_succ ?_
  simp only [impl_varsOf.l1]
  rw [rd_get t j hjl] at *
  rw [List.drop_eq_getElem_cons hjl, List.flatMap_cons] at hr
  refine ev_pos (by omega) (ev_pos (by omega) (ev_pos (by omega) ?_))
  rw [wrap_up (i := j) (by omega)]
  by_cases hneg : t[j] < 0
  ·rw [wrap_id (by omega) (by omega)]
   unfold varN at hr
   rw [if_pos hneg, ← List.append_assoc] at hr
   exact ev_pos hneg (ev_pos (by omega) (ih (j + 1) _ (by omega) (by rw [List.length_append, List.length_singleton]; omega) hi hr))
  ·unfold varN at hr
   rw [if_neg hneg, List.nil_append] at hr
   exact ev_neg hneg (ih (j + 1) _ (by omega) (by omega) hi hr)
theorem varsOf_l0 (ts : List (List Int)) (hn : ts.length ≤ 2) (hs : ∀ t ∈ ts, SmallT t) : ∀ (d i : Nat) (a : List Int), i + d = ts.length → a.length ≤ 24 * i →
  Ev (fun k => impl_varsOf.l0 k a ts (ts.length : Int) (i : Int)) (Lib.compact ((a ++ (ts.drop i).flatMap (fun t => t.flatMap varN)).mergeSort fun x y => decide (x ≤ y))) := by
 intro d
 induction d with
 | zero =>
  intro i a hi ha
  refine ev_succ ?_
  simp only [impl_varsOf.l0]
  rw [List.drop_eq_nil_of_le (by omega), List.flatMap_nil, List.append_nil]
  have hsl : (a.mergeSort fun x y => decide (x ≤ y)).length = a.length := List.length_mergeSort a
  refine ev_neg (by omega) (ev_bindq (a := a.mergeSort fun x y => decide (x ≤ y)) ?_ (ev_bindq (a := Lib.compact (a.mergeSort fun x y => decide (x ≤ y))) ?_ (ev_some _)))
  ·unfold slices_Sort_int64_int64.f
   exact if_pos (by omega)
  ·unfold slices_Compact_int64_int64.f
   exact if_pos ⟨by omega, Lib.compact_length_le _⟩
 | succ d ih =>
  intro i a hi ha
  have hil : i < ts.length := by omega
  have hst := hs _ (List.getElem_mem hil)
  refine ev_succ ?_
  simp only [impl_varsOf.l0]
  rw [rdV_get ts i hil]
  refine ev_pos (by omega) (ev_pos (by omega) (ev_pos (by omega) ?_))
  refine varsOf_l1 ts ts.length i hn ts[i] hst _ ts[i].length 0 a (by omega) (by omega) (by omega) ?_
  rw [List.drop_zero]
  have hfl := flatVar_length ts[i]
  have hl := hst.1
  refine ev_to (ih (i + 1) _ (by omega) (by rw [List.length_append]; omega)) ?_
  rw [List.drop_eq_getElem_cons hil, List.flatMap_cons, List.append_assoc]
theorem varsOf_ev (ts : List (List Int)) (hn : ts.length ≤ 2) (hs : ∀ t ∈ ts, SmallT t) : Ev (fun k => impl_varsOf.f k ts) (Lib.compact ((ts.flatMap (fun t => t.flatMap varN)).mergeSort fun x y => decide (x ≤ y))) := by
 unfold impl_varsOf.f
 exact varsOf_l0 ts hn hs ts.length 0 [] (by omega) (by simp)
def varsR (l : List S110) (t : List Int) : Int × List Int := if termF l t = 0 then (0, varsL t) else (termF l t, [])
theorem VarsOf_spec (l : List S110) (t : List Int) (ht : t.length ≤ 1048576) : Ev (fun k => spec_VarsOf.f k l t) (varsR l t) := by
 unfold spec_VarsOf.f varsR
 exact ev_bind (TermFault_spec l t ht) (ev_ite (fun h => ev_bind (l3Vars_ev t (smallT_of (rightT_of h))) (ev_some _)) (fun h => ev_some _))
theorem VarsOf_impl (l : List S110) (t : List Int) (ht : t.length ≤ 1048576) : Ev (fun k => impl_VarsOf.f k l t) (varsR l t) := by
 unfold impl_VarsOf.f varsR
 refine ev_bind (TermFault_impl l t ht) (ev_ite (fun h => ?_) (fun h => ev_some _))
 have hv := varsOf_ev [t] (by simp) (fun x hx => by rw [List.mem_singleton] at hx; subst hx; exact smallT_of (rightT_of h))
 rw [List.flatMap_cons, List.flatMap_nil, List.append_nil, varsL_sorted] at hv
 exact ev_bind hv (ev_some _)
end Go.Proofs.YtcanokiehjjbgaaDoor.Pure
set_option linter.unusedVariables false
namespace Go.Proofs.YtcanokiehjjbgaaDoor.Pure
open Go.RowKit Go.Proofs.YtcanokiehjjbgaaDoor.P Go.Proofs.YtcanokiehjjbgaaDoorW.PrintWords Go.Proofs.YtcanokiehjjbgaaDoorW.PrintLast Go.Proofs.YtcanokiehjjbgaaDoor.Base
def cntN (n : Int) : List Int → Nat
 | [] => 0
 | x :: xs => (if x = n then 1 else 0) + cntN n xs
theorem CountOf_l0 (t : List Int) (n : Int) (ht : t.length ≤ 1048576) : ∀ (d i c : Nat), i + d = t.length → c ≤ i → Ev (fun k => impl_CountOf.l0 k n (c : Int) t (t.length : Int) (i : Int)) (0, ((c + cntN n (t.drop i) : Nat) : Int)) := by
 intro d
 induction d with
 | zero =>
  intro i c hi hc
  refine ev_succ ?_
  simp only [impl_CountOf.l0]
  refine ev_neg (by omega) (ev_to (ev_some _) ?_)
  rw [List.drop_eq_nil_of_le (by omega)]; rfl
 | succ d ih =>
  intro i c hi hc
  refine ev_succ ?_
  simp only [impl_CountOf.l0]
  refine ev_pos (by omega) (ev_pos (by omega) (ev_pos (by omega) ?_))
  rw [rd_drop t i (by omega), wrap_up (by omega), wrap_up (by omega)]
  by_cases h : rd t (i : Int) = n
  ·refine ev_pos h (ev_to (ih (i + 1) (c + 1) (by omega) (by omega)) ?_)
   simp only [cntN, if_pos h, Prod.mk.injEq, true_and]; omega
  ·refine ev_neg h (ev_to (ih (i + 1) c (by omega) (by omega)) ?_)
   simp only [cntN, if_neg h, Prod.mk.injEq, true_and]; omega
def countR (l : List S110) (t : List Int) (n : Int) : Int × Int := if termF l t = 0 then (if nodeB l n = true then (0, (cntN n t : Int)) else (3, 0)) else (termF l t, 0)
theorem CountOf_impl (l : List S110) (t : List Int) (ht : t.length ≤ 1048576) (n : Int) : Ev (fun k => impl_CountOf.f k l t n) (countR l t n) := by
 unfold impl_CountOf.f countR
 refine ev_bind (TermFault_impl l t ht) (ev_ite (fun h => ?_) (fun h => ev_some _))
 have hl := (rightT_of h).sig.len
 refine ev_bindq (isNode_eq l (by omega) n) (ev_ite (fun hs => ?_) (fun hs => ev_some _))
 have := CountOf_l0 t n ht t.length 0 0 (by omega) (by omega)
 exact ev_to this (by simp)
end Go.Proofs.YtcanokiehjjbgaaDoor.Pure
set_option linter.unusedVariables false
namespace Go.Proofs.YtcanokiehjjbgaaDoor.Pure
open Go.RowKit Go.Proofs.YtcanokiehjjbgaaDoorW.PrintWords Go.Proofs.YtcanokiehjjbgaaDoor.Base
def argsN (ar : Int → Nat) (t : List Int) : Nat → Nat → List Nat
 | 0, _ => []
 | m + 1, e => e :: (match endN ar t 1 e with
  | some e' => argsN ar t m e'
  | none => [])
theorem argsN_succ {ar : Int → Nat} {t : List Int} {m e e' : Nat} (h : endN ar t 1 e = some e') : argsN ar t (m + 1) e = e :: argsN ar t m e' := by
 rw [argsN, h]
theorem endN_sub (ar : Int → Nat) (t : List Int) (h : endN ar t 1 0 = some t.length) : ∀ at_, at_ < t.length → ∃ e, endN ar t 1 at_ = some e := by
 have key : ∀ (t : List Int) (k at_ : Nat) (u : List Int), skipN ar (k + 1) t = some u → at_ + u.length < t.length → ∃ v, skipN ar 1 (t.drop at_) = some v := by
  intro t
  induction t with
  | nil => intro k at_ u h hl; simp at hl
  | cons n t ih =>
   intro k at_ u h hl
   cases at_ with
   | zero =>
    rw [skipN_succ] at h
    cases hs : skipN ar 1 (n :: t) with
    | none => rw [hs] at h; cases h
    | some v => exact ⟨v, hs⟩
   | succ a =>
    rw [skipN_cons] at h
    rw [List.drop_succ_cons]
    simp only [List.length_cons] at hl
    cases hm : k + ar n with
    | zero =>
     rw [hm, skipN_zero] at h
     obtain rfl := Option.some.inj h
     omega
    | succ m =>
     rw [hm] at h
     exact ih m a u h (by omega)
 intro at_ hat
 unfold endN at h
 cases hs : skipN ar 1 (t.drop 0) with
 | none => rw [hs] at h; cases h
 | some u =>
  rw [hs] at h
  have hu : t.length - u.length = t.length := Option.some.inj h
  obtain ⟨d, e, hd, hk⟩ := skipN_suffix ar _ _ _ hs
  rw [List.drop_zero] at hs e hd
  have hul : u.length = t.length - d := by rw [e, List.length_drop]
  obtain ⟨v, hv⟩ := key t 0 at_ u hs (by omega)
  exact ⟨t.length - v.length, by unfold endN; rw [hv]; rfl⟩
def argsAt (ar : Int → Nat) (t : List Int) (a : Nat) : List Nat := argsN ar t (ar (rd t (a : Int))) (a + 1)
def maxN : List Nat → Nat
 | [] => 0
 | x :: xs => max x (maxN xs)
def depN (ar : Int → Nat) (t : List Int) : Nat → Nat → Nat
 | 0, _ => 0
 | f + 1, a => maxN ((argsAt ar t a).map (depN ar t f)) + 1
theorem argsN_bound {ar : Int → Nat} {t : List Int} : ∀ (m e e' : Nat), e ≤ t.length → endN ar t m e = some e' → (argsN ar t m e).length = m ∧ ∀ p ∈ argsN ar t m e, e ≤ p ∧ p < t.length ∧ ∃ q, endN ar t 1 p = some q
 | 0, e, e', he, h => ⟨rfl, fun p hp => by cases hp⟩
 | m + 1, e, e', he, h => by
  rw [show m + 1 = 1 + m by omega, endN_add ar t 1 m e he] at h
  cases h1 : endN ar t 1 e with
  | none => rw [h1] at h; cases h
  | some q =>
   rw [h1] at h
   simp only [Option.bind_some] at h
   obtain ⟨_, b1, b2⟩ := endN_some he h1
   obtain ⟨i1, i2⟩ := argsN_bound m q e' b2 h
   rw [argsN_succ h1]
   refine ⟨by rw [List.length_cons, i1], fun p hp => ?_⟩
   rcases List.mem_cons.1 hp with rfl | hp
   ·exact ⟨Nat.le_refl _, by omega, q, h1⟩
   ·obtain ⟨c1, c2, c3⟩ := i2 p hp
    exact ⟨by omega, c2, c3⟩
theorem endN_args {ar : Int → Nat} {t : List Int} {a e : Nat} (ha : a < t.length) (h : endN ar t 1 a = some e) : endN ar t (ar (rd t (a : Int))) (a + 1) = some e := by
 rw [endN_step ar t 0 a ha, ← rd_get t a ha, Nat.zero_add] at h
 exact h
theorem argsAt_bound {ar : Int → Nat} {t : List Int} {a e : Nat} (ha : a < t.length) (h : endN ar t 1 a = some e) :
  (argsAt ar t a).length = ar (rd t (a : Int)) ∧ ∀ p ∈ argsAt ar t a, a < p ∧ p < t.length ∧ ∃ q, endN ar t 1 p = some q := by
 obtain ⟨h1, h2⟩ := argsN_bound (ar (rd t (a : Int))) (a + 1) e (by omega) (endN_args ha h)
 exact ⟨h1, fun p hp => by obtain ⟨x, y, z⟩ := h2 p hp; exact ⟨by omega, y, z⟩⟩
theorem depN_more {ar : Int → Nat} {t : List Int} : ∀ (f g a e : Nat), a < t.length → endN ar t 1 a = some e → t.length - a ≤ f → t.length - a ≤ g → depN ar t f a = depN ar t g a
 | 0, g, a, e, ha, h, hf, hg => by omega
 | f + 1, 0, a, e, ha, h, hf, hg => by omega
 | f + 1, g + 1, a, e, ha, h, hf, hg => by
  obtain ⟨_, hb⟩ := argsAt_bound ha h
  rw [depN, depN]
  congr 2
  refine List.map_congr_left fun p hp => ?_
  obtain ⟨b1, b2, q, hq⟩ := hb p hp
  exact depN_more f g p q b2 hq (by omega) (by omega)
end Go.Proofs.YtcanokiehjjbgaaDoor.Pure
set_option linter.unusedVariables false
namespace Go.Proofs.YtcanokiehjjbgaaDoor.Pure
open Go.RowKit Go.Proofs.YtcanokiehjjbgaaDoor.P Go.Proofs.YtcanokiehjjbgaaDoorW.PrintWords Go.Proofs.YtcanokiehjjbgaaDoorW.PrintLast Go.Proofs.YtcanokiehjjbgaaDoorW.PrintMore Go.Proofs.YtcanokiehjjbgaaDoor.Base
theorem depN_eq {ar : Int → Nat} {t : List Int} {a e : Nat} (ha : a < t.length) (h : endN ar t 1 a = some e) : depN ar t t.length a = maxN ((argsAt ar t a).map (depN ar t t.length)) + 1 := by
 obtain ⟨L, hL⟩ : ∃ L, t.length = L + 1 := ⟨t.length - 1, by omega⟩
 obtain ⟨_, hb⟩ := argsAt_bound ha h
 rw [hL, depN]
 congr 2
 refine List.map_congr_left fun p hp => ?_
 obtain ⟨b1, b2, q, hq⟩ := hb p hp
 exact depN_more L (L + 1) p q b2 hq (by omega) (by omega)
theorem depN_le {ar : Int → Nat} {t : List Int} : ∀ f a, depN ar t f a ≤ f
 | 0, _ => Nat.le_refl _
 | f + 1, a => by
  rw [depN]
  have : ∀ xs : List Nat, maxN (xs.map (depN ar t f)) ≤ f := by
   intro xs
   induction xs with
   | nil => exact Nat.zero_le _
   | cons x xs ih => exact Nat.max_le.2 ⟨depN_le f x, ih⟩
  have := this (argsAt ar t a)
  omega
theorem argumentsOf_l0 (l : List S110) (hr : Right l) (t : List Int) (ht : t.length ≤ 1048576) (hn : Nodes l t) (n : Nat) : ∀ (m i e e' : Nat) (acc : List Int), i + m = n → n ≤ 2 → e ≤ t.length → endN (arL l) t m e = some e' → acc.length ≤ 1000 + i →
  Ev (fun k => impl_argumentsOf.l0 k t acc (e : Int) (n : Int) (i : Int) l) (acc ++ (argsN (arL l) t m e).map fun p : Nat => (p : Int)) := by
 intro m
 induction m with
 | zero =>
  intro i e e' acc hi hn2 he hE hacc
  refine ev_succ ?_
  simp only [impl_argumentsOf.l0]
  refine ev_neg (by omega) (ev_to (ev_some _) ?_)
  simp [argsN]
 | succ m ihm =>
  intro i e e' acc hi hn2 he hE hacc
  refine ev_succ ?_
  simp only [impl_argumentsOf.l0]
  rw [show m + 1 = 1 + m by omega, endN_add _ _ 1 m e he] at hE
  cases h1 : endN (arL l) t 1 e with
  | none => rw [h1] at hE; cases hE
  | some q =>
   rw [h1] at hE
   simp only [Option.bind_some] at hE
   obtain ⟨_, b1, b2⟩ := endN_some he h1
   have hend := endOf_ev l hr t ht hn e he
   rw [h1] at hend
   refine ev_pos (by omega) (ev_pos (by omega) (ev_bind hend ?_))
   rw [wrap_up (by omega), argsN_succ h1]
   refine ev_to (ihm (i + 1) q e' (acc ++ [(e : Int)]) (by omega) hn2 b2 hE (by simp; omega)) ?_
   simp
theorem argumentsOf_ev (l : List S110) (hr : Right l) (t : List Int) (ht : t.length ≤ 1048576) (hn : Nodes l t) (a e : Nat) (ha : a < t.length) (he : endN (arL l) t 1 a = some e) :
  Ev (fun k => impl_argumentsOf.f k l t (a : Int)) ((argsAt (arL l) t a).map fun p : Nat => (p : Int)) := by
 unfold impl_argumentsOf.f
 refine ev_pos (by omega) (ev_pos (by omega) (ev_bindq (arityOf_eq l hr _ (hn a ha)) ?_))
 rw [wrap_up (by omega)]
 have := argumentsOf_l0 l hr t ht hn (arL l (rd t (a : Int))) (arL l (rd t (a : Int))) 0 (a + 1) e [] (by omega) (arL_le hr (hn a ha)) (by omega) (endN_args ha he) (by simp)
 exact ev_to this (by simp [argsAt])
theorem depthAt_ev (l : List S110) (hr : Right l) (t : List Int) (ht : t.length ≤ 1048576) (hn : Nodes l t) : ∀ (d a : Nat), a + d = t.length → a < t.length → (∃ e, endN (arL l) t 1 a = some e) →
  Ev (fun k => impl_depthAt.f k l t (a : Int)) (depN (arL l) t t.length a : Int) := by
 intro d
 induction d using Nat.strongRecOn with
 | _ d ih =>
  intro a hd ha ⟨e, he⟩
  refine ev_succ ?_
  simp only [impl_depthAt.f]
  refine ev_bind (argumentsOf_ev l hr t ht hn a e ha he) ?_
  obtain ⟨hlen, hb⟩ := argsAt_bound ha he
  have hps : (argsAt (arL l) t a).length ≤ 2 := by rw [hlen]; exact arL_le hr (hn a ha)
  rw [depN_eq ha he]
  generalize argsAt (arL l) t a = ps at hb hps
  have key : ∀ (r i x : Nat), i + r = ps.length → x ≤ t.length → Ev (fun k => impl_depthAt.l0 k t (x : Int) (ps.map fun p : Nat => (p : Int)) ((ps.map fun p : Nat => (p : Int)).length : Int) (i : Int) l) ((max x (maxN ((ps.drop i).map (depN (arL l) t t.length))) + 1 : Nat) : Int) := by
   intro r
   induction r with
   | zero =>
    intro i x hi hx
    refine ev_succ ?_
    simp only [impl_depthAt.l0, List.length_map]
    refine ev_neg (by omega) ?_
    rw [wrap_up (by omega), List.drop_eq_nil_of_le (by omega)]
    exact ev_to (ev_some _) (by simp [maxN])
   | succ r ihr =>
    intro i x hi hx
    have hi' : i < ps.length := by omega
    obtain ⟨b1, b2, b3⟩ := hb ps[i] (List.getElem_mem hi')
    have hdl := depN_le (ar := arL l) (t := t) t.length ps[i]
    refine ev_succ ?_
    simp only [impl_depthAt.l0, List.length_map]
    refine ev_pos (by omega) (ev_pos (by omega) (ev_pos (by omega) ?_))
    rw [rd_get (ps.map fun p : Nat => (p : Int)) i (by rw [List.length_map]; exact hi'), List.getElem_map]
    refine ev_bind (ih (t.length - ps[i]) (by omega) ps[i] (by omega) b2 b3) ?_
    have hmx : mx (x : Int) (depN (arL l) t t.length ps[i] : Int) = ((max x (depN (arL l) t t.length ps[i]) : Nat) : Int) := by
     unfold mx; split <;> omega
    rw [hmx, wrap_up (by omega)]
    have := ihr (i + 1) (max x (depN (arL l) t t.length ps[i])) (by omega) (by omega)
    simp only [List.length_map] at this
    refine ev_to this ?_
    rw [List.drop_eq_getElem_cons hi']
    simp only [List.map_cons, maxN]
    congr 2; omega
  have := key ps.length 0 0 (by omega) (by omega)
  refine ev_to this ?_
  simp
def depthR (l : List S110) (t : List Int) : Int × Int := if termF l t = 0 then (0, (depN (arL l) t t.length 0 : Int)) else (termF l t, 0)
theorem DepthOf_impl (l : List S110) (t : List Int) (ht : t.length ≤ 1048576) : Ev (fun k => impl_DepthOf.f k l t) (depthR l t) := by
 unfold impl_DepthOf.f depthR
 refine ev_bind (TermFault_impl l t ht) (ev_ite (fun h => ?_) (fun h => ev_some _))
 have hr := rightT_of h
 have hl := hr.len
 exact ev_bind (depthAt_ev l hr.sig t ht hr.nodes t.length 0 (by omega) (by omega) ⟨_, hr.whole⟩) (ev_some _)
end Go.Proofs.YtcanokiehjjbgaaDoor.Pure
set_option linter.unusedVariables false
namespace Go.Proofs.YtcanokiehjjbgaaDoor.Pure
open Go.RowKit Go.Proofs.YtcanokiehjjbgaaDoor.P Go.Proofs.YtcanokiehjjbgaaDoorW.PrintWords Go.Proofs.YtcanokiehjjbgaaDoorW.PrintLast Go.Proofs.YtcanokiehjjbgaaDoor.Base
def varsB (t : List Int) : Bool := (firstN (fun j => decide (rd t (j : Int) < 0)) t.length 0).isSome
theorem hasVars_ev (t : List Int) (ht : t.length ≤ 1048576) : Ev (fun k => impl_hasVars.f k t) (varsB t) := by
 unfold impl_hasVars.f slices_ContainsFunc_int64_int64_impl_hasVars_1.f slices_IndexFunc_int64_int64_impl_hasVars_1.f
 refine ev_bind (a := varsB t) ?_ (ev_some _)
 have h := loop_scan t.length (fun j => if decide (rd t (j : Int) < 0) = true then some (j : Int) else none) (-1) (fun k i => slices_IndexFunc_int64_int64_impl_hasVars_1.l0 k t (t.length : Int) i)
  (by simp only [slices_IndexFunc_int64_int64_impl_hasVars_1.l0]; exact ev_neg (by omega) (ev_some _))
  (fun i hi r hr => by
   simp only [slices_IndexFunc_int64_int64_impl_hasVars_1.l0]
   refine ev_pos (by omega) (ev_pos (by omega) (ev_pos (by omega) (ev_bindq rfl ?_)))
   rw [wrap_up (by omega)]
   by_cases h : decide (rd t (i : Int) < 0) = true
   ·rw [if_pos h]; exact ev_pos h (ev_some _)
   ·rw [if_neg h]; exact ev_neg h hr)
  t.length 0 (by omega)
 rw [scanN_first (fun j => decide (rd t (j : Int) < 0)) (fun j => (j : Int)) (-1)] at h
 refine ev_bind h (ev_to (ev_some _) ?_)
 unfold varsB
 cases firstN (fun j => decide (rd t (j : Int) < 0)) t.length 0 with
 | none => rfl
 | some j => simp
end Go.Proofs.YtcanokiehjjbgaaDoor.Pure
set_option linter.unusedVariables false
namespace Go.Proofs.YtcanokiehjjbgaaDoor.Pure
open Go.RowKit Go.Proofs.YtcanokiehjjbgaaDoor.P Go.Proofs.YtcanokiehjjbgaaDoorW.PrintWords Go.Proofs.YtcanokiehjjbgaaDoorW.PrintLast Go.Proofs.YtcanokiehjjbgaaDoor.Base
def groundR (l : List S110) (t : List Int) : Bool := if termF l t = 0 then !varsB t else false
theorem IsGround_implG (l : List S110) (t : List Int) (ht : t.length ≤ 1048576) : Ev (fun k => impl_IsGround.f k l t) (groundR l t) := by
 unfold impl_IsGround.f groundR
 exact ev_bind (TermFault_impl l t ht) (ev_ite (fun h => ev_bind (hasVars_ev t ht) (ev_some _)) (fun h => ev_some _))
end Go.Proofs.YtcanokiehjjbgaaDoor.Pure
set_option linter.unusedVariables false
namespace Go.Proofs.YtcanokiehjjbgaaDoor.Pure
open Go.RowKit Go.Proofs.YtcanokiehjjbgaaDoorW.PrintWords Go.Proofs.YtcanokiehjjbgaaDoor.Base
def Whole (ar : Int → Nat) (t : List Int) : Prop := skipN ar 1 t = some []
theorem whole_iff {ar : Int → Nat} {t : List Int} : endN ar t 1 0 = some t.length ↔ Whole ar t := by
 constructor
 ·intro h
  obtain ⟨h1, _, _⟩ := endN_some (by omega) h
  rw [List.drop_zero, List.drop_length] at h1
  exact h1
 ·intro h
  unfold endN
  rw [List.drop_zero, h]
  simp
end Go.Proofs.YtcanokiehjjbgaaDoor.Pure
set_option linter.unusedVariables false
namespace Go.Proofs.YtcanokiehjjbgaaDoor.Pure
open Go.RowKit Go.Proofs.YtcanokiehjjbgaaDoor.P Go.Proofs.YtcanokiehjjbgaaDoorW.PrintWords Go.Proofs.YtcanokiehjjbgaaDoorW.PrintLast Go.Proofs.YtcanokiehjjbgaaDoor.Base
theorem nodes_iff {l : List S110} {t : List Int} : Nodes l t ↔ ∀ n ∈ t, nodeB l n = true := by
 constructor
 ·intro h n hn
  obtain ⟨j, hj, rfl⟩ := List.mem_iff_getElem.1 hn
  have := h j hj
  rwa [rd_get t j hj] at this
 ·intro h i hi
  exact h _ (rd_mem t i hi)
theorem right_parts {l : List S110} {t : List Int} (h : termF l t = 0) : 1 ≤ t.length ∧ t.length ≤ 24 ∧ (∀ n ∈ t, nodeB l n = true) ∧ Whole (arL l) t := by
 have hr := rightT_of h
 exact ⟨hr.len.1, hr.len.2, nodes_iff.1 hr.nodes, whole_iff.1 hr.whole⟩
end Go.Proofs.YtcanokiehjjbgaaDoor.Pure
set_option linter.unusedVariables false
namespace Go.Proofs.YtcanokiehjjbgaaDoor.Pure
open Go.RowKit Go.Proofs.YtcanokiehjjbgaaDoor.P Go.Proofs.YtcanokiehjjbgaaDoorW.PrintWords Go.Proofs.YtcanokiehjjbgaaDoorW.PrintLast Go.Proofs.YtcanokiehjjbgaaDoor.Base
def placeB (t : List Int) (a : Int) : Bool := decide (0 ≤ a ∧ a ≤ (t.length : Int) - 1)
def placeF (l : List S110) (t : List Int) (a : Int) : Int := if termF l t = 0 then (if placeB t a = true then 0 else 3) else termF l t
theorem placeFault_ev (l : List S110) (t : List Int) (ht : t.length ≤ 1048576) (a : Int) : Ev (fun k => impl_placeFault.f k l t a) (placeF l t a) := by
 unfold impl_placeFault.f placeF
 refine ev_bind (TermFault_impl l t ht) (ev_ite (fun h => ?_) (fun h => ev_some _))
 refine ev_bindq (a := placeB t a) ?_ (ev_ite (fun _ => ev_some _) (fun _ => ev_some _))
 rw [within_eq, wrap_id (by omega) (by omega)]; rfl
def endAt (l : List S110) (t : List Int) (a : Nat) : Nat := (endN (arL l) t 1 a).getD 0
theorem end_both {l : List S110} {t : List Int} (h : termF l t = 0) {a : Int} (ha : placeB t a = true) :
  ∃ i : Nat, a = (i : Int) ∧ i < t.length ∧ i < endAt l t i ∧ endAt l t i ≤ t.length ∧ Ev (fun k => spec_l3End.f k [(⟨l⟩ : S26)] t (i : Int)) (endAt l t i : Int) ∧ Ev (fun k => impl_endOf.f k l t (i : Int)) (endAt l t i : Int) := by
 have hr := rightT_of h
 have hl := hr.len
 have hs := of_decide_eq_true ha
 obtain ⟨i, rfl⟩ := Int.eq_ofNat_of_zero_le hs.1
 obtain ⟨e, he⟩ := endN_sub _ t hr.whole i (by omega)
 obtain ⟨_, h1, h2⟩ := endN_some (by omega) he
 have e1 := l3End_ev l hr.sig t (by omega) hr.nodes (t.length - i) i (by omega)
 have e2 := endOf_ev l hr.sig t (by omega) hr.nodes i (by omega)
 rw [he] at e1 e2
 refine ⟨i, rfl, by omega, ?_, ?_, ?_, ?_⟩
 ·unfold endAt; rw [he]; exact h1
 ·unfold endAt; rw [he]; exact h2
 ·unfold endAt; rw [he]; exact e1
 ·unfold endAt; rw [he]; exact e2
def subL (l : List S110) (t : List Int) (a : Int) : List Int := (t.take (endAt l t a.toNat)).drop a.toNat
end Go.Proofs.YtcanokiehjjbgaaDoor.Pure
set_option linter.unusedVariables false
namespace Go.Proofs.YtcanokiehjjbgaaDoor.Pure
open Go.RowKit Go.Proofs.YtcanokiehjjbgaaDoor.P Go.Proofs.YtcanokiehjjbgaaDoorW.PrintWords Go.Proofs.YtcanokiehjjbgaaDoorW.PrintLast Go.Proofs.YtcanokiehjjbgaaDoor.Base
def siR (l : List S110) (t : List Int) (a : Int) : Int × Int := if termF l t = 0 then (if placeB t a = true then (0, ((subL l t a).length : Int)) else (3, 0)) else (termF l t, 0)
theorem SizeAt_si (l : List S110) (t : List Int) (ht : t.length ≤ 1048576) (a : Int) : Ev (fun k => impl_SizeAt.f k l t a) (siR l t a) := by
 unfold impl_SizeAt.f siR
 refine ev_bind (placeFault_ev l t ht a) ?_
 unfold placeF
 by_cases h : termF l t = 0
 ·simp only [if_pos h]
  by_cases ha : placeB t a = true
  ·simp only [if_pos ha]
   refine ev_pos trivial ?_
   obtain ⟨i, rfl, h0, h1, h2, e1, e2⟩ := end_both h ha
   refine ev_bind (a := subL l t (i : Int)) ?_ (ev_some _)
   unfold impl_subterm.f subL
   refine ev_bind e2 (ev_pos (by omega) (ev_pos (by omega) (ev_pos (by omega) ?_)))
   rw [Int.toNat_natCast, Int.toNat_natCast]
   exact ev_some _
  ·simp only [if_neg ha]
   exact ev_neg (by omega) (ev_some _)
 ·simp only [if_neg h]
  exact ev_some _
end Go.Proofs.YtcanokiehjjbgaaDoor.Pure
set_option linter.unusedVariables false
namespace Go.Proofs.YtcanokiehjjbgaaDoor.Pure
open Go.RowKit Go.Proofs.YtcanokiehjjbgaaDoor.P Go.Proofs.YtcanokiehjjbgaaDoorW.PrintWords Go.Proofs.YtcanokiehjjbgaaDoorW.PrintLast Go.Proofs.YtcanokiehjjbgaaDoor.Base
theorem lwNums_l0 (a b : List Int) (hab : a.length = b.length) (hl : a.length ≤ 9223372036854775807) : ∀ (d i : Nat), i + d = a.length → Ev (fun k => laws_lwNums.l0 k a b (i : Int)) (decide (a.drop i = b.drop i)) := by
 intro d
 induction d with
 | zero =>
  intro i hi
  refine ev_succ ?_
  simp only [laws_lwNums.l0]
  refine ev_neg (by omega) ?_
  rw [List.drop_eq_nil_of_le (by omega), List.drop_eq_nil_of_le (by omega)]
  exact ev_some _
 | succ d ih =>
  intro i hi
  refine ev_succ ?_
  simp only [laws_lwNums.l0]
  refine ev_pos (by omega) (ev_pos (by omega) (ev_pos (by omega) ?_))
  rw [rd_drop a i (by omega), rd_drop b i (by omega)]
  by_cases h : rd a (i : Int) = rd b (i : Int)
  ·refine ev_pos h ?_
   rw [wrap_up (by omega)]
   refine ev_to (ih (i + 1) (by omega)) ?_
   simp [h]
  ·refine ev_neg h ?_
   refine ev_to (ev_some _) ?_
   simp [h]
theorem lwNums_ev (a b : List Int) (hl : a.length ≤ 9223372036854775807) : Ev (fun k => laws_lwNums.f k a b) (decide (a = b)) := by
 unfold laws_lwNums.f
 by_cases h : a.length = b.length
 ·refine ev_pos (by omega) ?_
  exact lwNums_l0 a b h hl a.length 0 (by omega)
 ·refine ev_neg (by omega) ?_
  refine ev_to (ev_some _) ?_
  have : ¬ a = b := fun e => h (by rw [e])
  simp [this]
theorem lwNums_same (a : List Int) (hl : a.length ≤ 9223372036854775807) : Ev (fun k => laws_lwNums.f k a a) true := ev_to (lwNums_ev a a hl) (by simp)
end Go.Proofs.YtcanokiehjjbgaaDoor.Pure
set_option linter.unusedVariables false
namespace Go.Proofs.YtcanokiehjjbgaaDoor.Pure
open Go.RowKit Go.Proofs.YtcanokiehjjbgaaDoorW.PrintWords Go.Proofs.YtcanokiehjjbgaaDoorW.PrintLast Go.Proofs.YtcanokiehjjbgaaDoor.Base
def Byte (x : Int) : Prop := 0 ≤ x ∧ x ≤ 255
theorem rd_byte {xs : List Int} (hx : ∀ x ∈ xs, Byte x) (i : Int) (h0 : 0 ≤ i) (h1 : i < xs.length) : Byte (rd xs i) := by
 have := hx _ (rd_mem xs i.toNat (by omega))
 rwa [Int.toNat_of_nonneg h0] at this
end Go.Proofs.YtcanokiehjjbgaaDoor.Pure
set_option linter.unusedVariables false
namespace Go.Proofs.YtcanokiehjjbgaaDoor.Pure
open Go.RowKit Go.Proofs.YtcanokiehjjbgaaDoor.P Go.Proofs.YtcanokiehjjbgaaDoorW.PrintWords Go.Proofs.YtcanokiehjjbgaaDoorW.PrintLast Go.Proofs.YtcanokiehjjbgaaDoor.Base
theorem tmod_in {x n : Int} (hx : 0 ≤ x) (hn : 1 ≤ n) : 0 ≤ Int.tmod x n ∧ Int.tmod x n < n := by
 rw [Int.tmod_eq_emod_of_nonneg hx]
 exact ⟨Int.emod_nonneg _ (by omega), Int.emod_lt_of_pos _ (by omega)⟩
structure Code (c : List Int) : Prop where
 bytes : ∀ x ∈ c, Byte x
 len : c.length ≤ 2000000
theorem l1Next_ex {c : List Int} (hc : Code c) {a n : Int} (ha : 0 ≤ a) (ha' : a ≤ 1000000000000) (hn : n ≤ 1000000) :
  ∃ v, spec_l1Next.f c a n = some (v, a + 1) ∧ (n < 1 → v = 0) ∧ (1 ≤ n → 0 ≤ v ∧ v < n) := by
 unfold spec_l1Next.f
 have e1 : wrap64 (a + 1) = a + 1 := wrap_id (by omega) (by omega)
 have e2 : wrap64 (a + 1 - 1) = a := by rw [wrap_id (by omega) (by omega)]; omega
 simp only [e1, e2]
 by_cases h1 : n < 1
 ·rw [if_pos h1]
  exact ⟨0, rfl, fun _ => rfl, fun h => by omega⟩
 rw [if_neg h1]
 have hl := hc.len
 by_cases h2 : (c.length : Int) = 0
 ·rw [if_pos h2, if_neg (by omega), wrap_id (x := a * 7) (by omega) (by omega)]
  exact ⟨_, rfl, fun h => by omega, fun h => tmod_in (by omega) h⟩
 rw [if_neg h2]
 have hp : 0 < (c.length : Int) := by omega
 obtain ⟨m0, m1⟩ := tmod_in (x := a) (n := (c.length : Int)) ha (by omega)
 have hb := rd_byte hc.bytes _ m0 m1
 have hq : 0 ≤ Int.tdiv a (c.length : Int) ∧ Int.tdiv a (c.length : Int) ≤ a := by
  rw [Int.tdiv_eq_ediv_of_nonneg ha]
  exact ⟨Int.ediv_nonneg ha (by omega), Int.ediv_le_self _ ha⟩
 rw [if_pos m0, if_pos m1]
 generalize rd c (Int.tmod a (c.length : Int)) = b at *
 generalize Int.tdiv a (c.length : Int) = q at *
 unfold Byte at hb
 have w1 : wrap64 b = b := wrap_id (by omega) (by omega)
 have w2 : wrap64 q = q := wrap_id (by omega) (by omega)
 have w3 : wrap64 (q * 37) = q * 37 := wrap_id (by omega) (by omega)
 have w4 : wrap64 (b + q * 37) = b + q * 37 := wrap_id (by omega) (by omega)
 by_cases h3 : n > 200
 ·rw [if_pos h3]
  obtain ⟨k0, k1⟩ := tmod_in (x := a + 1) (n := (c.length : Int)) (by omega) (by omega)
  have hd := rd_byte hc.bytes _ k0 k1
  rw [if_pos k0, if_pos k1, if_neg (by omega)]
  generalize rd c (Int.tmod (a + 1) (c.length : Int)) = d at *
  unfold Byte at hd
  have w5 : wrap64 d = d := wrap_id (by omega) (by omega)
  have w6 : wrap64 (d * 13) = d * 13 := wrap_id (by omega) (by omega)
  have w7 : wrap64 ((b + q * 37) * 251) = (b + q * 37) * 251 := wrap_id (by omega) (by omega)
  have w8 : wrap64 ((b + q * 37) * 251 + d * 13) = (b + q * 37) * 251 + d * 13 := wrap_id (by omega) (by omega)
  have w9 : wrap64 ((b + q * 37) * 251 + d * 13 + a) = (b + q * 37) * 251 + d * 13 + a := wrap_id (by omega) (by omega)
  simp only [w1, w2, w3, w4, w5, w6, w7, w8, w9]
  exact ⟨_, rfl, fun h => by omega, fun h => tmod_in (by omega) h⟩
 ·rw [if_neg h3, if_neg (by omega)]
  simp only [w1, w2, w3, w4]
  exact ⟨_, rfl, fun h => by omega, fun h => tmod_in (by omega) h⟩
theorem l1Chance_ex {c : List Int} (hc : Code c) {a n : Int} (ha : 0 ≤ a) (ha' : a ≤ 1000000000000) (hn : n ≤ 1000000) :
  ∃ b, spec_l1Chance.f c a n = some (b, a + 1) := by
 obtain ⟨v, hv, _⟩ := l1Next_ex hc ha ha' hn
 exact ⟨v == 0, by unfold spec_l1Chance.f; rw [hv]; rfl⟩
theorem l1Pick_ex {c : List Int} (hc : Code c) {a : Int} (ha : 0 ≤ a) (ha' : a ≤ 1000000000000) (l : List Int) (hl : 0 < l.length) (hl' : l.length ≤ 1000000) :
  ∃ v, spec_l1Pick.f c a l = some (v, a + 1) ∧ v ∈ l := by
 obtain ⟨v, hv, _, h⟩ := l1Next_ex (n := (l.length : Int)) hc ha ha' (by omega)
 obtain ⟨h0, h1⟩ := h (by omega)
 refine ⟨rd l v, ?_, ?_⟩
 ·unfold spec_l1Pick.f
  rw [hv]
  simp only [Option.bind_some]
  rw [if_pos h0, if_pos h1]
 ·have := rd_mem l v.toNat (by omega)
  rwa [Int.toNat_of_nonneg h0] at this
end Go.Proofs.YtcanokiehjjbgaaDoor.Pure
set_option linter.unusedVariables false
namespace Go.Proofs.YtcanokiehjjbgaaDoor.Pure
open Go.RowKit Go.Proofs.YtcanokiehjjbgaaDoor.P Go.Proofs.YtcanokiehjjbgaaDoorW.PrintWords Go.Proofs.YtcanokiehjjbgaaDoorW.PrintLast Go.Proofs.YtcanokiehjjbgaaDoor.Base
theorem l2Sig_j1 (v : Int) (f : Bool) (c : List Int) (a : Int) (n1 : ByteArray) (i1 : Int) (n2 : ByteArray) (i2 : Int) (n3 : ByteArray) (i3 : Int) (n4 : ByteArray) (i4 : Int) (n5 : ByteArray) (i5 : Int) (n6 : ByteArray) (i6 : Int) :
  ∃ g, Ev (fun k => spec_l2Sig.j1 k v f c a n1 i1 n2 i2 n3 i3 n4 i4 n5 i5 n6 i6) (g, a) ∧ 1 ≤ g.length ∧ g.length ≤ 6 := by
 cases f with
 | true =>
  refine ⟨[(⟨n5, i5⟩ : S110), (⟨n4, i4⟩ : S110), (⟨(⟨#[97, 100, 100]⟩ : ByteArray), 2⟩ : S110), (⟨n6, i6⟩ : S110)], ev_succ ?_, by simp, by simp⟩
  simp only [spec_l2Sig.j1]
  exact ev_pos (by simp) (ev_some _)
 | false =>
  by_cases h5 : v = 5
  ·refine ⟨[(⟨n5, i5⟩ : S110), (⟨(⟨#[102]⟩ : ByteArray), 1⟩ : S110), (⟨(⟨#[103]⟩ : ByteArray), 1⟩ : S110)], ev_succ ?_, by simp, by simp⟩
   simp only [spec_l2Sig.j1]
   exact ev_neg (by simp) (ev_pos h5 (ev_some _))
  by_cases h6 : v = 6
  ·refine ⟨[(⟨n5, i5⟩ : S110), (⟨n6, i6⟩ : S110), (⟨n1, i1⟩ : S110), (⟨n3, i3⟩ : S110), (⟨n2, i2⟩ : S110), (⟨n4, i4⟩ : S110)], ev_succ ?_, by simp, by simp⟩
   simp only [spec_l2Sig.j1]
   exact ev_neg (by simp) (ev_neg h5 (ev_pos h6 (ev_some _)))
  ·refine ⟨[(⟨n5, i5⟩ : S110)], ev_succ ?_, by simp, by simp⟩
   simp only [spec_l2Sig.j1]
   exact ev_neg (by simp) (ev_neg h5 (ev_neg h6 (ev_some _)))
theorem l2Sig_j0 (v : Int) (f : Bool) (c : List Int) (a : Int) (n1 : ByteArray) (i1 : Int) (n2 : ByteArray) (i2 : Int) (n3 : ByteArray) (i3 : Int) (n4 : ByteArray) (i4 : Int) (n5 : ByteArray) (i5 : Int) (n6 : ByteArray) (i6 : Int) :
  ∃ g, Ev (fun k => spec_l2Sig.j0 k v f c a n1 i1 n2 i2 n3 i3 n4 i4 n5 i5 n6 i6) (g, a) ∧ 1 ≤ g.length ∧ g.length ≤ 6 := by
 cases f with
 | true =>
  refine ⟨[(⟨n1, i1⟩ : S110), (⟨n2, i2⟩ : S110), (⟨n3, i3⟩ : S110), (⟨n5, i5⟩ : S110)], ev_succ ?_, by simp, by simp⟩
  simp only [spec_l2Sig.j0]
  exact ev_pos (by simp) (ev_some _)
 | false =>
  by_cases h3 : v = 3
  ·obtain ⟨g, hg, hl⟩ := l2Sig_j1 v (v == 3) c a n1 i1 n2 i2 n3 i3 n4 i4 n5 i5 n6 i6
   refine ⟨g, ev_succ ?_, hl⟩
   simp only [spec_l2Sig.j0]
   exact ev_neg (by simp) (ev_pos h3 hg)
  ·obtain ⟨g, hg, hl⟩ := l2Sig_j1 v (v == 4) c a n1 i1 n2 i2 n3 i3 n4 i4 n5 i5 n6 i6
   refine ⟨g, ev_succ ?_, hl⟩
   simp only [spec_l2Sig.j0]
   exact ev_neg (by simp) (ev_neg h3 hg)
theorem l2Sig_ex {c : List Int} (hc : Code c) {a : Int} (ha : 0 ≤ a) (ha' : a ≤ 1000000) : ∃ g, Ev (fun k => spec_l2Sig.f k c a) (g, a + 1) ∧ 1 ≤ g.length ∧ g.length ≤ 6 := by
 obtain ⟨v, hv, _, h⟩ := l1Next_ex hc (a := a) (n := 8) ha (by omega) (by omega)
 unfold spec_l2Sig.f
 by_cases h0 : v = 0
 ·obtain ⟨g, hg, hl⟩ := l2Sig_j0 v (v == 0) c (a + 1) (⟨#[101]⟩ : ByteArray) 0 (⟨#[105]⟩ : ByteArray) 1 (⟨#[109]⟩ : ByteArray) 2 (⟨#[115, 117, 99]⟩ : ByteArray) 1 (⟨#[97]⟩ : ByteArray) 0 (⟨#[98]⟩ : ByteArray) 0
  exact ⟨g, ev_bindq hv (ev_pos h0 hg), hl⟩
 by_cases h1 : v = 1
 ·obtain ⟨g, hg, hl⟩ := l2Sig_j0 v (v == 1) c (a + 1) (⟨#[101]⟩ : ByteArray) 0 (⟨#[105]⟩ : ByteArray) 1 (⟨#[109]⟩ : ByteArray) 2 (⟨#[115, 117, 99]⟩ : ByteArray) 1 (⟨#[97]⟩ : ByteArray) 0 (⟨#[98]⟩ : ByteArray) 0
  exact ⟨g, ev_bindq hv (ev_neg h0 (ev_pos h1 hg)), hl⟩
 ·obtain ⟨g, hg, hl⟩ := l2Sig_j0 v (v == 2) c (a + 1) (⟨#[101]⟩ : ByteArray) 0 (⟨#[105]⟩ : ByteArray) 1 (⟨#[109]⟩ : ByteArray) 2 (⟨#[115, 117, 99]⟩ : ByteArray) 1 (⟨#[97]⟩ : ByteArray) 0 (⟨#[98]⟩ : ByteArray) 0
  exact ⟨g, ev_bindq hv (ev_neg h0 (ev_neg h1 hg)), hl⟩
theorem l2Bent_l0 (c : List Int) (a : Int) (n : Nat) (hn : n ≤ 10) : ∀ (d i : Nat) (g : List S110), i + d = n → g.length = n → ∃ g', Ev (fun k => spec_l2Bent.l0 k (n : Int) (i : Int) c a g) (g', a) ∧ g'.length = n := by
 intro d
 induction d with
 | zero =>
  intro i g hi hg
  refine ⟨g, ev_succ ?_, hg⟩
  simp only [spec_l2Bent.l0]
  exact ev_neg (by omega) (ev_some _)
 | succ d ih =>
  intro i g hi hg
  obtain ⟨g', h, hl⟩ := ih (i + 1) (g.set ((i : Int)).toNat (⟨(rd_T110 g (i : Int)).f0, 1⟩ : S110)) (by omega) (by rw [List.length_set]; exact hg)
  refine ⟨g', ev_succ ?_, hl⟩
  simp only [spec_l2Bent.l0]
  refine ev_pos (by omega) (ev_pos (by omega) (ev_pos (by omega) ?_))
  rw [wrap_up (by omega)]
  exact h
theorem l2Bent_l1 (c : List Int) (a : Int) : ∀ (d : Nat) (g : List S110), g.length + d = 7 → ∃ g', Ev (fun k => spec_l2Bent.l1 k c a g) (g', a) ∧ g'.length ≤ 7 := by
 intro d
 induction d with
 | zero =>
  intro g hg
  refine ⟨g, ev_succ ?_, by omega⟩
  simp only [spec_l2Bent.l1]
  exact ev_neg (by omega) (ev_some _)
 | succ d ih =>
  intro g hg
  obtain ⟨g', h, hl⟩ := ih (g ++ [(⟨(⟨#[122]⟩ : ByteArray), 0⟩ : S110)]) (by simp; omega)
  refine ⟨g', ev_succ ?_, hl⟩
  simp only [spec_l2Bent.l1]
  exact ev_pos (by omega) (ev_pos (by omega) h)
theorem l2Bent_ex {c : List Int} (hc : Code c) {a : Int} (ha : 0 ≤ a) (ha' : a ≤ 100000) : ∃ g b, Ev (fun k => spec_l2Bent.f k c a) (g, b) ∧ g.length ≤ 7 ∧ a ≤ b ∧ b ≤ a + 10 := by
 obtain ⟨g, hg, g1, g6⟩ := l2Sig_ex hc ha (by omega)
 obtain ⟨q, hq⟩ := l1Chance_ex hc (a := a + 1) (n := 9) (by omega) (by omega) (by omega)
 unfold spec_l2Bent.f
 cases q with
 | false => exact ⟨g, _, ev_bind hg (ev_bindq hq (ev_neg (by simp) (ev_some _))), by omega, by omega, by omega⟩
 | true =>
  obtain ⟨v, hv, _, h⟩ := l1Next_ex hc (a := a + 1 + 1) (n := 7) (by omega) (by omega) (by omega)
  by_cases h0 : v = 0
  ·exact ⟨[], _, ev_bind hg (ev_bindq hq (ev_pos rfl (ev_bindq hv (ev_pos h0 (ev_some _))))), by simp, by omega, by omega⟩
  have hw : wrap64 ((g.length : Int) - 1) = (g.length : Int) - 1 := wrap_id (by omega) (by omega)
  by_cases h1 : v = 1
  ·refine ⟨g.set (wrap64 ((g.length : Int) - 1)).toNat (⟨(⟨#[97, 98, 99, 100]⟩ : ByteArray), (rd_T110 g (wrap64 ((g.length : Int) - 1))).f1⟩ : S110), a + 1 + 1 + 1, ev_bind hg (ev_bindq hq (ev_pos rfl (ev_bindq hv (ev_neg h0 (ev_pos h1 ?_))))), by rw [List.length_set]; omega, by omega, by omega⟩
   simp only
   exact ev_pos (by omega) (ev_pos (by omega) (ev_some _))
  obtain ⟨i, hi, _, hb⟩ := l1Next_ex hc (a := a + 1 + 1 + 1) (n := (g.length : Int)) (by omega) (by omega) (by omega)
  obtain ⟨i0, i1⟩ := hb (by omega)
  by_cases h2 : v = 2
  ·refine ⟨g.set (i : Int).toNat (⟨(⟨#[97, 66]⟩ : ByteArray), (rd_T110 g i).f1⟩ : S110), a + 1 + 1 + 1 + 1, ev_bind hg (ev_bindq hq (ev_pos rfl (ev_bindq hv (ev_neg h0 (ev_neg h1 (ev_pos h2 (ev_bindq hi ?_))))))), by rw [List.length_set]; omega, by omega, by omega⟩
   simp only
   exact ev_pos i0 (ev_pos i1 (ev_some _))
  by_cases h3 : v = 3
  ·obtain ⟨u, hu, _⟩ := l1Pick_ex hc (a := a + 1 + 1 + 1 + 1) (by omega) (by omega) [3, (-1)] (by simp) (by simp)
   refine ⟨g.set (i : Int).toNat (⟨(rd_T110 g i).f0, u⟩ : S110), a + 1 + 1 + 1 + 1 + 1, ev_bind hg (ev_bindq hq (ev_pos rfl (ev_bindq hv (ev_neg h0 (ev_neg h1 (ev_neg h2 (ev_pos h3 (ev_bindq hi (ev_bindq hu ?_))))))))), by rw [List.length_set]; omega, by omega, by omega⟩
   simp only
   exact ev_pos i0 (ev_pos i1 (ev_some _))
  by_cases h4 : v = 4
  ·refine ⟨g ++ [(⟨(rd_T110 g 0).f0, (rd_T110 g 0).f1⟩ : S110)], a + 1 + 1 + 1, ev_bind hg (ev_bindq hq (ev_pos rfl (ev_bindq hv (ev_neg h0 (ev_neg h1 (ev_neg h2 (ev_neg h3 (ev_pos h4 ?_)))))))), by simp; omega, by omega, by omega⟩
   simp only
   exact ev_pos (by omega) (ev_pos (by omega) (ev_some _))
  by_cases h5 : v = 5
  ·obtain ⟨g', hg', hl⟩ := l2Bent_l0 c (a + 1 + 1 + 1) g.length (by omega) g.length 0 g (by omega) rfl
   exact ⟨g', _, ev_bind hg (ev_bindq hq (ev_pos rfl (ev_bindq hv (ev_neg h0 (ev_neg h1 (ev_neg h2 (ev_neg h3 (ev_neg h4 (ev_pos h5 hg'))))))))), by omega, by omega, by omega⟩
  ·obtain ⟨g', hg', hl⟩ := l2Bent_l1 c (a + 1 + 1 + 1) (7 - g.length) g (by omega)
   exact ⟨g', _, ev_bind hg (ev_bindq hq (ev_pos rfl (ev_bindq hv (ev_neg h0 (ev_neg h1 (ev_neg h2 (ev_neg h3 (ev_neg h4 (ev_neg h5 hg'))))))))), hl, by omega, by omega⟩
end Go.Proofs.YtcanokiehjjbgaaDoor.Pure
set_option linter.unusedVariables false
namespace Go.Proofs.YtcanokiehjjbgaaDoor.Pure
open Go.RowKit Go.Proofs.YtcanokiehjjbgaaDoor.P Go.Proofs.YtcanokiehjjbgaaDoorW.PrintWords Go.Proofs.YtcanokiehjjbgaaDoorW.PrintLast Go.Proofs.YtcanokiehjjbgaaDoor.Base
theorem zero_of (l : List S110) (h : sigF l = 0) : ∃ z : Nat, z < l.length ∧ (rd_T110 l (z : Int)).f1 = 0 := by
 unfold sigF at h
 by_cases h1 : l.length < 1 ∨ l.length > 6
 ·rw [if_pos h1] at h; omega
 rw [if_neg h1] at h
 rcases scanN_cases (symFault l) (scanN (dupFault l) (if zeroB l = true then 0 else 4) l.length 0) l.length 0 with ⟨h2, h3⟩ | ⟨j, _, _, h3⟩
 ·rw [h3] at h
  rcases scanN_cases (dupFault l) (if zeroB l = true then 0 else 4) l.length 0 with ⟨h4, h5⟩ | ⟨j, _, _, h5⟩
  ·rw [h5] at h
   by_cases hz : zeroB l = true
   ·unfold zeroB at hz
    cases hf : firstN (fun j => (rd_T110 l (j : Int)).f1 == 0) l.length 0 with
    | none => rw [hf] at hz; cases hz
    | some j =>
     obtain ⟨_, hj, hp, _⟩ := firstN_some _ _ _ hf
     exact ⟨j, by omega, by simpa using hp⟩
   ·rw [if_neg hz] at h; omega
  ·rw [h] at h5
   unfold dupFault at h5
   by_cases hd : dupB l j = true
   ·rw [if_pos hd] at h5; cases h5
   ·rw [if_neg hd] at h5; cases h5
 ·rw [h] at h3
  unfold symFault at h3
  by_cases hn : nameB (rd_T110 l (j : Int)).f0 = true
  ·rw [if_pos hn] at h3
   by_cases ha : 0 ≤ (rd_T110 l (j : Int)).f1 ∧ (rd_T110 l (j : Int)).f1 ≤ 2
   ·rw [if_pos ha] at h3; cases h3
   ·rw [if_neg ha] at h3; cases h3
  ·rw [if_neg hn] at h3; cases h3
theorem rdSig0 (l : List S110) : (rd_T26 [(⟨l⟩ : S26)] 0).f0 = l := rfl
theorem l3Draw_l0 {l : List S110} (hl : 1 ≤ l.length ∧ l.length ≤ 6) (m v : Int) (c : List Int) (a : Int) : ∀ (d i n e : Nat), i + d = l.length → n < l.length → e < d → (rd_T110 l (((n + e) % l.length : Nat) : Int)).f1 < m →
  ∃ n' : Nat, n' < l.length ∧ (rd_T110 l (n' : Int)).f1 < m ∧ ∀ r, Ev (fun k => spec_l3Draw.j2 k [(⟨l⟩ : S26)] m v (l.length : Int) (n' : Int) c a) r → Ev (fun k => spec_l3Draw.l0 k [(⟨l⟩ : S26)] m v (l.length : Int) (n : Int) (i : Int) c a) r := by
 intro d
 induction d with
 | zero => intro i n e hi hn he; omega
 | succ d ih =>
  intro i n e hi hn he hlt
  by_cases h : (rd_T110 l (n : Int)).f1 ≥ m
  ·have he0 : e ≠ 0 := by
    intro e0
    subst e0
    rw [Nat.add_zero, Nat.mod_eq_of_lt hn] at hlt
    omega
   obtain ⟨n', h1, h2, h3⟩ := ih (i + 1) ((n + 1) % l.length) (e - 1) (by omega) (Nat.mod_lt _ (by omega)) (by omega) (by
    rw [Nat.mod_add_mod, show n + 1 + (e - 1) = n + e by omega]; exact hlt)
   refine ⟨n', h1, h2, fun r hr => ?_⟩
   have hq := h3 r hr
   refine ev_succ ?_
   simp only [spec_l3Draw.l0, rdSig0]
   refine ev_pos (by omega) (ev_pos (by simp) (ev_pos (by omega) (ev_pos (by omega) (ev_pos h (ev_neg (by omega) ?_)))))
   rw [wrap_up (i := n) (by omega), wrap_up (i := i) (by omega), show Int.tmod ((n + 1 : Nat) : Int) (l.length : Int) = (((n + 1) % l.length : Nat) : Int) by rw [Int.tmod_eq_emod_of_nonneg (by omega)]; omega]
   exact hq
  ·refine ⟨n, hn, by omega, fun r hr => ev_succ ?_⟩
   simp only [spec_l3Draw.l0, rdSig0]
   exact ev_pos (by omega) (ev_pos (by simp) (ev_pos (by omega) (ev_pos (by omega) (ev_neg h hr))))
theorem l3Draw_j2 {l : List S110} (hl : 1 ≤ l.length ∧ l.length ≤ 6) (m v : Int) (c : List Int) (a : Int) (n : Nat) (hn : n < l.length) (hlt : (rd_T110 l (n : Int)).f1 < m) (r : List Int × Int)
  (hr : Ev (fun k => spec_l3Draw.j4 k [(⟨l⟩ : S26)] m v (n : Int) c a) r) : Ev (fun k => spec_l3Draw.j2 k [(⟨l⟩ : S26)] m v (l.length : Int) (n : Int) c a) r := by
 refine ev_succ ?_
 simp only [spec_l3Draw.j2]
 by_cases h : m < 2
 ·refine ev_pos h (ev_succ ?_)
  simp only [spec_l3Draw.l1, rdSig0]
  exact ev_pos (by omega) (ev_pos (by simp) (ev_pos (by omega) (ev_pos (by omega) (ev_neg (by omega) hr))))
 ·exact ev_neg h hr
theorem l3Draw_ex {c : List Int} (hc : Code c) {l : List S110} (hr : Right l) (hz : ∃ z : Nat, z < l.length ∧ (rd_T110 l (z : Int)).f1 = 0) (v : Int) (hv : v ≤ 1000) : ∀ (m : Nat), 1 ≤ m → m ≤ 1000 → ∀ a : Int, 0 ≤ a → a + 3 * m ≤ 1000000 →
  ∃ t b, Ev (fun k => spec_l3Draw.f k c a [(⟨l⟩ : S26)] (m : Int) v) (t, b) ∧ 1 ≤ t.length ∧ t.length ≤ m ∧ a ≤ b ∧ b ≤ a + 3 * t.length := by
 intro m
 induction m using Nat.strongRecOn with
 | _ m ih =>
  intro m1 m2 a a0 a1
  have hl := hr.len
  -- behind the choice of the first node
  have hj4 : ∀ (n : Nat) (b : Int), n < l.length → (rd_T110 l (n : Int)).f1 < (m : Int) → a ≤ b → b ≤ a + 3 → ∃ t b', Ev (fun k => spec_l3Draw.j4 k [(⟨l⟩ : S26)] (m : Int) v (n : Int) c b) (t, b') ∧ 1 ≤ t.length ∧ t.length ≤ m ∧ b ≤ b' ∧ b' + 3 ≤ b + 3 * t.length := by
   intro n b hn hlt hab hb
   obtain ⟨r0, r1⟩ := hr.arities n hn
   by_cases h1 : (rd_T110 l (n : Int)).f1 = 1
   ·obtain ⟨t, b', ht, l1, l2, b0, b1⟩ := ih (m - 1) (by omega) (by omega) (by omega) b (by omega) (by omega)
    refine ⟨[(n : Int)] ++ t, b', ev_succ ?_, by simp, by simp; omega, by omega, by simp; omega⟩
    simp only [spec_l3Draw.j4, rdSig0, Option.bind_some]
    refine ev_pos (by simp) (ev_pos (by omega) (ev_pos (by omega) (ev_pos h1 ?_)))
    rw [wrap_id (x := (m : Int) - 1) (by omega) (by omega), show (m : Int) - 1 = ((m - 1 : Nat) : Int) by omega]
    exact ev_bind ht (ev_pos (by simp; omega) (ev_some _))
   by_cases h2 : (rd_T110 l (n : Int)).f1 = 2
   ·obtain ⟨t, b', ht, l1, l2, b0, b1⟩ := ih (m - 2) (by omega) (by omega) (by omega) b (by omega) (by omega)
    obtain ⟨u, b'', hu, k1, k2, d0, d1⟩ := ih (m - 1 - t.length) (by omega) (by omega) (by omega) b' (by omega) (by omega)
    refine ⟨([(n : Int)] ++ t) ++ u, b'', ev_succ ?_, by simp only [List.length_append, List.length_singleton]; omega, by simp only [List.length_append, List.length_singleton]; omega, by omega, by simp only [List.length_append, List.length_singleton]; omega⟩
    simp only [spec_l3Draw.j4, rdSig0, Option.bind_some]
    refine ev_pos (by simp) (ev_pos (by omega) (ev_pos (by omega) (ev_neg h1 (ev_pos h2 ?_))))
    rw [wrap_id (x := (m : Int) - 2) (by omega) (by omega), show (m : Int) - 2 = ((m - 2 : Nat) : Int) by omega, wrap_id (x := (m : Int) - 1) (by omega) (by omega)]
    refine ev_bind ht (ev_pos (by simp; omega) ?_)
    simp only
    rw [wrap_id (x := (m : Int) - 1 - (t.length : Int)) (by omega) (by omega), show (m : Int) - 1 - (t.length : Int) = ((m - 1 - t.length : Nat) : Int) by omega]
    exact ev_bind hu (ev_pos (by simp; omega) (ev_some _))
   ·refine ⟨[(n : Int)], b, ev_succ ?_, by simp, by simp; omega, by omega, by simp⟩
    simp only [spec_l3Draw.j4, rdSig0, Option.bind_some]
    exact ev_pos (by simp) (ev_pos (by omega) (ev_pos (by omega) (ev_neg h1 (ev_neg h2 (ev_some _)))))
  have hj0 : ∀ (q : Bool) (b : Int), a ≤ b → b ≤ a + 2 → ∃ t b', Ev (fun k => spec_l3Draw.j0 k [(⟨l⟩ : S26)] (m : Int) v q c b) (t, b') ∧ 1 ≤ t.length ∧ t.length ≤ m ∧ b ≤ b' ∧ b' + 2 ≤ b + 3 * t.length := by
   intro q b hab hb
   cases q with
   | true =>
    obtain ⟨x, hx, _⟩ := l1Next_ex hc (a := b) (n := v) (by omega) (by omega) (by omega)
    refine ⟨[wrap64 ((-1) - x)], b + 1, ev_succ ?_, by simp, by simp; omega, by omega, by simp; omega⟩
    simp only [spec_l3Draw.j0]
    exact ev_pos (by simp) (ev_bindq hx (ev_some _))
   | false =>
    obtain ⟨x, hx, _, hb2⟩ := l1Next_ex hc (a := b) (n := (l.length : Int)) (by omega) (by omega) (by omega)
    obtain ⟨x0, x1⟩ := hb2 (by omega)
    obtain ⟨n, rfl⟩ := Int.eq_ofNat_of_zero_le x0
    obtain ⟨z, hz1, hz2⟩ := hz
    have hmod : (n + (z + l.length - n) % l.length) % l.length = z := by
     rw [Nat.add_mod_mod, show n + (z + l.length - n) = z + l.length by omega, Nat.add_mod_right, Nat.mod_eq_of_lt hz1]
    obtain ⟨n', h1, h2, h3⟩ := l3Draw_l0 hl (m : Int) v c (b + 1) l.length 0 n ((z + l.length - n) % l.length) (by omega) (by omega) (Nat.mod_lt _ (by omega)) (by rw [hmod]; omega)
    obtain ⟨t, b', ht, l1, l2, b0, b1⟩ := hj4 n' (b + 1) h1 h2 (by omega) (by omega)
    refine ⟨t, b', ev_succ ?_, l1, l2, by omega, by omega⟩
    simp only [spec_l3Draw.j0, rdSig0]
    exact ev_neg (by simp) (ev_pos (by simp) (ev_bindq hx (h3 _ (l3Draw_j2 hl (m : Int) v c (b + 1) n' h1 h2 _ ht))))
  by_cases h1 : v > 0
  ·by_cases h2 : (m : Int) < 2
   ·obtain ⟨q, hq⟩ := l1Chance_ex hc (a := a) (n := 2) a0 (by omega) (by omega)
    cases q with
    | true =>
     obtain ⟨t, b', ht, l1, l2, b0, b1⟩ := hj0 true (a + 1) (by omega) (by omega)
     refine ⟨t, b', ev_succ ?_, l1, l2, by omega, by omega⟩
     simp only [spec_l3Draw.f]
     exact ev_pos h1 (ev_pos h2 (ev_bindq hq (ev_pos rfl ht)))
    | false =>
     obtain ⟨q2, hq2⟩ := l1Chance_ex hc (a := a + 1) (n := 4) (by omega) (by omega) (by omega)
     obtain ⟨t, b', ht, l1, l2, b0, b1⟩ := hj0 q2 (a + 1 + 1) (by omega) (by omega)
     refine ⟨t, b', ev_succ ?_, l1, l2, by omega, by omega⟩
     simp only [spec_l3Draw.f]
     exact ev_pos h1 (ev_pos h2 (ev_bindq hq (ev_neg (by simp) (ev_bindq hq2 ht))))
   ·obtain ⟨q2, hq2⟩ := l1Chance_ex hc (a := a) (n := 4) (by omega) (by omega) (by omega)
    obtain ⟨t, b', ht, l1, l2, b0, b1⟩ := hj0 q2 (a + 1) (by omega) (by omega)
    refine ⟨t, b', ev_succ ?_, l1, l2, by omega, by omega⟩
    simp only [spec_l3Draw.f]
    exact ev_pos h1 (ev_neg h2 (ev_bindq hq2 ht))
  ·obtain ⟨t, b', ht, l1, l2, b0, b1⟩ := hj0 false a (by omega) (by omega)
   refine ⟨t, b', ev_succ ?_, l1, l2, by omega, by omega⟩
   simp only [spec_l3Draw.f]
   exact ev_neg h1 ht
theorem l3Bent_l0 {c : List Int} (hc : Code c) : ∀ (d i : Nat) (x : List Int) (a : Int), i + d = 25 → x.length ≤ i → 0 ≤ a → a + 2 * d ≤ 1000000 → ∃ t b, Ev (fun k => spec_l3BentTerm.l0 k x (i : Int) c a) (t, b) ∧ t.length ≤ 25 ∧ a ≤ b ∧ b ≤ a + 2 * d + 1 := by
 intro d
 induction d with
 | zero =>
  intro i x a hi hx h0 h1
  obtain ⟨u, hu, hm⟩ := l1Pick_ex hc (a := a) h0 (by omega) [24, 25] (by simp) (by simp)
  refine ⟨x, a + 1, ev_succ ?_, by omega, by omega, by omega⟩
  simp only [spec_l3BentTerm.l0]
  have : u = 24 ∨ u = 25 := by simpa using hm
  exact ev_bindq hu (ev_neg (by simp only; omega) (ev_some _))
 | succ d ih =>
  intro i x a hi hx h0 h1
  obtain ⟨u, hu, hm⟩ := l1Pick_ex hc (a := a) h0 (by omega) [24, 25] (by simp) (by simp)
  by_cases h : (i : Int) < u
  ·obtain ⟨y, hy, _⟩ := l1Pick_ex hc (a := a + 1) (by omega) (by omega) [1, 2, 0] (by simp) (by simp)
   obtain ⟨t, b, ht, l1, b0, b1⟩ := ih (i + 1) (x ++ [y]) (a + 1 + 1) (by omega) (by simp; omega) (by omega) (by omega)
   refine ⟨t, b, ev_succ ?_, l1, by omega, by omega⟩
   simp only [spec_l3BentTerm.l0]
   refine ev_bindq hu (ev_pos h (ev_bindq hy (ev_pos (by omega) ?_)))
   rw [wrap_up (by omega)]
   exact ht
  ·refine ⟨x, a + 1, ev_succ ?_, by omega, by omega, by omega⟩
   simp only [spec_l3BentTerm.l0]
   exact ev_bindq hu (ev_neg h (ev_some _))
theorem l3Bent_ex {c : List Int} (hc : Code c) (l : List S110) (hl : l.length ≤ 7) (m : Nat) (m1 : 1 ≤ m) (m2 : m ≤ 100) (v : Int) (hv : v ≤ 1000) {a : Int} (a0 : 0 ≤ a) (a1 : a ≤ 10000) :
  ∃ t b, Ev (fun k => spec_l3BentTerm.f k c a [(⟨l⟩ : S26)] (m : Int) v) (t, b) ∧ t.length ≤ 110 ∧ a ≤ b ∧ b ≤ a + 400 := by
 have htrue : ∃ t b, Ev (fun k => spec_l3BentTerm.j0 k [(⟨l⟩ : S26)] (m : Int) v true c a) (t, b) ∧ t.length ≤ 110 ∧ a ≤ b ∧ b ≤ a + 400 := by
  refine ⟨[0], a, ev_succ ?_, by simp, by omega, by omega⟩
  simp only [spec_l3BentTerm.j0]
  exact ev_pos (by simp) (ev_some _)
 unfold spec_l3BentTerm.f
 simp only [rdSig0]
 by_cases h1 : (l.length : Int) < 1
 ·obtain ⟨t, b, ht, h⟩ := htrue
  exact ⟨t, b, ev_pos (by simp) (ev_pos h1 ht), h⟩
 have hS := SignatureFault_spec l
 by_cases hs : sigF l = 0
 ·have hr := right_of l hs
  have hz := zero_of l hs
  rw [hs] at hS
  obtain ⟨t, b, ht, l1, l2, b0, b1⟩ := l3Draw_ex hc hr hz v hv m m1 (by omega) a a0 (by omega)
  obtain ⟨q, hq⟩ := l1Chance_ex hc (a := b) (n := 11) (by omega) (by omega) (by omega)
  have key : ∃ t' b', Ev (fun k => spec_l3BentTerm.j0 k [(⟨l⟩ : S26)] (m : Int) v false c a) (t', b') ∧ t'.length ≤ 110 ∧ a ≤ b' ∧ b' ≤ a + 400 := by
   cases q with
   | false =>
    refine ⟨t, b + 1, ev_succ ?_, by omega, by omega, by omega⟩
    simp only [spec_l3BentTerm.j0]
    exact ev_neg (by simp) (ev_bind ht (ev_bindq hq (ev_neg (by simp) (ev_some _))))
   | true =>
    obtain ⟨x, hx, _, hb⟩ := l1Next_ex hc (a := b + 1) (n := 4) (by omega) (by omega) (by omega)
    obtain ⟨x0, x1⟩ := hb (by omega)
    have hw : wrap64 ((t.length : Int) - 1) = (t.length : Int) - 1 := wrap_id (by omega) (by omega)
    by_cases e0 : x = 0
    ·refine ⟨t.take ((t.length : Int) - 1).toNat, b + 1 + 1, ev_succ ?_, by rw [List.length_take]; omega, by omega, by omega⟩
     simp only [spec_l3BentTerm.j0]
     refine ev_neg (by simp) (ev_bind ht (ev_bindq hq (ev_pos rfl (ev_bindq hx (ev_pos e0 ?_)))))
     simp only [hw]
     exact ev_pos (by omega) (ev_pos (by omega) (ev_some _))
    by_cases e1 : x = 1
    ·refine ⟨t ++ [0], b + 1 + 1, ev_succ ?_, by simp; omega, by omega, by omega⟩
     simp only [spec_l3BentTerm.j0]
     exact ev_neg (by simp) (ev_bind ht (ev_bindq hq (ev_pos rfl (ev_bindq hx (ev_neg e0 (ev_pos e1 (ev_pos (by simp only; omega) (ev_some _))))))))
    by_cases e2 : x = 2
    ·obtain ⟨i, hi, _, hbi⟩ := l1Next_ex hc (a := b + 1 + 1) (n := (t.length : Int)) (by omega) (by omega) (by omega)
     obtain ⟨i0, i1⟩ := hbi (by omega)
     obtain ⟨y, hy, _⟩ := l1Pick_ex hc (a := b + 1 + 1 + 1) (by omega) (by omega) [(l.length : Int), (-13), (-12)] (by simp) (by simp)
     refine ⟨t.set i.toNat y, b + 1 + 1 + 1 + 1, ev_succ ?_, by rw [List.length_set]; omega, by omega, by omega⟩
     simp only [spec_l3BentTerm.j0, rdSig0]
     exact ev_neg (by simp) (ev_bind ht (ev_bindq hq (ev_pos rfl (ev_bindq hx (ev_neg e0 (ev_neg e1 (ev_pos e2 (ev_bindq hi (ev_pos (by simp) (ev_bindq hy (ev_pos i0 (ev_pos i1 (ev_some _)))))))))))))
    ·obtain ⟨u, b', hu, u1, b2, b3⟩ := l3Bent_l0 hc 25 0 [] (b + 1 + 1) (by omega) (by simp) (by omega) (by omega)
     refine ⟨u, b', ev_succ ?_, by omega, by omega, by omega⟩
     simp only [spec_l3BentTerm.j0]
     exact ev_neg (by simp) (ev_bind ht (ev_bindq hq (ev_pos rfl (ev_bindq hx (ev_neg e0 (ev_neg e1 (ev_neg e2 hu)))))))
  obtain ⟨t', b', ht', h⟩ := key
  exact ⟨t', b', ev_pos (by simp) (ev_neg h1 (ev_bind hS ht')), h⟩
 ·obtain ⟨t, b, ht, h⟩ := htrue
  refine ⟨t, b, ev_pos (by simp) (ev_neg h1 (ev_bind hS ?_)), h⟩
  have : (sigF l != 0) = true := by simpa using hs
  rw [this]
  exact ht
theorem l3One_ex {c : List Int} (hc : Code c) : ∃ g t b, Ev (fun k => spec_l3One.f k c) (g, t, c, b) ∧ g.length ≤ 7 ∧ t.length ≤ 110 ∧ 0 ≤ b ∧ b ≤ 1000 := by
 unfold spec_l3One.f spec_l1Source.f
 obtain ⟨g, b, hg, gl, b0, b1⟩ := l2Bent_ex hc (a := 0) (by omega) (by omega)
 obtain ⟨m, hm, hmm⟩ := l1Pick_ex hc (a := b) (by omega) (by omega) [3, 6, 10, 16, 24] (by simp) (by simp)
 obtain ⟨v, hv, hvm⟩ := l1Pick_ex hc (a := b + 1) (by omega) (by omega) [0, 3, 6, 12] (by simp) (by simp)
 have hm' : m = 3 ∨ m = 6 ∨ m = 10 ∨ m = 16 ∨ m = 24 := by simpa using hmm
 have hv' : v = 0 ∨ v = 3 ∨ v = 6 ∨ v = 12 := by simpa using hvm
 obtain ⟨n, rfl⟩ := Int.eq_ofNat_of_zero_le (show 0 ≤ m by omega)
 obtain ⟨t, d, ht, tl, d0, d1⟩ := l3Bent_ex hc g gl n (by omega) (by omega) v (by omega) (a := b + 1 + 1) (by omega) (by omega)
 exact ⟨g, t, d, ev_bindq rfl (ev_bind hg (ev_bindq hm (ev_bindq hv (ev_bind ht (ev_some _))))), gl, tl, by omega, by omega⟩
theorem DrawTermFault_ex {c : List Int} (hc : Code c) : ∃ g t, Ev (fun k => spec_DrawTermFault.f k c) (g, t) ∧ t.length ≤ 110 := by
 unfold spec_DrawTermFault.f
 obtain ⟨g, t, d, h, gl, tl, d0, d1⟩ := l3One_ex hc
 exact ⟨g, t, ev_bind h (ev_some _), tl⟩
end Go.Proofs.YtcanokiehjjbgaaDoor.Pure
set_option linter.unusedVariables false
namespace Go.Proofs.YtcanokiehjjbgaaDoor.Pure
open Go.RowKit Go.Proofs.YtcanokiehjjbgaaDoor.P Go.Proofs.YtcanokiehjjbgaaDoorW.PrintWords Go.Proofs.YtcanokiehjjbgaaDoorW.PrintLast Go.Proofs.YtcanokiehjjbgaaDoor.Base
theorem cntN_le (n : Int) : ∀ t : List Int, cntN n t ≤ t.length
 | [] => Nat.le_refl _
 | x :: xs => by
  have := cntN_le n xs
  rw [cntN, List.length_cons]
  split <;> omega
theorem cntN_pos (n : Int) : ∀ t : List Int, n ∈ t → 1 ≤ cntN n t
 | [], h => by cases h
 | x :: xs, h => by
  rw [cntN]
  rcases List.mem_cons.1 h with h | h
  ·rw [if_pos h.symm]; omega
  ·have := cntN_pos n xs h; omega
theorem sumC_le (f : Int → Nat) (B : Nat) (hf : ∀ n, f n ≤ B) : ∀ (d : Nat) (lo : Int), sumC f lo d ≤ B * d
 | 0, lo => by simp [sumC]
 | d + 1, lo => by
  have := sumC_le f B hf d (lo + 1)
  have := hf lo
  rw [sumC, Nat.mul_succ]; omega
theorem sumC_all (lo : Int) (d : Nat) : ∀ t : List Int, (∀ x ∈ t, lo ≤ x ∧ x < lo + d) → sumC (fun n => cntN n t) lo d = t.length
 | [], _ => sumC_zero d lo
 | x :: t, h => by
  have e : (fun n => cntN n (x :: t)) = fun n => (if x = n then 1 else 0) + cntN n t := rfl
  rw [e, sumC_add, sumC_one, if_pos (h x (by simp)), sumC_all lo d t (fun y hy => h y (by simp [hy])), List.length_cons]; omega
theorem node_in {l : List S110} {n : Int} (h0 : -12 ≤ n) (h1 : n < (l.length : Int)) : nodeB l n = true := by
 unfold nodeB symB
 by_cases h : 0 ≤ n
 ·rw [decide_eq_true (show 0 ≤ n ∧ n ≤ (l.length : Int) - 1 by omega)]; rfl
 ·rw [decide_eq_true (show -12 ≤ n ∧ n ≤ -1 by omega), Bool.or_true]
theorem node_out {l : List S110} {n : Int} (h : nodeB l n = true) : -12 ≤ n ∧ n < (l.length : Int) ∨ -12 ≤ n ∧ n < 0 := by
 unfold nodeB symB at h
 rw [Bool.or_eq_true, decide_eq_true_eq, decide_eq_true_eq] at h
 omega
theorem varsB_iff (t : List Int) : varsB t = true ↔ ∃ n ∈ t, n < 0 := by
 unfold varsB
 constructor
 ·intro h
  cases hf : firstN (fun j => decide (rd t (j : Int) < 0)) t.length 0 with
  | none => rw [hf] at h; cases h
  | some j =>
   obtain ⟨_, hj, hp, _⟩ := firstN_some _ _ _ hf
   exact ⟨_, rd_mem t j (by omega), of_decide_eq_true hp⟩
 ·rintro ⟨n, hn, hlt⟩
  obtain ⟨j, hj, rfl⟩ := List.mem_iff_getElem.1 hn
  cases hf : firstN (fun j => decide (rd t (j : Int) < 0)) t.length 0 with
  | some j => rfl
  | none =>
   have := (firstN_none _ 0).1 hf j (by omega) (by omega)
   rw [rd_get t j hj] at this
   exact absurd hlt (of_decide_eq_false this)
theorem ground_vars (t : List Int) : (!varsB t) = (((varsL t).length : Int) == 0) := by
 by_cases h : varsB t = true
 ·rw [h]
  obtain ⟨n, hn, hlt⟩ := (varsB_iff t).1 h
  have hm := (mem_varsL t (-1 - n)).2 ((mem_varN t _).2 ⟨n, hn, hlt, rfl⟩)
  have := List.length_pos_of_mem hm
  symm
  rw [Bool.not_true]
  exact beq_eq_false_iff_ne.2 (by omega)
 ·have hv : varsL t = [] := by
   cases hc : varsL t with
   | nil => rfl
   | cons x xs =>
    obtain ⟨n, hn, hlt, _⟩ := (mem_varN t x).1 ((mem_varsL t x).1 (by rw [hc]; simp))
    exact absurd ((varsB_iff t).2 ⟨n, hn, hlt⟩) h
  rw [Bool.eq_false_iff.2 h, hv]; rfl
theorem Nodes_l1 {l : List S110} {t : List Int} (h : termF l t = 0) : ∀ (d i : Nat), i + d = (varsL t).length → Ev (fun k => laws_FnNodes.l1 k t (t.length : Int) (i : Int) l 0 (varsL t)) true := by
 obtain ⟨t1, t2, tn, tw⟩ := right_parts h
 have hr := rightT_of h
 have hvl := varsL_length t
 intro d
 induction d with
 | zero =>
  intro i hi
  refine ev_succ ?_
  simp only [laws_FnNodes.l1]
  have hD := DepthOf_impl l t (by omega)
  have hV := VarsOf_spec l t (by omega)
  have hS := SizeAt_si l t (by omega) 0
  have eD : depthR l t = (0, (depN (arL l) t t.length 0 : Int)) := by unfold depthR; rw [if_pos h]
  have eV : varsR l t = (0, varsL t) := by unfold varsR; rw [if_pos h]
  have hp : placeB t 0 = true := decide_eq_true (by omega)
  have eE : endAt l t 0 = t.length := by unfold endAt; rw [hr.whole]; rfl
  have eS : siR l t 0 = (0, (t.length : Int)) := by
   unfold siR subL
   rw [if_pos h, if_pos hp]
   simp only [Int.toNat_zero, eE, List.take_length, List.drop_zero]
  rw [eD] at hD
  rw [eV] at hV
  rw [eS] at hS
  have hd1 := depN_eq (by omega) hr.whole
  have hd2 := depN_le (ar := arL l) (t := t) t.length 0
  exact ev_neg (by omega) (ev_bind hD (ev_pos (by simp) (ev_bind hV (ev_bind (lwNums_same _ (by omega)) (ev_pos (by simp) (ev_pos (by simp) (ev_pos (by simp only; omega) (ev_pos (by simp only; omega) (ev_bind hS (ev_to (ev_some _) (by simp)))))))))))
 | succ d ih =>
  intro i hi
  have hil : i < (varsL t).length := by omega
  have hm : (varsL t)[i] ∈ varsL t := List.getElem_mem hil
  obtain ⟨n, hn, hlt, hx⟩ := (mem_varN t _).1 ((mem_varsL t _).1 hm)
  have hnode := node_out (tn n hn)
  have hw : wrap64 ((-1) - rd (varsL t) (i : Int)) = n := by
   rw [rd_get _ i hil, hx, wrap_id (by omega) (by omega)]; omega
  have hC := CountOf_impl l t (by omega) n
  have eC : countR l t n = (0, (cntN n t : Int)) := by unfold countR; rw [if_pos h, if_pos (tn n hn)]
  rw [eC] at hC
  have hpos := cntN_pos n t hn
  refine ev_succ ?_
  simp only [laws_FnNodes.l1, hw]
  refine ev_pos (by omega) (ev_pos (by omega) (ev_bind hC (ev_neg (by simp only; omega) ?_)))
  rw [wrap_up (by omega)]
  by_cases h0 : (i : Int) > 0
  ·have hw1 : wrap64 ((i : Int) - 1) = ((i - 1 : Nat) : Int) := by rw [wrap_id (by omega) (by omega)]; omega
   rw [hw1]
   have hlt2 : (varsL t)[i - 1] < (varsL t)[i] := List.pairwise_iff_getElem.1 (varsL_rise t) (i - 1) i (by omega) hil (by omega)
   refine ev_pos h0 (ev_pos (by omega) (ev_pos (by omega) (ev_neg ?_ (ih (i + 1) (by omega)))))
   rw [rd_get _ i hil, rd_get _ (i - 1) (by omega)]; omega
  ·exact ev_neg h0 (ih (i + 1) (by omega))
theorem Nodes_l0 {l : List S110} {t : List Int} (h : termF l t = 0) : ∀ (d i : Nat), i + d = 12 + l.length → Ev (fun k => laws_FnNodes.l0 k t (sumC (fun n => cntN n t) (-12) i : Int) (-12 + (i : Int)) l 0 (varsL t)) true := by
 obtain ⟨t1, t2, tn, tw⟩ := right_parts h
 have hr := (rightT_of h).sig.len
 intro d
 induction d with
 | zero =>
  intro i hi
  have hsum : sumC (fun n => cntN n t) (-12) i = t.length := sumC_all (-12) i t (fun x hx => by have := node_out (tn x hx); omega)
  refine ev_succ ?_
  simp only [laws_FnNodes.l0]
  rw [hsum]
  exact ev_neg (by omega) (Nodes_l1 h (varsL t).length 0 (by omega))
 | succ d ih =>
  intro i hi
  have hC := CountOf_impl l t (by omega) (-12 + (i : Int))
  have eC : countR l t (-12 + (i : Int)) = (0, (cntN (-12 + (i : Int)) t : Int)) := by unfold countR; rw [if_pos h, if_pos (node_in (by omega) (by omega))]
  rw [eC] at hC
  have hb := sumC_le (fun n => cntN n t) 24 (fun n => Nat.le_trans (cntN_le n t) t2) i (-12)
  have hc := cntN_le (-12 + (i : Int)) t
  refine ev_succ ?_
  simp only [laws_FnNodes.l0]
  refine ev_pos (by omega) (ev_bind hC (ev_pos rfl ?_))
  have e1 : wrap64 ((sumC (fun n => cntN n t) (-12) i : Int) + (cntN (-12 + (i : Int)) t : Int)) = ((sumC (fun n => cntN n t) (-12) (i + 1) : Nat) : Int) := by
   rw [sumC_snoc, wrap_id (by omega) (by omega)]; omega
  have e2 : wrap64 (-12 + (i : Int) + 1) = -12 + ((i + 1 : Nat) : Int) := by rw [wrap_id (by omega) (by omega)]; omega
  simp only
  rw [e1, e2]
  exact ih (i + 1) (by omega)
theorem FnNodes (c : List Int) (hc0 : c.length ≤ maxLen ∧ ∀ x ∈ c, (Lit.int .u8 x).wf = true) : ∃ k, laws_FnNodes.f k c = some true := by
 obtain ⟨hm, hw⟩ := hc0
 refine ev_ex (g := fun k => laws_FnNodes.f k c) ?_
 unfold laws_FnNodes.f laws_lwBig.f
 by_cases hbig : (c.length : Int) > 1048576
 ·exact ev_bindq rfl (ev_pos (by simpa using hbig) (ev_some _))
 have hc : Code c := ⟨fun x hx => wf_u8 (hw x hx), by omega⟩
 refine ev_bindq rfl (ev_neg (by simpa using hbig) ?_)
 obtain ⟨l, t, hD, tl⟩ := DrawTermFault_ex hc
 have hD' : Ev (fun k => spec_DrawVarsOf.f k c) (l, t) := by
  unfold spec_DrawVarsOf.f
  exact ev_bind hD (ev_some _)
 have hV := VarsOf_impl l t (by omega)
 have hVs := VarsOf_spec l t (by omega)
 have hT := TermFault_spec l t (by omega)
 have hTi := TermFault_impl l t (by omega)
 have hG := IsGround_implG l t (by omega)
 by_cases h : termF l t = 0
 ·have eV : varsR l t = (0, varsL t) := by unfold varsR; rw [if_pos h]
  have eG : groundR l t = !varsB t := by unfold groundR; rw [if_pos h]
  rw [eV] at hV hVs
  rw [h] at hT hTi
  rw [eG] at hG
  refine ev_bind hD' (ev_bind hV (ev_bind hT (ev_pos rfl (ev_bind hTi (ev_pos rfl (ev_bind hG (ev_pos rfl (ev_bind hVs (ev_succ ?_)))))))))
  simp only [laws_FnNodes.j0]
  refine ev_neg (by rw [ground_vars]; simp) (ev_pos trivial ?_)
  exact Nodes_l0 h (12 + l.length) 0 (by omega)
 ·have eV : varsR l t = (termF l t, []) := by unfold varsR; rw [if_neg h]
  have eG : groundR l t = false := by unfold groundR; rw [if_neg h]
  rw [eV] at hV
  rw [eG] at hG
  refine ev_bind hD' (ev_bind hV (ev_bind hT (ev_pos rfl (ev_bind hTi (ev_pos rfl (ev_bind hG (ev_neg h (ev_succ ?_))))))))
  simp only [laws_FnNodes.j0]
  exact ev_neg (by simp) (ev_neg h (ev_some _))
end Go.Proofs.YtcanokiehjjbgaaDoor.Pure
