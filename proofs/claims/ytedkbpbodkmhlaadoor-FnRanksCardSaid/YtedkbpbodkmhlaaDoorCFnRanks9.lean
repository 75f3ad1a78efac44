/- A part of the proof of the law FnRanks. -/
import Derived.Lib.Bytes
import Derived.Test.YtedkbpbodkmhlaaDoorCFnRanks0
import Derived.Test.YtedkbpbodkmhlaaDoorCFnRanks1
import Derived.Test.YtedkbpbodkmhlaaDoorCFnRanks2
import Derived.Test.YtedkbpbodkmhlaaDoorCFnRanks3
import Derived.Test.YtedkbpbodkmhlaaDoorCFnRanks4
import Derived.Test.YtedkbpbodkmhlaaDoorCFnRanks5
import Derived.Test.YtedkbpbodkmhlaaDoorCFnRanks6
import Derived.Test.YtedkbpbodkmhlaaDoorCFnRanks7
import Derived.Test.YtedkbpbodkmhlaaDoorCFnRanks8
set_option linter.unusedVariables false
namespace Go.Proofs.YtedkbpbodkmhlaaDoor.Pure
open Go.RowKit Go.Proofs.YtedkbpbodkmhlaaDoor.P Go.Proofs.YtedkbpbodkmhlaaDoorW.PrintWords Go.Proofs.YtedkbpbodkmhlaaDoorW.PrintLast Go.Proofs.YtedkbpbodkmhlaaDoor.Base
theorem bt_get (s : ByteArray) (i : Nat) (h : i < s.data.toList.length) : bt s (i : Int) = ((s.data.toList[i]).toNat : Int) := by
 have hs : i < s.size := by rw [Lib.size_eq]; exact h
 unfold bt
 rw [dif_pos (by simpa using hs)]
 rfl
theorem l2Name_l0 (s : ByteArray) (hl : s.size ≤ 3) : ∀ (d i : Nat), i + d = s.size → Ev (fun k => spec_l2Name.l0 k s (i : Int)) ((s.data.toList.drop i).all letterB) := by
 have hz := Lib.size_eq s
 intro d
 induction d with
 | zero =>
  intro i hi
  refine ev_succ ?_
  simp only [spec_l2Name.l0]
  refine ev_neg (by omega) (ev_to (ev_some _) ?_)
  rw [List.drop_eq_nil_of_le (by omega)]; rfl
 | succ d ih =>
  intro i hi
  have hi' : i < s.data.toList.length := by omega
  refine ev_succ ?_
  simp only [spec_l2Name.l0]
  refine ev_pos (by omega) (ev_pos (by omega) ?_)
  rw [bt_get s i hi', List.drop_eq_getElem_cons hi', wrap_up (by omega)]
  generalize s.data.toList[i] = b
  by_cases h1 : (b.toNat : Int) < 97
  ·refine ev_pos h1 (ev_to (ev_some _) ?_)
   have : letterB b = false := by unfold letterB; simp; omega
   simp [this]
  refine ev_neg h1 ?_
  by_cases h2 : (b.toNat : Int) > 122
  ·refine ev_pos h2 (ev_to (ev_some _) ?_)
   have : letterB b = false := by unfold letterB; simp; omega
   simp [this]
  refine ev_neg h2 (ev_to (ih (i + 1) (by omega)) ?_)
  have : letterB b = true := by unfold letterB; simp; omega
  simp [this]
theorem l2Name_ev (s : ByteArray) : Ev (fun k => spec_l2Name.f k s) (nameB s) := by
 unfold spec_l2Name.f nameB
 by_cases h1 : (s.size : Int) < 1
 ·refine ev_pos h1 (ev_succ ?_)
  simp only [spec_l2Name.j0]
  exact ev_pos (by simp) (ev_to (ev_some _) (by simp; omega))
 refine ev_neg h1 (ev_succ ?_)
 simp only [spec_l2Name.j0]
 by_cases h2 : (s.size : Int) > 3
 ·exact ev_pos (by simpa using h2) (ev_to (ev_some _) (by simp; omega))
 refine ev_neg (by simpa using h2) (ev_to (l2Name_l0 s (by omega) s.size 0 (by omega)) ?_)
 have : decide (1 ≤ s.size ∧ s.size ≤ 3) = true := by simp; omega
 rw [this]; rfl
theorem isName_eq (s : ByteArray) : impl_isName.f s = some (nameB s) := by
 unfold impl_isName.f nameB
 by_cases h1 : (s.size : Int) ≥ 1
 ·rw [if_pos h1]
  by_cases h2 : (s.size : Int) ≤ 3
  ·rw [if_pos h2]
   have ht : strings_Trim.f s abc = some ⟨(Lib.trimS s.data.toList abc.data.toList).toArray⟩ := by
    unfold strings_Trim.f
    exact if_pos ⟨by omega, by decide, by decide +kernel⟩
   refine bind_eq ht ?_
   have : decide (1 ≤ s.size ∧ s.size ≤ 3) = true := by simp; omega
   rw [this, Lib.toList_data]
   simp only [Bool.true_and]
   rw [← trim_abc]
  ·rw [if_neg h2]
   have : decide (1 ≤ s.size ∧ s.size ≤ 3) = false := by simp; omega
   rw [this]; rfl
 ·rw [if_neg h1]
  have : decide (1 ≤ s.size ∧ s.size ≤ 3) = false := by simp; omega
  rw [this]; rfl
def nameAt (l : List S99) (i : Nat) : List UInt8 := (rd_T99 l (i : Int)).f0.toList
def symFault (l : List S99) (i : Nat) : Option Int :=
 if nameB (rd_T99 l (i : Int)).f0 = true then (if 0 ≤ (rd_T99 l (i : Int)).f1 ∧ (rd_T99 l (i : Int)).f1 ≤ 2 then none else some 3) else some 5
def dupB (l : List S99) (i : Nat) : Bool := (firstN (fun j => nameAt l i == nameAt l j) i 0).isSome
def dupFault (l : List S99) (i : Nat) : Option Int := if dupB l i = true then some 6 else none
def zeroB (l : List S99) : Bool := (firstN (fun j => (rd_T99 l (j : Int)).f1 == 0) l.length 0).isSome
def sigF (l : List S99) : Int :=
 if l.length < 1 ∨ l.length > 6 then 2 else scanN (symFault l) (scanN (dupFault l) (if zeroB l = true then 0 else 4) l.length 0) l.length 0
theorem within_eq (a b c : Int) : impl_within.f a b c = some (decide (b ≤ a ∧ a ≤ c)) := by
 unfold impl_within.f
 by_cases h : a ≥ b
 ·rw [if_pos h]
  by_cases h' : a ≤ c
  ·simp [h']; omega
  ·simp [h']
 ·rw [if_neg h]
  simp; omega
theorem l1In_eq (a b c : Int) : spec_l1In.f a b c = some (decide (b ≤ a ∧ a ≤ c)) := by
 unfold spec_l1In.f
 by_cases h : a ≥ b
 ·rw [if_pos h]
  by_cases h' : a ≤ c
  ·simp [h']; omega
  ·simp [h']
 ·rw [if_neg h]
  simp; omega
theorem Sig_l3 (l : List S99) (hl : l.length ≤ 6) : Ev (fun k => spec_SignatureFault.l3 k (l.length : Int) 0 l) (if zeroB l = true then 0 else 4) := by
 have h := loop_scan l.length (fun j => if ((rd_T99 l (j : Int)).f1 == 0) = true then some 0 else none) 4 (fun k i => spec_SignatureFault.l3 k (l.length : Int) i l)
  (by simp only [spec_SignatureFault.l3]; exact ev_neg (by omega) (ev_some _))
  (fun i hi r hr => by
   simp only [spec_SignatureFault.l3]
   refine ev_pos (by omega) (ev_pos (by omega) (ev_pos (by omega) ?_))
   rw [wrap_up (by omega)]
   by_cases h : (rd_T99 l (i : Int)).f1 = 0
   ·refine ev_pos h (ev_to (ev_some _) (by simp [h]))
   ·refine ev_neg h (ev_to hr (by simp [h])))
  l.length 0 (by omega)
 refine ev_to h ?_
 rw [scanN_first (fun j => (rd_T99 l (j : Int)).f1 == 0) (fun _ => (0 : Int)) 4]
 unfold zeroB
 cases firstN (fun j => (rd_T99 l (j : Int)).f1 == 0) l.length 0 <;> rfl
theorem Sig_l2 (l : List S99) (hl : l.length ≤ 6) (i : Nat) (hi : i < l.length) (r : Int) (hr : Ev (fun k => spec_SignatureFault.l1 k (l.length : Int) ((i + 1 : Nat) : Int) l) r) :
  Ev (fun k => spec_SignatureFault.l2 k (l.length : Int) (i : Int) 0 l) ((dupFault l i).getD r) := by
 have h := loop_scan i (fun j => if (nameAt l i == nameAt l j) = true then some 6 else none) r (fun k j => spec_SignatureFault.l2 k (l.length : Int) (i : Int) j l)
  (by simp only [spec_SignatureFault.l2]; refine ev_neg (by omega) ?_; rw [wrap_up (by omega)]; exact hr)
  (fun j hj r hr => by
   simp only [spec_SignatureFault.l2]
   refine ev_pos (by omega) (ev_pos (by omega) (ev_pos (by omega) (ev_pos (by omega) (ev_pos (by omega) ?_))))
   rw [wrap_up (by omega)]
   by_cases h : nameAt l i = nameAt l j
   ·refine ev_pos h (ev_to (ev_some _) (by simp [h]))
   ·refine ev_neg h (ev_to hr (by simp [h])))
  i 0 (by omega)
 refine ev_to h ?_
 rw [scanN_first (fun j => nameAt l i == nameAt l j) (fun _ => (6 : Int)) r]
 unfold dupFault dupB
 cases firstN (fun j => nameAt l i == nameAt l j) i 0 <;> rfl
theorem Sig_l1 (l : List S99) (hl : l.length ≤ 6) : Ev (fun k => spec_SignatureFault.l1 k (l.length : Int) 0 l) (scanN (dupFault l) (if zeroB l = true then 0 else 4) l.length 0) :=
 loop_scan l.length (dupFault l) (if zeroB l = true then 0 else 4) (fun k i => spec_SignatureFault.l1 k (l.length : Int) i l)
  (by simp only [spec_SignatureFault.l1]; exact ev_neg (by omega) (Sig_l3 l hl))
  (fun i hi r hr => by
   simp only [spec_SignatureFault.l1]
   exact ev_pos (by omega) (Sig_l2 l hl i hi r hr))
  l.length 0 (by omega)
theorem Sig_l0 (l : List S99) (hl : l.length ≤ 6) : Ev (fun k => spec_SignatureFault.l0 k (l.length : Int) 0 l) (scanN (symFault l) (scanN (dupFault l) (if zeroB l = true then 0 else 4) l.length 0) l.length 0) :=
 loop_scan l.length (symFault l) _ (fun k i => spec_SignatureFault.l0 k (l.length : Int) i l)
  (by simp only [spec_SignatureFault.l0]; exact ev_neg (by omega) (Sig_l1 l hl))
  (fun i hi r hr => by
   simp only [spec_SignatureFault.l0]
   refine ev_pos (by omega) (ev_pos (by omega) (ev_pos (by omega) (ev_bind (l2Name_ev _) ?_)))
   unfold symFault
   by_cases h : nameB (rd_T99 l (i : Int)).f0 = true
   ·refine ev_pos h (ev_bindq (l1In_eq _ _ _) ?_)
    rw [if_pos h, wrap_up (by omega)]
    by_cases h' : 0 ≤ (rd_T99 l (i : Int)).f1 ∧ (rd_T99 l (i : Int)).f1 ≤ 2
    ·rw [if_pos h']
     exact ev_pos (by simpa using h') hr
    ·rw [if_neg h']
     exact ev_neg (by simpa using h') (ev_some _)
   ·rw [if_neg h]
    exact ev_neg h (ev_some _))
  l.length 0 (by omega)
theorem SignatureFault_spec (l : List S99) : Ev (fun k => spec_SignatureFault.f k l) (sigF l) := by
 unfold spec_SignatureFault.f sigF
 by_cases h1 : (l.length : Int) < 1
 ·rw [if_pos (.inl (by omega))]
  refine ev_pos h1 (ev_succ ?_)
  simp only [spec_SignatureFault.j0]
  exact ev_pos (by simp) (ev_some _)
 refine ev_neg h1 (ev_succ ?_)
 simp only [spec_SignatureFault.j0]
 by_cases h2 : (l.length : Int) > 6
 ·rw [if_pos (.inr (by omega))]
  exact ev_pos (by simpa using h2) (ev_some _)
 ·rw [if_neg (by omega)]
  exact ev_neg (by simpa using h2) (Sig_l0 l (by omega))
theorem symbolIndex_ev (l : List S99) (hl : l.length ≤ 1048576) (s : ByteArray) : Ev (fun k => impl_symbolIndex.f k l s) (placeN (fun j => nameAt l j == s.toList) l.length) := by
 unfold impl_symbolIndex.f
 refine ev_bind (a := placeN (fun j => nameAt l j == s.toList) l.length) ?_ (ev_some _)
 unfold slices_IndexFunc_impl_Symbol_impl_Symbol_impl_symbolIndex_1.f
 have h := loop_scan l.length (fun j => if (nameAt l j == s.toList) = true then some (j : Int) else none) (-1) (fun k i => slices_IndexFunc_impl_Symbol_impl_Symbol_impl_symbolIndex_1.l0 k l (l.length : Int) i [s])
  (by simp only [slices_IndexFunc_impl_Symbol_impl_Symbol_impl_symbolIndex_1.l0]; exact ev_neg (by omega) (ev_some _))
  (fun i hi r hr => by
   simp only [slices_IndexFunc_impl_Symbol_impl_Symbol_impl_symbolIndex_1.l0]
   refine ev_pos (by omega) (ev_pos (by omega) (ev_pos (by omega) (ev_bindq (a := nameAt l i == s.toList) ?_ ?_)))
   ·unfold impl_symbolIndex_1_with.f
    rw [if_pos (by simp)]
    rfl
   ·rw [wrap_up (by omega)]
    by_cases h : (nameAt l i == s.toList) = true
    ·rw [if_pos h]; exact ev_pos h (ev_some _)
    ·rw [if_neg h]; exact ev_neg h hr)
  l.length 0 (by omega)
 rw [scanN_place (fun j => nameAt l j == s.toList)] at h
 exact h
theorem dup_place (l : List S99) (i : Nat) (hi : i < l.length) : placeN (fun j => nameAt l j == (rd_T99 l (i : Int)).f0.toList) l.length = (i : Int) ↔ dupB l i = false := by
 unfold dupB
 have hn : (firstN (fun j => nameAt l i == nameAt l j) i 0).isSome = false ↔ ∀ j, j < i → (nameAt l i == nameAt l j) = false := by
  rw [Option.isSome_eq_false_iff, Option.isNone_iff_eq_none, firstN_none]
  exact ⟨fun h j hj => h j (by omega) (by omega), fun h j _ hj => h j (by omega)⟩
 rw [hn]
 rcases placeN_cases (fun j => nameAt l j == (rd_T99 l (i : Int)).f0.toList) l.length with ⟨h1, h2⟩ | ⟨j, hj, h1, h2, h3⟩
 ·have := h2 i hi
  simp [nameAt] at this
 ·rw [h1]
  constructor
  ·intro e
   obtain rfl : j = i := by omega
   intro m hm
   have := h3 m hm
   simp only [beq_eq_false_iff_ne, ne_eq] at this ⊢
   exact fun e => this e.symm
  ·intro h
   have hji : ¬ j < i := fun hlt => by
    have := h j hlt
    simp only [beq_eq_false_iff_ne, ne_eq] at this
    exact this (by simpa [nameAt] using (eq_comm.1 (beq_iff_eq.1 h2)))
   have hij : ¬ i < j := fun hlt => by
    have := h3 i hlt
    simp [nameAt] at this
   omega
theorem ISig_last (l : List S99) (hl : l.length ≤ 6) : Ev (fun k => slices_ContainsFunc_impl_Symbol_impl_Symbol_impl_SignatureFault_1.f k l) (zeroB l) := by
 unfold slices_ContainsFunc_impl_Symbol_impl_Symbol_impl_SignatureFault_1.f slices_IndexFunc_impl_Symbol_impl_Symbol_impl_SignatureFault_1.f
 have h := loop_scan l.length (fun j => if ((rd_T99 l (j : Int)).f1 == 0) = true then some (j : Int) else none) (-1) (fun k i => slices_IndexFunc_impl_Symbol_impl_Symbol_impl_SignatureFault_1.l0 k l (l.length : Int) i)
  (by simp only [slices_IndexFunc_impl_Symbol_impl_Symbol_impl_SignatureFault_1.l0]; exact ev_neg (by omega) (ev_some _))
  (fun i hi r hr => by
   simp only [slices_IndexFunc_impl_Symbol_impl_Symbol_impl_SignatureFault_1.l0]
   refine ev_pos (by omega) (ev_pos (by omega) (ev_pos (by omega) (ev_bindq rfl ?_)))
   rw [wrap_up (by omega)]
   by_cases h : ((rd_T99 l (i : Int)).f1 == 0) = true
   ·rw [if_pos h]; exact ev_pos h (ev_some _)
   ·rw [if_neg h]; exact ev_neg h hr)
  l.length 0 (by omega)
 rw [scanN_first (fun j => (rd_T99 l (j : Int)).f1 == 0) (fun j => (j : Int)) (-1)] at h
 refine ev_bind h (ev_to (ev_some _) ?_)
 unfold zeroB
 cases firstN (fun j => (rd_T99 l (j : Int)).f1 == 0) l.length 0 with
 | none => rfl
 | some j => simp
theorem ISig_l1 (l : List S99) (hl : l.length ≤ 6) : Ev (fun k => impl_SignatureFault.l1 k l (l.length : Int) 0 l) (scanN (dupFault l) (if zeroB l = true then 0 else 4) l.length 0) :=
 loop_scan l.length (dupFault l) (if zeroB l = true then 0 else 4) (fun k i => impl_SignatureFault.l1 k l (l.length : Int) i l)
  (by
   simp only [impl_SignatureFault.l1]
   refine ev_neg (by omega) (ev_bind (ISig_last l hl) ?_)
   by_cases h : zeroB l = true
   ·exact ev_to (ev_pos h (ev_some _)) (if_pos h).symm
   ·exact ev_to (ev_neg h (ev_some _)) (if_neg h).symm)
  (fun i hi r hr => by
   simp only [impl_SignatureFault.l1]
   refine ev_pos (by omega) (ev_pos (by omega) (ev_pos (by omega) (ev_bind (symbolIndex_ev l (by omega) _) ?_)))
   have hd := dup_place l i hi
   rw [wrap_up (by omega)]
   unfold dupFault
   by_cases h : dupB l i = true
   ·rw [if_pos h]
    exact ev_neg (fun e => by rw [hd.1 e] at h; cases h) (ev_some _)
   ·rw [if_neg h]
    exact ev_pos (hd.2 (Bool.eq_false_iff.2 h)) hr)
  l.length 0 (by omega)
theorem SignatureFault_impl (l : List S99) : Ev (fun k => impl_SignatureFault.f k l) (sigF l) := by
 unfold impl_SignatureFault.f sigF
 by_cases h1 : (l.length : Int) < 1
 ·rw [if_pos (.inl (by omega))]
  refine ev_pos h1 (ev_succ ?_)
  simp only [impl_SignatureFault.j0]
  exact ev_pos (by simp) (ev_some _)
 refine ev_neg h1 (ev_succ ?_)
 simp only [impl_SignatureFault.j0]
 by_cases h2 : (l.length : Int) > 6
 ·rw [if_pos (.inr (by omega))]
  exact ev_pos (by simpa using h2) (ev_some _)
 rw [if_neg (by omega)]
 refine ev_neg (by simpa using h2) ?_
 exact loop_scan l.length (symFault l) _ (fun k i => impl_SignatureFault.l0 k l (l.length : Int) i l)
  (by simp only [impl_SignatureFault.l0]; exact ev_neg (by omega) (ISig_l1 l (by omega)))
  (fun i hi r hr => by
   simp only [impl_SignatureFault.l0]
   refine ev_pos (by omega) (ev_pos (by omega) (ev_pos (by omega) (ev_bindq (isName_eq _) ?_)))
   unfold symFault
   by_cases h : nameB (rd_T99 l (i : Int)).f0 = true
   ·refine ev_pos h (ev_bindq (within_eq _ _ _) ?_)
    rw [if_pos h, wrap_up (by omega)]
    by_cases h' : 0 ≤ (rd_T99 l (i : Int)).f1 ∧ (rd_T99 l (i : Int)).f1 ≤ 2
    ·rw [if_pos h']
     exact ev_pos (by simpa using h') hr
    ·rw [if_neg h']
     exact ev_neg (by simpa using h') (ev_some _)
   ·rw [if_neg h]
    exact ev_neg h (ev_some _))
  l.length 0 (by omega)
structure Right (l : List S99) : Prop where
 len : 1 ≤ l.length ∧ l.length ≤ 6
 names : ∀ i, i < l.length → nameB (rd_T99 l (i : Int)).f0 = true
 arities : ∀ i, i < l.length → 0 ≤ (rd_T99 l (i : Int)).f1 ∧ (rd_T99 l (i : Int)).f1 ≤ 2
 apart : ∀ i, i < l.length → dupB l i = false
theorem right_of (l : List S99) (h : sigF l = 0) : Right l := by
 unfold sigF at h
 by_cases h1 : l.length < 1 ∨ l.length > 6
 ·rw [if_pos h1] at h; omega
 rw [if_neg h1] at h
 have hlen : 1 ≤ l.length ∧ l.length ≤ 6 := by omega
 rcases scanN_cases (symFault l) (scanN (dupFault l) (if zeroB l = true then 0 else 4) l.length 0) l.length 0 with ⟨h2, h3⟩ | ⟨j, _, _, h3⟩
 ·rw [h3] at h
  rcases scanN_cases (dupFault l) (if zeroB l = true then 0 else 4) l.length 0 with ⟨h4, h5⟩ | ⟨j, _, _, h5⟩
  ·refine ⟨hlen, fun i hi => ?_, fun i hi => ?_, fun i hi => ?_⟩
   ·have := h2 i (by omega) (by omega)
    unfold symFault at this
    by_cases hn : nameB (rd_T99 l (i : Int)).f0 = true
    ·exact hn
    ·rw [if_neg hn] at this; cases this
   ·have := h2 i (by omega) (by omega)
    unfold symFault at this
    by_cases hn : nameB (rd_T99 l (i : Int)).f0 = true
    ·rw [if_pos hn] at this
     by_cases ha : 0 ≤ (rd_T99 l (i : Int)).f1 ∧ (rd_T99 l (i : Int)).f1 ≤ 2
     ·exact ha
     ·rw [if_neg ha] at this; cases this
    ·rw [if_neg hn] at this; cases this
   ·have := h4 i (by omega) (by omega)
    unfold dupFault at this
    by_cases hd : dupB l i = true
    ·rw [if_pos hd] at this; cases this
    ·exact Bool.eq_false_iff.2 hd
  ·rw [h] at h5
   unfold dupFault at h5
   by_cases hd : dupB l j = true
   ·rw [if_pos hd] at h5; cases h5
   ·rw [if_neg hd] at h5; cases h5
 ·rw [h] at h3
  unfold symFault at h3
  by_cases hn : nameB (rd_T99 l (j : Int)).f0 = true
  ·rw [if_pos hn] at h3
   by_cases ha : 0 ≤ (rd_T99 l (j : Int)).f1 ∧ (rd_T99 l (j : Int)).f1 ≤ 2
   ·rw [if_pos ha] at h3; cases h3
   ·rw [if_neg ha] at h3; cases h3
  ·rw [if_neg hn] at h3; cases h3
end Go.Proofs.YtedkbpbodkmhlaaDoor.Pure
set_option linter.unusedVariables false
namespace Go.Proofs.YtedkbpbodkmhlaaDoor.Pure
open Go.RowKit Go.Proofs.YtedkbpbodkmhlaaDoor.P Go.Proofs.YtedkbpbodkmhlaaDoorW.PrintWords Go.Proofs.YtedkbpbodkmhlaaDoorW.PrintLast Go.Proofs.YtedkbpbodkmhlaaDoor.Base
def symB (l : List S99) (n : Int) : Bool := decide (0 ≤ n ∧ n ≤ (l.length : Int) - 1)
theorem l2Symbol_eq (l : List S99) (hl : l.length ≤ 1048576) (n : Int) : spec_l2Symbol.f [(⟨l⟩ : S42)] n = some (symB l n) := by
 unfold spec_l2Symbol.f
 rw [if_pos (by simp)]
 show (spec_l1In.f n 0 (wrap64 ((l.length : Int) - 1))).bind _ = _
 rw [l1In_eq, wrap_id (by omega) (by omega)]
 rfl
theorem isSymbol_eq (l : List S99) (hl : l.length ≤ 1048576) (n : Int) : impl_isSymbol.f l n = some (symB l n) := by
 unfold impl_isSymbol.f
 rw [within_eq, wrap_id (by omega) (by omega)]
 rfl
theorem symB_true {l : List S99} {n : Int} (h : symB l n = true) : 0 ≤ n ∧ n < (l.length : Int) := by
 unfold symB at h
 have := of_decide_eq_true h
 omega
end Go.Proofs.YtedkbpbodkmhlaaDoor.Pure
set_option linter.unusedVariables false
namespace Go.Proofs.YtedkbpbodkmhlaaDoor.Pure
open Go.RowKit Go.Proofs.YtedkbpbodkmhlaaDoor.P Go.Proofs.YtedkbpbodkmhlaaDoorW.PrintWords Go.Proofs.YtedkbpbodkmhlaaDoorW.PrintLast Go.Proofs.YtedkbpbodkmhlaaDoor.Base
theorem slicesIndex_ev (o : List Int) (ho : o.length ≤ 9000000000000000000) (v : Int) : Ev (fun k => slices_Index_int64_int64.f k o v) (placeN (fun j => v == rd o (j : Int)) o.length) := by
 unfold slices_Index_int64_int64.f
 have h := loop_scan o.length (fun j => if (v == rd o (j : Int)) = true then some (j : Int) else none) (-1) (fun k i => slices_Index_int64_int64.l0 k o v (o.length : Int) i)
  (by simp only [slices_Index_int64_int64.l0]; exact ev_neg (by omega) (ev_some _))
  (fun i hi r hr => by
   simp only [slices_Index_int64_int64.l0]
   refine ev_pos (by omega) (ev_pos (by omega) (ev_pos (by omega) ?_))
   rw [wrap_up (by omega)]
   by_cases h : v = rd o (i : Int)
   ·exact ev_pos h (ev_to (ev_some _) (by simp [h]))
   ·exact ev_neg h (ev_to hr (by simp [h])))
  o.length 0 (by omega)
 rw [scanN_place (fun j => v == rd o (j : Int))] at h
 exact h
theorem slicesContains_ev (o : List Int) (ho : o.length ≤ 9000000000000000000) (v : Int) : Ev (fun k => slices_Contains_int64_int64.f k o v) (firstN (fun j => v == rd o (j : Int)) o.length 0).isSome := by
 unfold slices_Contains_int64_int64.f
 refine ev_bind (slicesIndex_ev o ho v) (ev_to (ev_some _) ?_)
 unfold placeN
 cases firstN (fun j => v == rd o (j : Int)) o.length 0 with
 | none => rfl
 | some j => simp
theorem scanN_const {R : Type} (p : Nat → Bool) (c e : R) (d i : Nat) : scanN (fun j => if p j = true then some c else none) e d i = if (firstN p d i).isSome = true then c else e := by
 rw [scanN_first p (fun _ => c) e]
 cases firstN p d i <;> rfl
theorem firstN_congr {p q : Nat → Bool} : ∀ (d i : Nat), (∀ j, i ≤ j → j < i + d → p j = q j) → firstN p d i = firstN q d i
 | 0, _, _ => rfl
 | d + 1, i, h => by
  rw [firstN, firstN, h i (by omega) (by omega), firstN_congr d (i + 1) (fun j h1 h2 => h j (by omega) (by omega))]
def odupB (o : List Int) (i : Nat) : Bool := (firstN (fun j => rd o (i : Int) == rd o (j : Int)) i 0).isSome
def odupFault (o : List Int) (i : Nat) : Option Int := if odupB o i = true then some 6 else none
def ordG (l : List S99) (o : List Int) : Int :=
 if o.length = l.length then (if (firstN (fun j => !symB l (rd o (j : Int))) o.length 0).isSome = true then 3 else scanN (odupFault o) 0 o.length 0) else 2
def ordF (l : List S99) (o : List Int) : Int := if sigF l = 0 then ordG l o else sigF l
theorem Order_l2 (o : List Int) (ho : o.length ≤ 1048576) (i : Nat) (hi : i < o.length) (r : Int) (hr : Ev (fun k => spec_l2Order.l1 k o ((i + 1 : Nat) : Int)) r) : Ev (fun k => spec_l2Order.l2 k o (i : Int) 0) ((odupFault o i).getD r) := by
 have h := loop_scan i (fun j => if (rd o (i : Int) == rd o (j : Int)) = true then some 6 else none) r (fun k j => spec_l2Order.l2 k o (i : Int) j)
  (by simp only [spec_l2Order.l2]; refine ev_neg (by omega) ?_; rw [wrap_up (by omega)]; exact hr)
  (fun j hj r hr => by
   simp only [spec_l2Order.l2]
   refine ev_pos (by omega) (ev_pos (by omega) (ev_pos (by omega) (ev_pos (by omega) (ev_pos (by omega) ?_))))
   rw [wrap_up (by omega)]
   by_cases h : rd o (i : Int) = rd o (j : Int)
   ·exact ev_pos h (ev_to (ev_some _) (by simp [h]))
   ·exact ev_neg h (ev_to hr (by simp [h])))
  i 0 (by omega)
 refine ev_to h ?_
 rw [scanN_const (fun j => rd o (i : Int) == rd o (j : Int)) 6 r]
 unfold odupFault odupB
 cases (firstN (fun j => rd o (i : Int) == rd o (j : Int)) i 0).isSome <;> rfl
theorem Order_l1 (o : List Int) (ho : o.length ≤ 1048576) : Ev (fun k => spec_l2Order.l1 k o 0) (scanN (odupFault o) 0 o.length 0) :=
 loop_scan o.length (odupFault o) 0 (fun k i => spec_l2Order.l1 k o i)
  (by simp only [spec_l2Order.l1]; exact ev_neg (by omega) (ev_some _))
  (fun i hi r hr => by
   simp only [spec_l2Order.l1]
   exact ev_pos (by omega) (Order_l2 o ho i hi r hr))
  o.length 0 (by omega)
theorem l2Order_ev (l : List S99) (hl : l.length ≤ 6) (o : List Int) (ho : o.length ≤ 1048576) : Ev (fun k => spec_l2Order.f k [(⟨l⟩ : S42)] o) (ordG l o) := by
 unfold spec_l2Order.f ordG
 have e : (rd_T42 [(⟨l⟩ : S42)] 0).f0 = l := rfl
 simp only [e]
 refine ev_pos (by simp) ?_
 by_cases hlen : o.length = l.length
 ·rw [if_pos hlen]
  refine ev_pos (by omega) ?_
  have h := loop_scan o.length (fun j => if (!symB l (rd o (j : Int))) = true then some 3 else none) (scanN (odupFault o) 0 o.length 0) (fun k i => spec_l2Order.l0 k [(⟨l⟩ : S42)] o i)
   (by simp only [spec_l2Order.l0]; exact ev_neg (by omega) (Order_l1 o ho))
   (fun i hi r hr => by
    simp only [spec_l2Order.l0]
    refine ev_pos (by omega) (ev_pos (by omega) (ev_bindq (l2Symbol_eq l (by omega) _) ?_))
    rw [wrap_up (by omega)]
    by_cases h : symB l (rd o (i : Int)) = true
    ·exact ev_pos h (ev_to hr (by simp [h]))
    ·exact ev_neg h (ev_to (ev_some _) (by simp [h])))
   o.length 0 (by omega)
  rw [scanN_const (fun j => !symB l (rd o (j : Int))) 3] at h
  exact h
 ·rw [if_neg hlen]
  exact ev_neg (by omega) (ev_some _)
theorem OrderFault_spec (l : List S99) (o : List Int) (ho : o.length ≤ 1048576) : Ev (fun k => spec_OrderFault.f k l o) (ordF l o) := by
 unfold spec_OrderFault.f ordF
 refine ev_bind (SignatureFault_spec l) (ev_ite (fun h => ?_) (fun h => ev_some _))
 have hl := (right_of l h).len
 exact ev_bind (l2Order_ev l (by omega) o ho) (ev_some _)
theorem Order_notSym (l : List S99) (hl : l.length ≤ 6) (o : List Int) (ho : o.length ≤ 1048576) :
  Ev (fun k => slices_ContainsFunc_int64_int64_impl_OrderFault_1.f k o [(⟨l⟩ : S42)]) (firstN (fun j => !symB l (rd o (j : Int))) o.length 0).isSome := by
 unfold slices_ContainsFunc_int64_int64_impl_OrderFault_1.f slices_IndexFunc_int64_int64_impl_OrderFault_1.f
 have h := loop_scan o.length (fun j => if (!symB l (rd o (j : Int))) = true then some (j : Int) else none) (-1) (fun k i => slices_IndexFunc_int64_int64_impl_OrderFault_1.l0 k o (o.length : Int) i [(⟨l⟩ : S42)])
  (by simp only [slices_IndexFunc_int64_int64_impl_OrderFault_1.l0]; exact ev_neg (by omega) (ev_some _))
  (fun i hi r hr => by
   simp only [slices_IndexFunc_int64_int64_impl_OrderFault_1.l0]
   refine ev_pos (by omega) (ev_pos (by omega) (ev_pos (by omega) (ev_bindq (a := !symB l (rd o (i : Int))) ?_ ?_)))
   ·unfold impl_OrderFault_1_with.f
    rw [if_pos (by simp)]
    exact bind_eq (isSymbol_eq l (by omega) _) rfl
   ·rw [wrap_up (by omega)]
    by_cases h : (!symB l (rd o (i : Int))) = true
    ·rw [if_pos h]; exact ev_pos h (ev_some _)
    ·rw [if_neg h]; exact ev_neg h hr)
  o.length 0 (by omega)
 rw [scanN_first (fun j => !symB l (rd o (j : Int))) (fun j => (j : Int)) (-1)] at h
 refine ev_bind h (ev_to (ev_some _) ?_)
 cases firstN (fun j => !symB l (rd o (j : Int))) o.length 0 with
 | none => rfl
 | some j => simp
theorem Order_l0 (o : List Int) (ho : o.length ≤ 1048576) : Ev (fun k => impl_OrderFault.l0 k o o (o.length : Int) 0) (scanN (odupFault o) 0 o.length 0) :=
 loop_scan o.length (odupFault o) 0 (fun k i => impl_OrderFault.l0 k o o (o.length : Int) i)
  (by simp only [impl_OrderFault.l0]; exact ev_neg (by omega) (ev_some _))
  (fun i hi r hr => by
   simp only [impl_OrderFault.l0]
   have hc := slicesContains_ev (o.take i) (by rw [List.length_take]; omega) (rd o (i : Int))
   have hd : (firstN (fun j => rd o (i : Int) == rd (o.take i) (j : Int)) (o.take i).length 0).isSome = odupB o i := by
    unfold odupB
    rw [List.length_take, Nat.min_eq_left (by omega)]
    rw [firstN_congr i 0 (q := fun j => rd o (i : Int) == rd o (j : Int)) (fun j _ hj => by
     rw [rd_get (o.take i) j (by rw [List.length_take]; omega), rd_get o j (by omega), List.getElem_take])]
   rw [hd] at hc
   refine ev_pos (by omega) (ev_pos (by omega) (ev_pos (by omega) (ev_pos (by omega) ?_)))
   rw [Int.toNat_natCast, wrap_up (by omega)]
   refine ev_bind hc ?_
   unfold odupFault
   by_cases h : odupB o i = true
   ·rw [if_pos h]; exact ev_pos h (ev_some _)
   ·rw [if_neg h]; exact ev_neg h hr)
  o.length 0 (by omega)
theorem OrderFault_impl (l : List S99) (o : List Int) (ho : o.length ≤ 1048576) : Ev (fun k => impl_OrderFault.f k l o) (ordF l o) := by
 unfold impl_OrderFault.f ordF
 refine ev_bind (SignatureFault_impl l) (ev_ite (fun h => ?_) (fun h => ev_some _))
 have hl := (right_of l h).len
 unfold ordG
 by_cases hlen : o.length = l.length
 ·rw [if_pos hlen]
  exact ev_pos (by omega) (ev_bind (Order_notSym l (by omega) o ho) (ev_ite (fun hn => ev_some _) (fun hn => Order_l0 o ho)))
 ·rw [if_neg hlen]; exact ev_neg (by omega) (ev_some _)
end Go.Proofs.YtedkbpbodkmhlaaDoor.Pure
set_option linter.unusedVariables false
namespace Go.Proofs.YtedkbpbodkmhlaaDoor.Pure
open Go.RowKit Go.Proofs.YtedkbpbodkmhlaaDoorW.PrintWords Go.Proofs.YtedkbpbodkmhlaaDoor.Base
theorem nodup_length : ∀ (m : Nat) (xs : List Nat), xs.Nodup → (∀ x ∈ xs, x < m) → xs.length ≤ m
 | 0, xs, _, h => by
  cases xs with
  | nil => simp
  | cons x xs => exact absurd (h x (by simp)) (by omega)
 | m + 1, xs, hn, h => by
  by_cases hm : m ∈ xs
  ·have h1 := nodup_length m (xs.erase m) (hn.erase m) (fun x hx => by
    have := (List.Nodup.mem_erase_iff hn).1 hx
    have := h x this.2
    omega)
   rw [List.length_erase_of_mem hm] at h1
   omega
  ·have h1 := nodup_length m xs hn (fun x hx => by
    have := h x hx
    have : x ≠ m := fun e => hm (e ▸ hx)
    omega)
   omega
theorem nodup_all (n : Nat) (xs : List Nat) (hn : xs.Nodup) (h : ∀ x ∈ xs, x < n) (hl : xs.length = n) (v : Nat) (hv : v < n) : v ∈ xs := by
 by_cases hm : v ∈ xs
 ·exact hm
 have := nodup_length n (v :: xs) (List.nodup_cons.2 ⟨hm, hn⟩) (fun x hx => by
  rcases List.mem_cons.1 hx with rfl | hx
  ·exact hv
  ·exact h x hx)
 simp only [List.length_cons] at this
 omega
theorem perm_place (o : List Int) (h : ∀ i, i < o.length → 0 ≤ rd o (i : Int) ∧ rd o (i : Int) < (o.length : Int)) (hd : ∀ i j, i < o.length → j < i → rd o (i : Int) ≠ rd o (j : Int)) (v : Int) (h0 : 0 ≤ v) (h1 : v < (o.length : Int)) :
  ∃ j, j < o.length ∧ rd o (j : Int) = v := by
 have hN : (o.map Int.toNat).Nodup := by
  rw [List.nodup_iff_pairwise_ne, List.pairwise_iff_getElem]
  intro i j hi hj hij
  rw [List.length_map] at hi hj
  simp only [List.getElem_map]
  have a := h i hi
  have b := h j hj
  have c := hd j i hj hij
  rw [rd_get o i hi] at a c
  rw [rd_get o j hj] at b c
  omega
 have hm := nodup_all o.length (o.map Int.toNat) hN (fun x hx => by
  obtain ⟨y, hy, rfl⟩ := List.mem_map.1 hx
  obtain ⟨i, hi, rfl⟩ := List.getElem_of_mem hy
  have a := h i hi
  rw [rd_get o i hi] at a
  omega) (by simp) v.toNat (by omega)
 obtain ⟨y, hy, e⟩ := List.mem_map.1 hm
 obtain ⟨i, hi, rfl⟩ := List.getElem_of_mem hy
 refine ⟨i, hi, ?_⟩
 have a := h i hi
 rw [rd_get o i hi] at a ⊢
 omega
end Go.Proofs.YtedkbpbodkmhlaaDoor.Pure
set_option linter.unusedVariables false
namespace Go.Proofs.YtedkbpbodkmhlaaDoor.Pure
open Go.RowKit Go.Proofs.YtedkbpbodkmhlaaDoor.P Go.Proofs.YtedkbpbodkmhlaaDoorW.PrintWords Go.Proofs.YtedkbpbodkmhlaaDoorW.PrintLast Go.Proofs.YtedkbpbodkmhlaaDoor.Base
theorem ordF_rightR {l : List S99} {o : List Int} (h : ordF l o = 0) : Right l ∧ ordG l o = 0 := by
 unfold ordF at h
 by_cases hs : sigF l = 0
 ·rw [if_pos hs] at h; exact ⟨right_of l hs, h⟩
 ·rw [if_neg hs] at h; exact absurd h hs
theorem ord_right {l : List S99} {o : List Int} (h : ordF l o = 0) :
  o.length = l.length ∧ (∀ i, i < o.length → symB l (rd o (i : Int)) = true) ∧ ∀ i j, i < o.length → j < i → rd o (i : Int) ≠ rd o (j : Int) := by
 obtain ⟨_, hg⟩ := ordF_rightR h
 unfold ordG at hg
 by_cases hl : o.length = l.length
 ·rw [if_pos hl] at hg
  by_cases hb : (firstN (fun j => !symB l (rd o (j : Int))) o.length 0).isSome = true
  ·rw [if_pos hb] at hg; cases hg
  ·rw [if_neg hb] at hg
   have h1 : firstN (fun j => !symB l (rd o (j : Int))) o.length 0 = none := by
    cases hf : firstN (fun j => !symB l (rd o (j : Int))) o.length 0 with
    | none => rfl
    | some j => rw [hf] at hb; exact absurd rfl hb
   refine ⟨hl, fun i hi => ?_, fun i j hi hj => ?_⟩
   ·have := (firstN_none o.length 0).1 h1 i (by omega) (by omega)
    simpa using this
   ·rcases scanN_cases (odupFault o) 0 o.length 0 with ⟨h2, _⟩ | ⟨q, _, _, h3⟩
    ·have hi2 := h2 i (by omega) (by omega)
     unfold odupFault at hi2
     by_cases hd : odupB o i = true
     ·rw [if_pos hd] at hi2; cases hi2
     unfold odupB at hd
     have h4 : firstN (fun j => rd o (i : Int) == rd o (j : Int)) i 0 = none := by
      cases hf : firstN (fun j => rd o (i : Int) == rd o (j : Int)) i 0 with
      | none => rfl
      | some j => rw [hf] at hd; exact absurd rfl hd
     have := (firstN_none i 0).1 h4 j (by omega) (by omega)
     simpa using this
    ·rw [hg] at h3
     unfold odupFault at h3
     by_cases hd : odupB o q = true
     ·rw [if_pos hd] at h3; cases h3
     ·rw [if_neg hd] at h3; cases h3
 ·rw [if_neg hl] at hg; cases hg
theorem rank_place {l : List S99} {o : List Int} (h : ordF l o = 0) {n : Int} (hn : symB l n = true) :
  ∃ j, j < o.length ∧ placeN (fun j => n == rd o (j : Int)) o.length = (j : Int) ∧ rd o (j : Int) = n := by
 obtain ⟨hl, hs, hd⟩ := ord_right h
 obtain ⟨h0, h1⟩ := symB_true hn
 obtain ⟨q, hq, e⟩ := perm_place o (fun i hi => by
  have := symB_true (hs i hi); omega) hd n h0 (by omega)
 rcases placeN_cases (fun j => n == rd o (j : Int)) o.length with ⟨_, h2⟩ | ⟨j, hj, h2, h3, _⟩
 ·have := h2 q hq
  simp [e] at this
 ·exact ⟨j, hj, h2, by simpa using (beq_iff_eq.1 h3).symm⟩
theorem l1Ints_eqR (o : List Int) (ho : o.length ≤ 1048576) : spec_l1Ints.f o = some o := by
 unfold spec_l1Ints.f
 simp only [Option.bind_some, List.length_nil, Nat.zero_add, List.nil_append]
 exact if_pos (by omega)
theorem clone_eqR (o : List Int) (ho : o.length ≤ 1048576) : slices_Clone_int64_int64.f o = some o := by
 unfold slices_Clone_int64_int64.f
 exact if_pos (by omega)
theorem l2Rank_evR (o : List Int) (ho : o.length ≤ 1048576) (n : Int) : Ev (fun k => spec_l2Rank.f k o n) (placeN (fun j => n == rd o (j : Int)) o.length) := by
 unfold spec_l2Rank.f
 have h := loop_scan o.length (fun j => if (n == rd o (j : Int)) = true then some (j : Int) else none) (-1) (fun k i => spec_l2Rank.l0 k o n i)
  (by simp only [spec_l2Rank.l0]; exact ev_neg (by omega) (ev_some _))
  (fun i hi r hr => by
   simp only [spec_l2Rank.l0]
   refine ev_pos (by omega) (ev_pos (by omega) ?_)
   rw [wrap_up (by omega)]
   by_cases h : rd o (i : Int) = n
   ·exact ev_pos h (ev_to (ev_some _) (by simp [h]))
   ·exact ev_neg h (ev_to hr (by have h' : ¬ n = rd o (i : Int) := fun e => h e.symm; simp [h'])))
  o.length 0 (by omega)
 rw [scanN_place (fun j => n == rd o (j : Int))] at h
 exact h
def swapL (o : List Int) (j : Nat) : List Int := (o.set j (rd o ((j + 1 : Nat) : Int))).set (j + 1) (rd o (j : Int))
def raiseR (l : List S99) (o : List Int) (n : Int) : Int × List Int :=
 if ordF l o = 0 then (if symB l n = true then (if placeN (fun j => n == rd o (j : Int)) o.length = (o.length : Int) - 1 then (4, []) else (0, swapL o (placeN (fun j => n == rd o (j : Int)) o.length).toNat)) else (3, [])) else (ordF l o, [])
theorem RaiseSymbol_spec (l : List S99) (o : List Int) (ho : o.length ≤ 1048576) (n : Int) : Ev (fun k => spec_RaiseSymbol.f k l o n) (raiseR l o n) := by
 unfold spec_RaiseSymbol.f raiseR
 refine ev_bind (OrderFault_spec l o ho) (ev_ite (fun h => ?_) (fun h => ev_some _))
 have hl := (ordF_rightR h).1.len
 have hol := (ord_right h).1
 refine ev_bindq (l2Symbol_eq l (by omega) n) (ev_ite (fun hs => ?_) (fun hs => ev_some _))
 obtain ⟨j, hj, hp, hv⟩ := rank_place h hs
 refine ev_bind (l2Rank_evR o ho n) ?_
 rw [wrap_id (x := (o.length : Int) - 1) (by omega) (by omega), hp]
 refine ev_ite (fun hk => ev_some _) (fun hk => ?_)
 refine ev_bindq (l1Ints_eqR o ho) ?_
 rw [wrap_up (by omega), Int.toNat_natCast, Int.toNat_natCast]
 refine ev_pos (by omega) (ev_pos (by omega) (ev_pos (by omega) (ev_pos (by omega) (ev_pos (by omega) ?_))))
 refine ev_to (ev_some _) ?_
 unfold swapL
 rw [hv]
theorem RaiseSymbol_impl (l : List S99) (o : List Int) (ho : o.length ≤ 1048576) (n : Int) : Ev (fun k => impl_RaiseSymbol.f k l o n) (raiseR l o n) := by
 unfold impl_RaiseSymbol.f impl_RankOf.f raiseR
 by_cases h : ordF l o = 0
 ·rw [if_pos h]
  have hl := (ordF_rightR h).1.len
  have hol := (ord_right h).1
  by_cases hs : symB l n = true
  ·rw [if_pos hs]
   obtain ⟨j, hj, hp, hv⟩ := rank_place h hs
   refine ev_bind (a := (0, placeN (fun j => n == rd o (j : Int)) o.length)) (ev_bind (OrderFault_impl l o ho) (ev_pos h (ev_bindq (isSymbol_eq l (by omega) n) (ev_pos hs (ev_bind (slicesIndex_ev o (by omega) n) (ev_some _)))))) (ev_pos rfl ?_)
   rw [wrap_id (x := (o.length : Int) - 1) (by omega) (by omega)]
   simp only [hp]
   refine ev_ite (fun hk => ev_some _) (fun hk => ?_)
   refine ev_bindq (clone_eqR o ho) ?_
   rw [wrap_up (by omega), Int.toNat_natCast, Int.toNat_natCast]
   exact ev_pos (by omega) (ev_pos (by omega) (ev_pos (by omega) (ev_pos (by omega) (ev_some _))))
  ·rw [if_neg hs]
   exact ev_bind (a := (3, 0)) (ev_bind (OrderFault_impl l o ho) (ev_pos h (ev_bindq (isSymbol_eq l (by omega) n) (ev_neg hs (ev_some _))))) (ev_neg (by simp) (ev_some _))
 ·rw [if_neg h]
  exact ev_bind (a := (ordF l o, 0)) (ev_bind (OrderFault_impl l o ho) (ev_neg h (ev_some _))) (ev_neg h (ev_some _))
end Go.Proofs.YtedkbpbodkmhlaaDoor.Pure
set_option linter.unusedVariables false
namespace Go.Proofs.YtedkbpbodkmhlaaDoor.Pure
open Go.RowKit Go.Proofs.YtedkbpbodkmhlaaDoorW.PrintWords Go.Proofs.YtedkbpbodkmhlaaDoorW.PrintLast Go.Proofs.YtedkbpbodkmhlaaDoor.Base
def Byte (x : Int) : Prop := 0 ≤ x ∧ x ≤ 255
theorem rd_byte {xs : List Int} (hx : ∀ x ∈ xs, Byte x) (i : Int) (h0 : 0 ≤ i) (h1 : i < xs.length) : Byte (rd xs i) := by
 have := hx _ (rd_mem xs i.toNat (by omega))
 rwa [Int.toNat_of_nonneg h0] at this
end Go.Proofs.YtedkbpbodkmhlaaDoor.Pure
set_option linter.unusedVariables false
namespace Go.Proofs.YtedkbpbodkmhlaaDoor.Pure
open Go.RowKit Go.Proofs.YtedkbpbodkmhlaaDoor.P Go.Proofs.YtedkbpbodkmhlaaDoorW.PrintWords Go.Proofs.YtedkbpbodkmhlaaDoorW.PrintLast Go.Proofs.YtedkbpbodkmhlaaDoor.Base
theorem tmod_in {x n : Int} (hx : 0 ≤ x) (hn : 1 ≤ n) : 0 ≤ Int.tmod x n ∧ Int.tmod x n < n := by
 rw [Int.tmod_eq_emod_of_nonneg hx]
 exact ⟨Int.emod_nonneg _ (by omega), Int.emod_lt_of_pos _ (by omega)⟩
structure Code (c : List Int) : Prop where
 bytes : ∀ x ∈ c, Byte x
 len : c.length ≤ 2000000
theorem l1Next_ex {c : List Int} (hc : Code c) {a n : Int} (ha : 0 ≤ a) (ha' : a ≤ 1000000000000) (hn : n ≤ 1000000) :
  ∃ v, spec_l1Next.f c a n = some (v, a + 1) ∧ (n < 1 → v = 0) ∧ (1 ≤ n → 0 ≤ v ∧ v < n) := by
 unfold spec_l1Next.f
 have e1 : wrap64 (a + 1) = a + 1 := wrap_id (by omega) (by omega)
 have e2 : wrap64 (a + 1 - 1) = a := by rw [wrap_id (by omega) (by omega)]; omega
 simp only [e1, e2]
 by_cases h1 : n < 1
 ·rw [if_pos h1]
  exact ⟨0, rfl, fun _ => rfl, fun h => by omega⟩
 rw [if_neg h1]
 have hl := hc.len
 by_cases h2 : (c.length : Int) = 0
 ·rw [if_pos h2, if_neg (by omega), wrap_id (x := a * 7) (by omega) (by omega)]
  exact ⟨_, rfl, fun h => by omega, fun h => tmod_in (by omega) h⟩
 rw [if_neg h2]
 have hp : 0 < (c.length : Int) := by omega
 obtain ⟨m0, m1⟩ := tmod_in (x := a) (n := (c.length : Int)) ha (by omega)
 have hb := rd_byte hc.bytes _ m0 m1
 have hq : 0 ≤ Int.tdiv a (c.length : Int) ∧ Int.tdiv a (c.length : Int) ≤ a := by
  rw [Int.tdiv_eq_ediv_of_nonneg ha]
  exact ⟨Int.ediv_nonneg ha (by omega), Int.ediv_le_self _ ha⟩
 rw [if_pos m0, if_pos m1]
 generalize rd c (Int.tmod a (c.length : Int)) = b at *
 generalize Int.tdiv a (c.length : Int) = q at *
 unfold Byte at hb
 have w1 : wrap64 b = b := wrap_id (by omega) (by omega)
 have w2 : wrap64 q = q := wrap_id (by omega) (by omega)
 have w3 : wrap64 (q * 37) = q * 37 := wrap_id (by omega) (by omega)
 have w4 : wrap64 (b + q * 37) = b + q * 37 := wrap_id (by omega) (by omega)
 by_cases h3 : n > 200
 ·rw [if_pos h3]
  obtain ⟨k0, k1⟩ := tmod_in (x := a + 1) (n := (c.length : Int)) (by omega) (by omega)
  have hd := rd_byte hc.bytes _ k0 k1
  rw [if_pos k0, if_pos k1, if_neg (by omega)]
  generalize rd c (Int.tmod (a + 1) (c.length : Int)) = d at *
  unfold Byte at hd
  have w5 : wrap64 d = d := wrap_id (by omega) (by omega)
  have w6 : wrap64 (d * 13) = d * 13 := wrap_id (by omega) (by omega)
  have w7 : wrap64 ((b + q * 37) * 251) = (b + q * 37) * 251 := wrap_id (by omega) (by omega)
  have w8 : wrap64 ((b + q * 37) * 251 + d * 13) = (b + q * 37) * 251 + d * 13 := wrap_id (by omega) (by omega)
  have w9 : wrap64 ((b + q * 37) * 251 + d * 13 + a) = (b + q * 37) * 251 + d * 13 + a := wrap_id (by omega) (by omega)
  simp only [w1, w2, w3, w4, w5, w6, w7, w8, w9]
  exact ⟨_, rfl, fun h => by omega, fun h => tmod_in (by omega) h⟩
 ·rw [if_neg h3, if_neg (by omega)]
  simp only [w1, w2, w3, w4]
  exact ⟨_, rfl, fun h => by omega, fun h => tmod_in (by omega) h⟩
theorem l1Chance_ex {c : List Int} (hc : Code c) {a n : Int} (ha : 0 ≤ a) (ha' : a ≤ 1000000000000) (hn : n ≤ 1000000) :
  ∃ b, spec_l1Chance.f c a n = some (b, a + 1) := by
 obtain ⟨v, hv, _⟩ := l1Next_ex hc ha ha' hn
 exact ⟨v == 0, by unfold spec_l1Chance.f; rw [hv]; rfl⟩
theorem l1Pick_ex {c : List Int} (hc : Code c) {a : Int} (ha : 0 ≤ a) (ha' : a ≤ 1000000000000) (l : List Int) (hl : 0 < l.length) (hl' : l.length ≤ 1000000) :
  ∃ v, spec_l1Pick.f c a l = some (v, a + 1) ∧ v ∈ l := by
 obtain ⟨v, hv, _, h⟩ := l1Next_ex (n := (l.length : Int)) hc ha ha' (by omega)
 obtain ⟨h0, h1⟩ := h (by omega)
 refine ⟨rd l v, ?_, ?_⟩
 ·unfold spec_l1Pick.f
  rw [hv]
  simp only [Option.bind_some]
  rw [if_pos h0, if_pos h1]
 ·have := rd_mem l v.toNat (by omega)
  rwa [Int.toNat_of_nonneg h0] at this
end Go.Proofs.YtedkbpbodkmhlaaDoor.Pure
set_option linter.unusedVariables false
namespace Go.Proofs.YtedkbpbodkmhlaaDoor.Pure
open Go.RowKit Go.Proofs.YtedkbpbodkmhlaaDoor.P Go.Proofs.YtedkbpbodkmhlaaDoorW.PrintWords Go.Proofs.YtedkbpbodkmhlaaDoorW.PrintLast Go.Proofs.YtedkbpbodkmhlaaDoor.Base
theorem l2Sig_j1 (v : Int) (f : Bool) (c : List Int) (a : Int) (n1 : ByteArray) (i1 : Int) (n2 : ByteArray) (i2 : Int) (n3 : ByteArray) (i3 : Int) (n4 : ByteArray) (i4 : Int) (n5 : ByteArray) (i5 : Int) (n6 : ByteArray) (i6 : Int) :
  ∃ g, Ev (fun k => spec_l2Sig.j1 k v f c a n1 i1 n2 i2 n3 i3 n4 i4 n5 i5 n6 i6) (g, a) ∧ 1 ≤ g.length ∧ g.length ≤ 6 := by
 cases f with
 | true =>
  refine ⟨[(⟨n5, i5⟩ : S99), (⟨n4, i4⟩ : S99), (⟨(⟨#[97, 100, 100]⟩ : ByteArray), 2⟩ : S99), (⟨n6, i6⟩ : S99)], ev_succ ?_, by simp, by simp⟩
  simp only [spec_l2Sig.j1]
  exact ev_pos (by simp) (ev_some _)
 | false =>
  by_cases h5 : v = 5
  ·refine ⟨[(⟨n5, i5⟩ : S99), (⟨(⟨#[102]⟩ : ByteArray), 1⟩ : S99), (⟨(⟨#[103]⟩ : ByteArray), 1⟩ : S99)], ev_succ ?_, by simp, by simp⟩
   simp only [spec_l2Sig.j1]
   exact ev_neg (by simp) (ev_pos h5 (ev_some _))
  by_cases h6 : v = 6
  ·refine ⟨[(⟨n5, i5⟩ : S99), (⟨n6, i6⟩ : S99), (⟨n1, i1⟩ : S99), (⟨n3, i3⟩ : S99), (⟨n2, i2⟩ : S99), (⟨n4, i4⟩ : S99)], ev_succ ?_, by simp, by simp⟩
   simp only [spec_l2Sig.j1]
   exact ev_neg (by simp) (ev_neg h5 (ev_pos h6 (ev_some _)))
  ·refine ⟨[(⟨n5, i5⟩ : S99)], ev_succ ?_, by simp, by simp⟩
   simp only [spec_l2Sig.j1]
   exact ev_neg (by simp) (ev_neg h5 (ev_neg h6 (ev_some _)))
theorem l2Sig_j0 (v : Int) (f : Bool) (c : List Int) (a : Int) (n1 : ByteArray) (i1 : Int) (n2 : ByteArray) (i2 : Int) (n3 : ByteArray) (i3 : Int) (n4 : ByteArray) (i4 : Int) (n5 : ByteArray) (i5 : Int) (n6 : ByteArray) (i6 : Int) :
  ∃ g, Ev (fun k => spec_l2Sig.j0 k v f c a n1 i1 n2 i2 n3 i3 n4 i4 n5 i5 n6 i6) (g, a) ∧ 1 ≤ g.length ∧ g.length ≤ 6 := by
 cases f with
 | true =>
  refine ⟨[(⟨n1, i1⟩ : S99), (⟨n2, i2⟩ : S99), (⟨n3, i3⟩ : S99), (⟨n5, i5⟩ : S99)], ev_succ ?_, by simp, by simp⟩
  simp only [spec_l2Sig.j0]
  exact ev_pos (by simp) (ev_some _)
 | false =>
  by_cases h3 : v = 3
  ·obtain ⟨g, hg, hl⟩ := l2Sig_j1 v (v == 3) c a n1 i1 n2 i2 n3 i3 n4 i4 n5 i5 n6 i6
   refine ⟨g, ev_succ ?_, hl⟩
   simp only [spec_l2Sig.j0]
   exact ev_neg (by simp) (ev_pos h3 hg)
  ·obtain ⟨g, hg, hl⟩ := l2Sig_j1 v (v == 4) c a n1 i1 n2 i2 n3 i3 n4 i4 n5 i5 n6 i6
   refine ⟨g, ev_succ ?_, hl⟩
   simp only [spec_l2Sig.j0]
   exact ev_neg (by simp) (ev_neg h3 hg)
theorem l2Sig_ex {c : List Int} (hc : Code c) {a : Int} (ha : 0 ≤ a) (ha' : a ≤ 1000000) : ∃ g, Ev (fun k => spec_l2Sig.f k c a) (g, a + 1) ∧ 1 ≤ g.length ∧ g.length ≤ 6 := by
 obtain ⟨v, hv, _, h⟩ := l1Next_ex hc (a := a) (n := 8) ha (by omega) (by omega)
 unfold spec_l2Sig.f
 by_cases h0 : v = 0
 ·obtain ⟨g, hg, hl⟩ := l2Sig_j0 v (v == 0) c (a + 1) (⟨#[101]⟩ : ByteArray) 0 (⟨#[105]⟩ : ByteArray) 1 (⟨#[109]⟩ : ByteArray) 2 (⟨#[115, 117, 99]⟩ : ByteArray) 1 (⟨#[97]⟩ : ByteArray) 0 (⟨#[98]⟩ : ByteArray) 0
  exact ⟨g, ev_bindq hv (ev_pos h0 hg), hl⟩
 by_cases h1 : v = 1
 ·obtain ⟨g, hg, hl⟩ := l2Sig_j0 v (v == 1) c (a + 1) (⟨#[101]⟩ : ByteArray) 0 (⟨#[105]⟩ : ByteArray) 1 (⟨#[109]⟩ : ByteArray) 2 (⟨#[115, 117, 99]⟩ : ByteArray) 1 (⟨#[97]⟩ : ByteArray) 0 (⟨#[98]⟩ : ByteArray) 0
  exact ⟨g, ev_bindq hv (ev_neg h0 (ev_pos h1 hg)), hl⟩
 ·obtain ⟨g, hg, hl⟩ := l2Sig_j0 v (v == 2) c (a + 1) (⟨#[101]⟩ : ByteArray) 0 (⟨#[105]⟩ : ByteArray) 1 (⟨#[109]⟩ : ByteArray) 2 (⟨#[115, 117, 99]⟩ : ByteArray) 1 (⟨#[97]⟩ : ByteArray) 0 (⟨#[98]⟩ : ByteArray) 0
  exact ⟨g, ev_bindq hv (ev_neg h0 (ev_neg h1 hg)), hl⟩
theorem l2Bent_l0 (c : List Int) (a : Int) (n : Nat) (hn : n ≤ 10) : ∀ (d i : Nat) (g : List S99), i + d = n → g.length = n → ∃ g', Ev (fun k => spec_l2Bent.l0 k (n : Int) (i : Int) c a g) (g', a) ∧ g'.length = n := by
 intro d
 induction d with
 | zero =>
  intro i g hi hg
  refine ⟨g, ev_succ ?_, hg⟩
  simp only [spec_l2Bent.l0]
  exact ev_neg (by omega) (ev_some _)
 | succ d ih =>
  intro i g hi hg
  obtain ⟨g', h, hl⟩ := ih (i + 1) (g.set ((i : Int)).toNat (⟨(rd_T99 g (i : Int)).f0, 1⟩ : S99)) (by omega) (by rw [List.length_set]; exact hg)
  refine ⟨g', ev_succ ?_, hl⟩
  simp only [spec_l2Bent.l0]
  refine ev_pos (by omega) (ev_pos (by omega) (ev_pos (by omega) ?_))
  rw [wrap_up (by omega)]
  exact h
theorem l2Bent_l1 (c : List Int) (a : Int) : ∀ (d : Nat) (g : List S99), g.length + d = 7 → ∃ g', Ev (fun k => spec_l2Bent.l1 k c a g) (g', a) ∧ g'.length ≤ 7 := by
 intro d
 induction d with
 | zero =>
  intro g hg
  refine ⟨g, ev_succ ?_, by omega⟩
  simp only [spec_l2Bent.l1]
  exact ev_neg (by omega) (ev_some _)
 | succ d ih =>
  intro g hg
  obtain ⟨g', h, hl⟩ := ih (g ++ [(⟨(⟨#[122]⟩ : ByteArray), 0⟩ : S99)]) (by simp; omega)
  refine ⟨g', ev_succ ?_, hl⟩
  simp only [spec_l2Bent.l1]
  exact ev_pos (by omega) (ev_pos (by omega) h)
theorem l2Bent_ex {c : List Int} (hc : Code c) {a : Int} (ha : 0 ≤ a) (ha' : a ≤ 100000) : ∃ g b, Ev (fun k => spec_l2Bent.f k c a) (g, b) ∧ g.length ≤ 7 ∧ a ≤ b ∧ b ≤ a + 10 := by
 obtain ⟨g, hg, g1, g6⟩ := l2Sig_ex hc ha (by omega)
 obtain ⟨q, hq⟩ := l1Chance_ex hc (a := a + 1) (n := 9) (by omega) (by omega) (by omega)
 unfold spec_l2Bent.f
 cases q with
 | false => exact ⟨g, _, ev_bind hg (ev_bindq hq (ev_neg (by simp) (ev_some _))), by omega, by omega, by omega⟩
 | true =>
  obtain ⟨v, hv, _, h⟩ := l1Next_ex hc (a := a + 1 + 1) (n := 7) (by omega) (by omega) (by omega)
  by_cases h0 : v = 0
  ·exact ⟨[], _, ev_bind hg (ev_bindq hq (ev_pos rfl (ev_bindq hv (ev_pos h0 (ev_some _))))), by simp, by omega, by omega⟩
  have hw : wrap64 ((g.length : Int) - 1) = (g.length : Int) - 1 := wrap_id (by omega) (by omega)
  by_cases h1 : v = 1
  ·refine ⟨g.set (wrap64 ((g.length : Int) - 1)).toNat (⟨(⟨#[97, 98, 99, 100]⟩ : ByteArray), (rd_T99 g (wrap64 ((g.length : Int) - 1))).f1⟩ : S99), a + 1 + 1 + 1, ev_bind hg (ev_bindq hq (ev_pos rfl (ev_bindq hv (ev_neg h0 (ev_pos h1 ?_))))), by rw [List.length_set]; omega, by omega, by omega⟩
   simp only
   exact ev_pos (by omega) (ev_pos (by omega) (ev_some _))
  obtain ⟨i, hi, _, hb⟩ := l1Next_ex hc (a := a + 1 + 1 + 1) (n := (g.length : Int)) (by omega) (by omega) (by omega)
  obtain ⟨i0, i1⟩ := hb (by omega)
  by_cases h2 : v = 2
  ·refine ⟨g.set (i : Int).toNat (⟨(⟨#[97, 66]⟩ : ByteArray), (rd_T99 g i).f1⟩ : S99), a + 1 + 1 + 1 + 1, ev_bind hg (ev_bindq hq (ev_pos rfl (ev_bindq hv (ev_neg h0 (ev_neg h1 (ev_pos h2 (ev_bindq hi ?_))))))), by rw [List.length_set]; omega, by omega, by omega⟩
   simp only
   exact ev_pos i0 (ev_pos i1 (ev_some _))
  by_cases h3 : v = 3
  ·obtain ⟨u, hu, _⟩ := l1Pick_ex hc (a := a + 1 + 1 + 1 + 1) (by omega) (by omega) [3, (-1)] (by simp) (by simp)
   refine ⟨g.set (i : Int).toNat (⟨(rd_T99 g i).f0, u⟩ : S99), a + 1 + 1 + 1 + 1 + 1, ev_bind hg (ev_bindq hq (ev_pos rfl (ev_bindq hv (ev_neg h0 (ev_neg h1 (ev_neg h2 (ev_pos h3 (ev_bindq hi (ev_bindq hu ?_))))))))), by rw [List.length_set]; omega, by omega, by omega⟩
   simp only
   exact ev_pos i0 (ev_pos i1 (ev_some _))
  by_cases h4 : v = 4
  ·refine ⟨g ++ [(⟨(rd_T99 g 0).f0, (rd_T99 g 0).f1⟩ : S99)], a + 1 + 1 + 1, ev_bind hg (ev_bindq hq (ev_pos rfl (ev_bindq hv (ev_neg h0 (ev_neg h1 (ev_neg h2 (ev_neg h3 (ev_pos h4 ?_)))))))), by simp; omega, by omega, by omega⟩
   simp only
   exact ev_pos (by omega) (ev_pos (by omega) (ev_some _))
  by_cases h5 : v = 5
  ·obtain ⟨g', hg', hl⟩ := l2Bent_l0 c (a + 1 + 1 + 1) g.length (by omega) g.length 0 g (by omega) rfl
   exact ⟨g', _, ev_bind hg (ev_bindq hq (ev_pos rfl (ev_bindq hv (ev_neg h0 (ev_neg h1 (ev_neg h2 (ev_neg h3 (ev_neg h4 (ev_pos h5 hg'))))))))), by omega, by omega, by omega⟩
  ·obtain ⟨g', hg', hl⟩ := l2Bent_l1 c (a + 1 + 1 + 1) (7 - g.length) g (by omega)
   exact ⟨g', _, ev_bind hg (ev_bindq hq (ev_pos rfl (ev_bindq hv (ev_neg h0 (ev_neg h1 (ev_neg h2 (ev_neg h3 (ev_neg h4 (ev_neg h5 hg'))))))))), hl, by omega, by omega⟩
theorem l2Rise_l0 (n : Nat) (hn : n ≤ 10) : ∀ (d i : Nat) (x : List Int), i + d = n → x.length = i → ∃ y, Ev (fun k => spec_l2Rise.l0 k (n : Int) x (i : Int)) y ∧ y.length = n := by
 intro d
 induction d with
 | zero =>
  intro i x hi hx
  refine ⟨x, ev_succ ?_, by omega⟩
  simp only [spec_l2Rise.l0]
  exact ev_neg (by omega) (ev_some _)
 | succ d ih =>
  intro i x hi hx
  obtain ⟨y, h, hl⟩ := ih (i + 1) (x ++ [(i : Int)]) (by omega) (by simp [hx])
  refine ⟨y, ev_succ ?_, hl⟩
  simp only [spec_l2Rise.l0]
  refine ev_pos (by omega) (ev_pos (by omega) ?_)
  rw [wrap_up (by omega)]
  exact h
theorem l2DrawOrder_l0 {c : List Int} (hc : Code c) : ∀ (n : Nat) (x : List Int) (a : Int), 0 ≤ a → a + n ≤ 100000 → x.length ≤ 10 → ∃ y b, Ev (fun k => spec_l2DrawOrder.l0 k x (n : Int) c a) (y, b) ∧ y.length = x.length ∧ a ≤ b ∧ b ≤ a + n := by
 intro n
 induction n with
 | zero =>
  intro x a h0 h1 hx
  refine ⟨x, a, ev_succ ?_, rfl, by omega, by omega⟩
  simp only [spec_l2DrawOrder.l0]
  exact ev_neg (by omega) (ev_some _)
 | succ n ih =>
  intro x a h0 h1 hx
  by_cases h : (x.length : Int) > 1
  ·obtain ⟨i, hi, _, hb⟩ := l1Next_ex hc (a := a) (n := (x.length : Int) - 1) h0 (by omega) (by omega)
   obtain ⟨i0, i1⟩ := hb (by omega)
   have hw : wrap64 ((x.length : Int) - 1) = (x.length : Int) - 1 := wrap_id (by omega) (by omega)
   have hw1 : wrap64 (i + 1) = i + 1 := wrap_id (by omega) (by omega)
   have hw2 : wrap64 (((n + 1 : Nat) : Int) - 1) = (n : Int) := by rw [wrap_id (by omega) (by omega)]; omega
   obtain ⟨y, b, hy, hl, b0, b1⟩ := ih ((x.set (i : Int).toNat (rd x (i + 1))).set (i + 1 : Int).toNat (rd x i)) (a + 1) (by omega) (by omega) (by simp only [List.length_set]; omega)
   refine ⟨y, b, ev_succ ?_, by rw [hl]; simp only [List.length_set], by omega, by omega⟩
   simp only [spec_l2DrawOrder.l0, hw]
   refine ev_pos (by omega) (ev_pos h (ev_bindq hi ?_))
   simp only [hw1, hw2]
   exact ev_pos i0 (ev_pos (by omega) (ev_pos (by omega) (ev_pos (by omega) hy)))
  ·refine ⟨x, a, ev_succ ?_, rfl, by omega, by omega⟩
   simp only [spec_l2DrawOrder.l0]
   exact ev_pos (by omega) (ev_neg h (ev_some _))
theorem l2DrawOrder_ex {c : List Int} (hc : Code c) {a : Int} (ha : 0 ≤ a) (ha' : a ≤ 10000) (g : List S99) (hg : g.length ≤ 7) : ∃ y b, Ev (fun k => spec_l2DrawOrder.f k c a g) (y, b) ∧ y.length = g.length ∧ a ≤ b ∧ b ≤ a + 10 := by
 unfold spec_l2DrawOrder.f spec_l2Rise.f
 obtain ⟨x, hx, hxl⟩ := l2Rise_l0 g.length (by omega) g.length 0 [] (by omega) rfl
 obtain ⟨v, hv, _, h⟩ := l1Next_ex hc (a := a) (n := 4) ha (by omega) (by omega)
 obtain ⟨v0, v1⟩ := h (by omega)
 obtain ⟨n, rfl⟩ := Int.eq_ofNat_of_zero_le v0
 obtain ⟨y, b, hy, hl, b0, b1⟩ := l2DrawOrder_l0 hc n x (a + 1) (by omega) (by omega) (by omega)
 exact ⟨y, b, ev_bind hx (ev_bindq hv hy), by omega, by omega, by omega⟩
theorem l2BentOrder_ex {c : List Int} (hc : Code c) {a : Int} (ha : 0 ≤ a) (ha' : a ≤ 10000) (g : List S99) (hg : g.length ≤ 7) : ∃ y b, Ev (fun k => spec_l2BentOrder.f k c a g) (y, b) ∧ y.length ≤ 7 ∧ a ≤ b ∧ b ≤ a + 20 := by
 obtain ⟨x, b, hx, hxl, b0, b1⟩ := l2DrawOrder_ex hc ha ha' g hg
 unfold spec_l2BentOrder.f
 by_cases h1 : (x.length : Int) < 1
 ·refine ⟨x, b, ev_bind hx (ev_pos h1 (ev_succ ?_)), by omega, by omega, by omega⟩
  simp only [spec_l2BentOrder.j0]
  exact ev_pos (by simp) (ev_some _)
 obtain ⟨q, hq⟩ := l1Chance_ex hc (a := b) (n := 10) (by omega) (by omega) (by omega)
 cases q with
 | false =>
  refine ⟨x, b + 1, ev_bind hx (ev_neg h1 (ev_bindq hq (ev_succ ?_))), by omega, by omega, by omega⟩
  simp only [spec_l2BentOrder.j0]
  exact ev_pos (by simp) (ev_some _)
 | true =>
  obtain ⟨v, hv, _, h⟩ := l1Next_ex hc (a := b + 1) (n := 3) (by omega) (by omega) (by omega)
  by_cases h0 : v = 0
  ·refine ⟨x.drop (1 : Int).toNat, b + 1 + 1, ev_bind hx (ev_neg h1 (ev_bindq hq (ev_succ ?_))), by rw [List.length_drop]; omega, by omega, by omega⟩
   simp only [spec_l2BentOrder.j0]
   exact ev_neg (by simp) (ev_bindq hv (ev_pos h0 (ev_pos (by omega) (ev_some _))))
  by_cases h2 : v = 1
  ·obtain ⟨u, hu, _⟩ := l1Pick_ex hc (a := b + 1 + 1) (by omega) (by omega) [6, (-1)] (by simp) (by simp)
   refine ⟨x.set (0 : Int).toNat u, b + 1 + 1 + 1, ev_bind hx (ev_neg h1 (ev_bindq hq (ev_succ ?_))), by rw [List.length_set]; omega, by omega, by omega⟩
   simp only [spec_l2BentOrder.j0]
   exact ev_neg (by simp) (ev_bindq hv (ev_neg h0 (ev_pos h2 (ev_bindq hu (ev_pos (by omega) (ev_some _))))))
  ·have hw : wrap64 ((x.length : Int) - 1) = (x.length : Int) - 1 := wrap_id (by omega) (by omega)
   refine ⟨x.set (0 : Int).toNat (rd x ((x.length : Int) - 1)), b + 1 + 1, ev_bind hx (ev_neg h1 (ev_bindq hq (ev_succ ?_))), by rw [List.length_set]; omega, by omega, by omega⟩
   simp only [spec_l2BentOrder.j0, hw]
   exact ev_neg (by simp) (ev_bindq hv (ev_neg h0 (ev_neg h2 (ev_pos (by omega) (ev_pos (by omega) (ev_pos (by omega) (ev_some _)))))))
theorem DrawRankOf_ex {c : List Int} (hc : Code c) : ∃ g o n, Ev (fun k => spec_DrawRankOf.f k c) (g, o, n) ∧ g.length ≤ 7 ∧ o.length ≤ 7 := by
 unfold spec_DrawRankOf.f spec_l1Source.f
 obtain ⟨g, b, hg, gl, b0, b1⟩ := l2Bent_ex hc (a := 0) (by omega) (by omega)
 obtain ⟨o, d, ho, ol, d0, d1⟩ := l2BentOrder_ex hc (a := b) (by omega) (by omega) g gl
 obtain ⟨u, hu, _⟩ := l1Pick_ex hc (a := d) (by omega) (by omega) [0, 1, 2, 3, 6, (-1)] (by simp) (by simp)
 exact ⟨g, o, u, ev_bindq rfl (ev_bind hg (ev_bind ho (ev_bindq hu (ev_some _)))), gl, ol⟩
theorem DrawRaiseSymbol_ex {c : List Int} (hc : Code c) : ∃ g o n, Ev (fun k => spec_DrawRaiseSymbol.f k c) (g, o, n) ∧ g.length ≤ 7 ∧ o.length ≤ 7 := by
 unfold spec_DrawRaiseSymbol.f
 obtain ⟨g, o, n, h, gl, ol⟩ := DrawRankOf_ex hc
 exact ⟨g, o, n, ev_bind h (ev_some _), gl, ol⟩
end Go.Proofs.YtedkbpbodkmhlaaDoor.Pure
set_option linter.unusedVariables false
namespace Go.Proofs.YtedkbpbodkmhlaaDoor.Pure
open Go.RowKit Go.Proofs.YtedkbpbodkmhlaaDoor.P Go.Proofs.YtedkbpbodkmhlaaDoorW.PrintWords Go.Proofs.YtedkbpbodkmhlaaDoorW.PrintLast Go.Proofs.YtedkbpbodkmhlaaDoor.Base
def rkN (o : List Int) (v : Int) : Int := placeN (fun j => v == rd o (j : Int)) o.length
def rankR (l : List S99) (o : List Int) (n : Int) : Int × Int := if ordF l o = 0 then (if symB l n = true then (0, rkN o n) else (3, 0)) else (ordF l o, 0)
theorem RankOf_spec (l : List S99) (o : List Int) (ho : o.length ≤ 1048576) (n : Int) : Ev (fun k => spec_RankOf.f k l o n) (rankR l o n) := by
 unfold spec_RankOf.f rankR
 refine ev_bind (OrderFault_spec l o ho) (ev_ite (fun h => ?_) (fun h => ev_some _))
 have hl := (ordF_rightR h).1.len
 exact ev_bindq (l2Symbol_eq l (by omega) n) (ev_ite (fun hs => ev_bind (l2Rank_evR o ho n) (ev_some _)) (fun hs => ev_some _))
theorem RankOf_impl (l : List S99) (o : List Int) (ho : o.length ≤ 1048576) (n : Int) : Ev (fun k => impl_RankOf.f k l o n) (rankR l o n) := by
 unfold impl_RankOf.f rankR
 refine ev_bind (OrderFault_impl l o ho) (ev_ite (fun h => ?_) (fun h => ev_some _))
 have hl := (ordF_rightR h).1.len
 exact ev_bindq (isSymbol_eq l (by omega) n) (ev_ite (fun hs => ev_bind (slicesIndex_ev o (by omega) n) (ev_some _)) (fun hs => ev_some _))
theorem rk_at {o : List Int} (hd : ∀ i j, i < o.length → j < i → rd o (i : Int) ≠ rd o (j : Int)) (i : Nat) (hi : i < o.length) : rkN o (rd o (i : Int)) = (i : Int) := by
 unfold rkN
 rcases placeN_cases (fun j => rd o (i : Int) == rd o (j : Int)) o.length with ⟨_, h2⟩ | ⟨j, hj, h1, h2, _⟩
 ·have := h2 i hi; simp at this
 ·rw [h1]
  have h2 : rd o (i : Int) = rd o (j : Int) := by simpa using h2
  rcases Nat.lt_trichotomy i j with h | h | h
  ·exact absurd h2.symm (hd j i hj h)
  ·rw [h]
  ·exact absurd h2 (hd i j hi h)
theorem swap_rd (o : List Int) (j : Nat) (hj : j + 1 < o.length) (i : Nat) (hi : i < o.length) :
  rd (swapL o j) (i : Int) = if i = j then rd o ((j + 1 : Nat) : Int) else if i = j + 1 then rd o (j : Int) else rd o (i : Int) := by
 unfold swapL
 rw [rd_get _ i (by simp only [List.length_set]; exact hi)]
 simp only [List.getElem_set]
 by_cases h1 : i = j
 ·subst h1
  rw [if_neg (by omega), if_pos rfl, if_pos rfl]
 ·by_cases h2 : i = j + 1
  ·subst h2
   rw [if_pos rfl, if_neg (by omega), if_pos rfl]
  ·rw [if_neg (by omega), if_neg (by omega), if_neg h1, if_neg h2, rd_get o i hi]
theorem swap_length (o : List Int) (j : Nat) : (swapL o j).length = o.length := by simp only [swapL, List.length_set]
theorem ordF_of {l : List S99} {o : List Int} (hs : sigF l = 0) (hl : o.length = l.length) (h1 : ∀ i, i < o.length → symB l (rd o (i : Int)) = true) (h2 : ∀ i j, i < o.length → j < i → rd o (i : Int) ≠ rd o (j : Int)) : ordF l o = 0 := by
 unfold ordF ordG
 rw [if_pos hs, if_pos hl]
 have e1 : firstN (fun j => !symB l (rd o (j : Int))) o.length 0 = none := (firstN_none _ _).2 (fun j _ hj => by simp [h1 j (by omega)])
 rw [e1, if_neg (by simp)]
 refine scanN_none _ _ (fun i _ hi => ?_)
 unfold odupFault odupB
 have e2 : firstN (fun j => rd o (i : Int) == rd o (j : Int)) i 0 = none := (firstN_none _ _).2 (fun j _ hj => by
  have := h2 i j (by omega) (by omega)
  simpa using this)
 rw [e2]; rfl
theorem swap_right {l : List S99} {o : List Int} (h : ordF l o = 0) (j : Nat) (hj : j + 1 < o.length) : ordF l (swapL o j) = 0 := by
 obtain ⟨hl, hs, hd⟩ := ord_right h
 have hsig : sigF l = 0 := by
  unfold ordF at h
  by_cases k : sigF l = 0
  ·exact k
  ·rw [if_neg k] at h; exact h
 have hne : ∀ i q, i < o.length → q < o.length → i ≠ q → rd o (i : Int) ≠ rd o (q : Int) := fun i q hi hq hiq => by
  rcases Nat.lt_or_gt_of_ne hiq with k | k
  ·exact fun e => hd q i hq k e.symm
  ·exact hd i q hi k
 refine ordF_of hsig (by rw [swap_length]; exact hl) (fun i hi => ?_) (fun i q hi hq => ?_)
 ·rw [swap_length] at hi
  rw [swap_rd o j hj i hi]
  split
  ·exact hs _ hj
  ·split
   ·exact hs _ (by omega)
   ·exact hs _ hi
 ·rw [swap_length] at hi
  rw [swap_rd o j hj i hi, swap_rd o j hj q (by omega)]
  split <;> rename_i a
  ·split <;> rename_i b
   ·omega
   ·split <;> rename_i c
    ·omega
    ·exact hne _ _ hj (by omega) (by omega)
  ·split <;> rename_i b
   ·split <;> rename_i c
    ·exact hne _ _ (by omega) hj (by omega)
    ·split <;> rename_i d
     ·omega
     ·exact hne _ _ (by omega) (by omega) (by omega)
   ·split <;> rename_i c
    ·exact hne _ _ hi hj (by omega)
    ·split <;> rename_i d
     ·exact hne _ _ hi (by omega) (by omega)
     ·exact hne _ _ hi (by omega) (by omega)
theorem swap_rank {l : List S99} {o : List Int} (h : ordF l o = 0) (j : Nat) (hj : j + 1 < o.length) (p : Nat) (hp : p < o.length) :
  rkN o (rd o (p : Int)) = (p : Int) ∧ rkN (swapL o j) (rd o (p : Int)) = if p = j then (j : Int) + 1 else if p = j + 1 then (j : Int) else (p : Int) := by
 obtain ⟨_, _, hd⟩ := ord_right h
 obtain ⟨_, _, hd'⟩ := ord_right (swap_right h j hj)
 refine ⟨rk_at hd p hp, ?_⟩
 have hl := swap_length o j
 by_cases h1 : p = j
 ·subst h1
  rw [if_pos rfl]
  have e := swap_rd o p hj (p + 1) (by omega)
  rw [if_neg (by omega), if_pos rfl] at e
  rw [← e, rk_at hd' (p + 1) (by omega)]
  rfl
 rw [if_neg h1]
 by_cases h2 : p = j + 1
 ·subst h2
  rw [if_pos rfl]
  have e := swap_rd o j hj j (by omega)
  rw [if_pos rfl] at e
  rw [← e, rk_at hd' j (by omega)]
 rw [if_neg h2]
 have e := swap_rd o j hj p hp
 rw [if_neg h1, if_neg h2] at e
 rw [← e, rk_at hd' p (by omega)]
def cnt2 (A B : Nat) : Nat → Nat → Nat
 | 0, _ => 0
 | d + 1, i => (if i = A ∨ i = B then 1 else 0) + cnt2 A B d (i + 1)
theorem cnt2_eq (A B : Nat) (hne : A ≠ B) : ∀ d i, cnt2 A B d i = (if i ≤ A ∧ A < i + d then 1 else 0) + (if i ≤ B ∧ B < i + d then 1 else 0)
 | 0, i => by rw [cnt2, if_neg (by omega), if_neg (by omega)]
 | d + 1, i => by
  rw [cnt2, cnt2_eq A B hne d (i + 1)]
  repeat' split
  all_goals omega
theorem Ranks_l0 {l : List S99} {o : List Int} (ho : o.length ≤ 1048576) (h : ordF l o = 0) (n : Int) (j : Nat) (hj : j + 1 < o.length) (hn : rd o (j : Int) = n) (hs : symB l n = true) (q : Nat) (hq : q < o.length) (A B : Nat) (hA : rd o (j : Int) = (A : Int)) (hB : rd o ((j + 1 : Nat) : Int) = (B : Int))
  (htot : cnt2 A B o.length 0 = 2) : ∀ (d i m : Nat), i + d = o.length → m + cnt2 A B d i = 2 → Ev (fun k => laws_FnRanks.l0 k o n (m : Int) (i : Int) l 0 (swapL o j)) true := by
 have hr := (ordF_rightR h).1
 obtain ⟨hl, hsy, hd⟩ := ord_right h
 have h' := swap_right h j hj
 have hlen := swap_length o j
 intro d
 induction d with
 | zero =>
  intro i m hi hm
  refine ev_succ ?_
  simp only [laws_FnRanks.l0]
  have hb := RankOf_impl l (swapL o j) (by omega) n
  have ha := RankOf_impl l o ho n
  unfold rankR at ha hb
  rw [if_pos h, if_pos hs] at ha
  rw [if_pos h', if_pos hs] at hb
  have hrk := swap_rank h j hj j (by omega)
  rw [hn, if_pos rfl] at hrk
  rw [hrk.1] at ha
  rw [hrk.2] at hb
  simp only [cnt2, Nat.add_zero] at hm
  refine ev_neg (by omega) (ev_pos (by omega) (ev_bind hb (ev_bind ha (ev_to (ev_some _) ?_))))
  simp only
  rw [wrap_up (by omega)]
  simp
 | succ d ih =>
  intro i m hi hm
  have hsi : symB l (i : Int) = true := by
   unfold symB
   exact decide_eq_true (by omega)
  obtain ⟨p, hp, hpe⟩ := perm_place o (fun i hi => by have := symB_true (hsy i hi); omega) hd (i : Int) (by omega) (by omega)
  have hrk := swap_rank h j hj p hp
  rw [hpe] at hrk
  have ha := RankOf_impl l o ho (i : Int)
  have hb := RankOf_impl l (swapL o j) (by omega) (i : Int)
  have hc := RankOf_spec l o ho (i : Int)
  unfold rankR at ha hb hc
  rw [if_pos h, if_pos hsi] at ha hc
  rw [if_pos h', if_pos hsi] at hb
  rw [hrk.1] at ha hc
  rw [hrk.2] at hb
  refine ev_succ ?_
  simp only [laws_FnRanks.l0]
  refine ev_pos (by omega) (ev_bind ha (ev_bind hb (ev_pos rfl (ev_pos rfl (ev_bind hc (ev_succ ?_))))))
  simp only [laws_FnRanks.j2]
  refine ev_neg (by simp) ?_
  rw [wrap_up (by omega)]
  have hpj : p = j ↔ i = A := by
   constructor
   ·intro e; subst e; rw [hA] at hpe; omega
   ·intro e
    rcases Nat.lt_trichotomy p j with k | k | k
    ·exact absurd (by rw [hpe, hA, e]) (hd j p (by omega) k).symm
    ·exact k
    ·exact absurd (by rw [hpe, hA, e]) (hd p j hp k)
  have hpj1 : p = j + 1 ↔ i = B := by
   constructor
   ·intro e; subst e; rw [hB] at hpe; omega
   ·intro e
    rcases Nat.lt_trichotomy p (j + 1) with k | k | k
    ·exact absurd (by rw [hpe, hB, e]) (hd (j + 1) p hj k).symm
    ·exact k
    ·exact absurd (by rw [hpe, hB, e]) (hd p (j + 1) hp k)
  simp only [cnt2] at hm
  by_cases e1 : p = j
  ·rw [if_pos e1]
   rw [if_pos (.inl (hpj.1 e1))] at hm
   refine ev_neg (by omega) ?_
   rw [wrap_up (by omega)]
   exact ih (i + 1) (m + 1) (by omega) (by omega)
  by_cases e2 : p = j + 1
  ·rw [if_neg e1, if_pos e2]
   rw [if_pos (.inr (hpj1.1 e2))] at hm
   refine ev_neg (by omega) ?_
   rw [wrap_up (by omega)]
   exact ih (i + 1) (m + 1) (by omega) (by omega)
  ·rw [if_neg e1, if_neg e2]
   rw [if_neg (fun k => by
    rcases k with k | k
    ·exact e1 (hpj.2 k)
    ·exact e2 (hpj1.2 k))] at hm
   exact ev_pos rfl (ih (i + 1) m (by omega) (by omega))
theorem FnRanks (c : List Int) (hc0 : c.length ≤ maxLen ∧ ∀ x ∈ c, (Lit.int .u8 x).wf = true) : ∃ k, laws_FnRanks.f k c = some true := by
 obtain ⟨hm, hw⟩ := hc0
 refine ev_ex (g := fun k => laws_FnRanks.f k c) ?_
 unfold laws_FnRanks.f laws_lwBig.f
 by_cases hbig : (c.length : Int) > 1048576
 ·exact ev_bindq rfl (ev_pos (by simpa using hbig) (ev_some _))
 have hc : Code c := ⟨fun x hx => wf_u8 (hw x hx), by omega⟩
 refine ev_bindq rfl (ev_neg (by simpa using hbig) ?_)
 obtain ⟨l, o, n, hD, hl7, ho7⟩ := DrawRaiseSymbol_ex hc
 have ho : o.length ≤ 1048576 := by omega
 have hI := RaiseSymbol_impl l o ho n
 have hS := RaiseSymbol_spec l o ho n
 have hOI := OrderFault_impl l o ho
 have hOS := OrderFault_spec l o ho
 refine ev_bind hD (ev_bind hI (ev_bind hS (ev_pos rfl (ev_bind hOI (ev_bind hOS (ev_succ ?_))))))
 simp only [laws_FnRanks.j0]
 refine ev_neg (by simp) ?_
 by_cases h : ordF l o = 0
 ·by_cases hs : symB l n = true
  ·obtain ⟨j, hj, hp, hv⟩ := rank_place h hs
   by_cases hlast : (j : Int) = (o.length : Int) - 1
   ·have hR : raiseR l o n = (4, []) := by unfold raiseR; rw [if_pos h, if_pos hs, hp, if_pos hlast]
    rw [hR]
    exact ev_neg (by simp) (ev_bind (RankOf_impl l o ho n) (ev_bind (RankOf_spec l o ho n) (ev_to (ev_some _) (by simp))))
   ·have hR : raiseR l o n = (0, swapL o j) := by unfold raiseR; rw [if_pos h, if_pos hs, hp, if_neg hlast, Int.toNat_natCast]
    rw [hR]
    have hj1 : j + 1 < o.length := by omega
    have h' := swap_right h j hj1
    have hO' := OrderFault_impl l (swapL o j) (by rw [swap_length]; exact ho)
    rw [h'] at hO'
    obtain ⟨hll, hsy, hd⟩ := ord_right h
    have hA := symB_true (hsy j hj)
    have hB := symB_true (hsy (j + 1) hj1)
    obtain ⟨A, hA'⟩ := Int.eq_ofNat_of_zero_le hA.1
    obtain ⟨B, hB'⟩ := Int.eq_ofNat_of_zero_le hB.1
    have hne : A ≠ B := fun e => hd (j + 1) j hj1 (by omega) (by rw [hA', hB', e])
    have htot : cnt2 A B o.length 0 = 2 := by
     rw [cnt2_eq A B hne, if_pos (by omega), if_pos (by omega)]
    refine ev_pos rfl (ev_bind hO' (ev_pos rfl ?_))
    exact Ranks_l0 ho h n j hj1 hv hs j hj A B hA' hB' htot o.length 0 0 (by omega) (by omega)
  ·have hR : raiseR l o n = (3, []) := by unfold raiseR; rw [if_pos h, if_neg hs]
   rw [hR]
   exact ev_neg (by simp) (ev_bind (RankOf_impl l o ho n) (ev_bind (RankOf_spec l o ho n) (ev_to (ev_some _) (by simp))))
 ·have hR : raiseR l o n = (ordF l o, []) := by unfold raiseR; rw [if_neg h]
  rw [hR]
  exact ev_neg h (ev_bind (RankOf_impl l o ho n) (ev_bind (RankOf_spec l o ho n) (ev_to (ev_some _) (by simp))))
end Go.Proofs.YtedkbpbodkmhlaaDoor.Pure
