/- A part of the proof of the law FnReplaces. -/
import Derived.Lib.Bytes
import Derived.Laws.StructEq
import Derived.Test.YtedkbpbodkmhlaaDoorCFnReplaces0
import Derived.Test.YtedkbpbodkmhlaaDoorCFnReplaces1
import Derived.Test.YtedkbpbodkmhlaaDoorCFnReplaces2
import Derived.Test.YtedkbpbodkmhlaaDoorCFnReplaces3
import Derived.Test.YtedkbpbodkmhlaaDoorCFnReplaces4
import Derived.Test.YtedkbpbodkmhlaaDoorCFnReplaces5
import Derived.Test.YtedkbpbodkmhlaaDoorCFnReplaces6
import Derived.Test.YtedkbpbodkmhlaaDoorCFnReplaces7
import Derived.Test.YtedkbpbodkmhlaaDoorCFnReplaces8
import Derived.Test.YtedkbpbodkmhlaaDoorCFnReplaces9
import Derived.Test.YtedkbpbodkmhlaaDoorCFnReplaces10
import Derived.Test.YtedkbpbodkmhlaaDoorCFnReplaces11
set_option linter.unusedVariables false
namespace Go.Proofs.YtedkbpbodkmhlaaDoor.Pure
open Go.RowKit Go.Proofs.YtedkbpbodkmhlaaDoor.P Go.Proofs.YtedkbpbodkmhlaaDoorW.PrintWords Go.Proofs.YtedkbpbodkmhlaaDoorW.PrintLast Go.Proofs.YtedkbpbodkmhlaaDoor.Base
theorem bt_get (s : ByteArray) (i : Nat) (h : i < s.data.toList.length) : bt s (i : Int) = ((s.data.toList[i]).toNat : Int) := by
 have hs : i < s.size := by rw [Lib.size_eq]; exact h
 unfold bt
 rw [dif_pos (by simpa using hs)]
 rfl
theorem l2Name_l0 (s : ByteArray) (hl : s.size ≤ 3) : ∀ (d i : Nat), i + d = s.size → Ev (fun k => spec_l2Name.l0 k s (i : Int)) ((s.data.toList.drop i).all letterB) := by
 have hz := Lib.size_eq s
 intro d
 induction d with
 | zero =>
  intro i hi
  refine ev_succ ?_
  simp only [spec_l2Name.l0]
  refine ev_neg (by omega) (ev_to (ev_some _) ?_)
  rw [List.drop_eq_nil_of_le (by omega)]; rfl
 | succ d ih =>
  intro i hi
  have hi' : i < s.data.toList.length := by omega
  refine ev_succ ?_
  simp only [spec_l2Name.l0]
  refine ev_pos (by omega) (ev_pos (by omega) ?_)
  rw [bt_get s i hi', List.drop_eq_getElem_cons hi', wrap_up (by omega)]
  generalize s.data.toList[i] = b
  by_cases h1 : (b.toNat : Int) < 97
  ·refine ev_pos h1 (ev_to (ev_some _) ?_)
   have : letterB b = false := by unfold letterB; simp; omega
   simp [this]
  refine ev_neg h1 ?_
  by_cases h2 : (b.toNat : Int) > 122
  ·refine ev_pos h2 (ev_to (ev_some _) ?_)
   have : letterB b = false := by unfold letterB; simp; omega
   simp [this]
  refine ev_neg h2 (ev_to (ih (i + 1) (by omega)) ?_)
  have : letterB b = true := by unfold letterB; simp; omega
  simp [this]
theorem l2Name_ev (s : ByteArray) : Ev (fun k => spec_l2Name.f k s) (nameB s) := by
 unfold spec_l2Name.f nameB
 by_cases h1 : (s.size : Int) < 1
 ·refine ev_pos h1 (ev_succ ?_)
  simp only [spec_l2Name.j0]
  exact ev_pos (by simp) (ev_to (ev_some _) (by simp; omega))
 refine ev_neg h1 (ev_succ ?_)
 simp only [spec_l2Name.j0]
 by_cases h2 : (s.size : Int) > 3
 ·exact ev_pos (by simpa using h2) (ev_to (ev_some _) (by simp; omega))
 refine ev_neg (by simpa using h2) (ev_to (l2Name_l0 s (by omega) s.size 0 (by omega)) ?_)
 have : decide (1 ≤ s.size ∧ s.size ≤ 3) = true := by simp; omega
 rw [this]; rfl
theorem isName_eq (s : ByteArray) : impl_isName.f s = some (nameB s) := by
 unfold impl_isName.f nameB
 by_cases h1 : (s.size : Int) ≥ 1
 ·rw [if_pos h1]
  by_cases h2 : (s.size : Int) ≤ 3
  ·rw [if_pos h2]
   have ht : strings_Trim.f s abc = some ⟨(Lib.trimS s.data.toList abc.data.toList).toArray⟩ := by
    unfold strings_Trim.f
    exact if_pos ⟨by omega, by decide, by decide +kernel⟩
   refine bind_eq ht ?_
   have : decide (1 ≤ s.size ∧ s.size ≤ 3) = true := by simp; omega
   rw [this, Lib.toList_data]
   simp only [Bool.true_and]
   rw [← trim_abc]
  ·rw [if_neg h2]
   have : decide (1 ≤ s.size ∧ s.size ≤ 3) = false := by simp; omega
   rw [this]; rfl
 ·rw [if_neg h1]
  have : decide (1 ≤ s.size ∧ s.size ≤ 3) = false := by simp; omega
  rw [this]; rfl
def nameAt (l : List S99) (i : Nat) : List UInt8 := (rd_T99 l (i : Int)).f0.toList
def symFault (l : List S99) (i : Nat) : Option Int :=
 if nameB (rd_T99 l (i : Int)).f0 = true then (if 0 ≤ (rd_T99 l (i : Int)).f1 ∧ (rd_T99 l (i : Int)).f1 ≤ 2 then none else some 3) else some 5
def dupB (l : List S99) (i : Nat) : Bool := (firstN (fun j => nameAt l i == nameAt l j) i 0).isSome
def dupFault (l : List S99) (i : Nat) : Option Int := if dupB l i = true then some 6 else none
def zeroB (l : List S99) : Bool := (firstN (fun j => (rd_T99 l (j : Int)).f1 == 0) l.length 0).isSome
def sigF (l : List S99) : Int :=
 if l.length < 1 ∨ l.length > 6 then 2 else scanN (symFault l) (scanN (dupFault l) (if zeroB l = true then 0 else 4) l.length 0) l.length 0
theorem within_eq (a b c : Int) : impl_within.f a b c = some (decide (b ≤ a ∧ a ≤ c)) := by
 unfold impl_within.f
 by_cases h : a ≥ b
 ·rw [if_pos h]
  by_cases h' : a ≤ c
  ·simp [h']; omega
  ·simp [h']
 ·rw [if_neg h]
  simp; omega
theorem l1In_eq (a b c : Int) : spec_l1In.f a b c = some (decide (b ≤ a ∧ a ≤ c)) := by
 unfold spec_l1In.f
 by_cases h : a ≥ b
 ·rw [if_pos h]
  by_cases h' : a ≤ c
  ·simp [h']; omega
  ·simp [h']
 ·rw [if_neg h]
  simp; omega
theorem Sig_l3 (l : List S99) (hl : l.length ≤ 6) : Ev (fun k => spec_SignatureFault.l3 k (l.length : Int) 0 l) (if zeroB l = true then 0 else 4) := by
 have h := loop_scan l.length (fun j => if ((rd_T99 l (j : Int)).f1 == 0) = true then some 0 else none) 4 (fun k i => spec_SignatureFault.l3 k (l.length : Int) i l)
  (by simp only [spec_SignatureFault.l3]; exact ev_neg (by omega) (ev_some _))
  (fun i hi r hr => by
   simp only [spec_SignatureFault.l3]
   refine ev_pos (by omega) (ev_pos (by omega) (ev_pos (by omega) ?_))
   rw [wrap_up (by omega)]
   by_cases h : (rd_T99 l (i : Int)).f1 = 0
   ·refine ev_pos h (ev_to (ev_some _) (by simp [h]))
   ·refine ev_neg h (ev_to hr (by simp [h])))
  l.length 0 (by omega)
 refine ev_to h ?_
 rw [scanN_first (fun j => (rd_T99 l (j : Int)).f1 == 0) (fun _ => (0 : Int)) 4]
 unfold zeroB
 cases firstN (fun j => (rd_T99 l (j : Int)).f1 == 0) l.length 0 <;> rfl
theorem Sig_l2 (l : List S99) (hl : l.length ≤ 6) (i : Nat) (hi : i < l.length) (r : Int) (hr : Ev (fun k => spec_SignatureFault.l1 k (l.length : Int) ((i + 1 : Nat) : Int) l) r) :
  Ev (fun k => spec_SignatureFault.l2 k (l.length : Int) (i : Int) 0 l) ((dupFault l i).getD r) := by
 have h := loop_scan i (fun j => if (nameAt l i == nameAt l j) = true then some 6 else none) r (fun k j => spec_SignatureFault.l2 k (l.length : Int) (i : Int) j l)
  (by simp only [spec_SignatureFault.l2]; refine ev_neg (by omega) ?_; rw [wrap_up (by omega)]; exact hr)
  (fun j hj r hr => by
   simp only [spec_SignatureFault.l2]
   refine ev_pos (by omega) (ev_pos (by omega) (ev_pos (by omega) (ev_pos (by omega) (ev_pos (by omega) ?_))))
   rw [wrap_up (by omega)]
   by_cases h : nameAt l i = nameAt l j
   ·refine ev_pos h (ev_to (ev_some _) (by simp [h]))
   ·refine ev_neg h (ev_to hr (by simp [h])))
  i 0 (by omega)
 refine ev_to h ?_
 rw [scanN_first (fun j => nameAt l i == nameAt l j) (fun _ => (6 : Int)) r]
 unfold dupFault dupB
 cases firstN (fun j => nameAt l i == nameAt l j) i 0 <;> rfl
theorem Sig_l1 (l : List S99) (hl : l.length ≤ 6) : Ev (fun k => spec_SignatureFault.l1 k (l.length : Int) 0 l) (scanN (dupFault l) (if zeroB l = true then 0 else 4) l.length 0) :=
 loop_scan l.length (dupFault l) (if zeroB l = true then 0 else 4) (fun k i => spec_SignatureFault.l1 k (l.length : Int) i l)
  (by simp only [spec_SignatureFault.l1]; exact ev_neg (by omega) (Sig_l3 l hl))
  (fun i hi r hr => by
   simp only [spec_SignatureFault.l1]
   exact ev_pos (by omega) (Sig_l2 l hl i hi r hr))
  l.length 0 (by omega)
theorem Sig_l0 (l : List S99) (hl : l.length ≤ 6) : Ev (fun k => spec_SignatureFault.l0 k (l.length : Int) 0 l) (scanN (symFault l) (scanN (dupFault l) (if zeroB l = true then 0 else 4) l.length 0) l.length 0) :=
 loop_scan l.length (symFault l) _ (fun k i => spec_SignatureFault.l0 k (l.length : Int) i l)
  (by simp only [spec_SignatureFault.l0]; exact ev_neg (by omega) (Sig_l1 l hl))
  (fun i hi r hr => by
   simp only [spec_SignatureFault.l0]
   refine ev_pos (by omega) (ev_pos (by omega) (ev_pos (by omega) (ev_bind (l2Name_ev _) ?_)))
   unfold symFault
   by_cases h : nameB (rd_T99 l (i : Int)).f0 = true
   ·refine ev_pos h (ev_bindq (l1In_eq _ _ _) ?_)
    rw [if_pos h, wrap_up (by omega)]
    by_cases h' : 0 ≤ (rd_T99 l (i : Int)).f1 ∧ (rd_T99 l (i : Int)).f1 ≤ 2
    ·rw [if_pos h']
     exact ev_pos (by simpa using h') hr
    ·rw [if_neg h']
     exact ev_neg (by simpa using h') (ev_some _)
   ·rw [if_neg h]
    exact ev_neg h (ev_some _))
  l.length 0 (by omega)
theorem SignatureFault_spec (l : List S99) : Ev (fun k => spec_SignatureFault.f k l) (sigF l) := by
 unfold spec_SignatureFault.f sigF
 by_cases h1 : (l.length : Int) < 1
 ·rw [if_pos (.inl (by omega))]
  refine ev_pos h1 (ev_succ ?_)
  simp only [spec_SignatureFault.j0]
  exact ev_pos (by simp) (ev_some _)
 refine ev_neg h1 (ev_succ ?_)
 simp only [spec_SignatureFault.j0]
 by_cases h2 : (l.length : Int) > 6
 ·rw [if_pos (.inr (by omega))]
  exact ev_pos (by simpa using h2) (ev_some _)
 ·rw [if_neg (by omega)]
  exact ev_neg (by simpa using h2) (Sig_l0 l (by omega))
theorem symbolIndex_ev (l : List S99) (hl : l.length ≤ 1048576) (s : ByteArray) : Ev (fun k => impl_symbolIndex.f k l s) (placeN (fun j => nameAt l j == s.toList) l.length) := by
 unfold impl_symbolIndex.f
 refine ev_bind (a := placeN (fun j => nameAt l j == s.toList) l.length) ?_ (ev_some _)
 unfold slices_IndexFunc_impl_Symbol_impl_Symbol_impl_symbolIndex_1.f
 have h := loop_scan l.length (fun j => if (nameAt l j == s.toList) = true then some (j : Int) else none) (-1) (fun k i => slices_IndexFunc_impl_Symbol_impl_Symbol_impl_symbolIndex_1.l0 k l (l.length : Int) i [s])
  (by simp only [slices_IndexFunc_impl_Symbol_impl_Symbol_impl_symbolIndex_1.l0]; exact ev_neg (by omega) (ev_some _))
  (fun i hi r hr => by
   simp only [slices_IndexFunc_impl_Symbol_impl_Symbol_impl_symbolIndex_1.l0]
   refine ev_pos (by omega) (ev_pos (by omega) (ev_pos (by omega) (ev_bindq (a := nameAt l i == s.toList) ?_ ?_)))
   ·unfold impl_symbolIndex_1_with.f
    rw [if_pos (by simp)]
    rfl
   ·rw [wrap_up (by omega)]
    by_cases h : (nameAt l i == s.toList) = true
    ·rw [if_pos h]; exact ev_pos h (ev_some _)
    ·rw [if_neg h]; exact ev_neg h hr)
  l.length 0 (by omega)
 rw [scanN_place (fun j => nameAt l j == s.toList)] at h
 exact h
theorem dup_place (l : List S99) (i : Nat) (hi : i < l.length) : placeN (fun j => nameAt l j == (rd_T99 l (i : Int)).f0.toList) l.length = (i : Int) ↔ dupB l i = false := by
 unfold dupB
 have hn : (firstN (fun j => nameAt l i == nameAt l j) i 0).isSome = false ↔ ∀ j, j < i → (nameAt l i == nameAt l j) = false := by
  rw [Option.isSome_eq_false_iff, Option.isNone_iff_eq_none, firstN_none]
  exact ⟨fun h j hj => h j (by omega) (by omega), fun h j _ hj => h j (by omega)⟩
 rw [hn]
 rcases placeN_cases (fun j => nameAt l j == (rd_T99 l (i : Int)).f0.toList) l.length with ⟨h1, h2⟩ | ⟨j, hj, h1, h2, h3⟩
 ·have := h2 i hi
  simp [nameAt] at this
 ·rw [h1]
  constructor
  ·intro e
   obtain rfl : j = i := by omega
   intro m hm
   have := h3 m hm
   simp only [beq_eq_false_iff_ne, ne_eq] at this ⊢
   exact fun e => this e.symm
  ·intro h
   have hji : ¬ j < i := fun hlt => by
    have := h j hlt
    simp only [beq_eq_false_iff_ne, ne_eq] at this
    exact this (by simpa [nameAt] using (eq_comm.1 (beq_iff_eq.1 h2)))
   have hij : ¬ i < j := fun hlt => by
    have := h3 i hlt
    simp [nameAt] at this
   omega
theorem ISig_last (l : List S99) (hl : l.length ≤ 6) : Ev (fun k => slices_ContainsFunc_impl_Symbol_impl_Symbol_impl_SignatureFault_1.f k l) (zeroB l) := by
 unfold slices_ContainsFunc_impl_Symbol_impl_Symbol_impl_SignatureFault_1.f slices_IndexFunc_impl_Symbol_impl_Symbol_impl_SignatureFault_1.f
 have h := loop_scan l.length (fun j => if ((rd_T99 l (j : Int)).f1 == 0) = true then some (j : Int) else none) (-1) (fun k i => slices_IndexFunc_impl_Symbol_impl_Symbol_impl_SignatureFault_1.l0 k l (l.length : Int) i)
  (by simp only [slices_IndexFunc_impl_Symbol_impl_Symbol_impl_SignatureFault_1.l0]; exact ev_neg (by omega) (ev_some _))
  (fun i hi r hr => by
   simp only [slices_IndexFunc_impl_Symbol_impl_Symbol_impl_SignatureFault_1.l0]
   refine ev_pos (by omega) (ev_pos (by omega) (ev_pos (by omega) (ev_bindq rfl ?_)))
   rw [wrap_up (by omega)]
   by_cases h : ((rd_T99 l (i : Int)).f1 == 0) = true
   ·rw [if_pos h]; exact ev_pos h (ev_some _)
   ·rw [if_neg h]; exact ev_neg h hr)
  l.length 0 (by omega)
 rw [scanN_first (fun j => (rd_T99 l (j : Int)).f1 == 0) (fun j => (j : Int)) (-1)] at h
 refine ev_bind h (ev_to (ev_some _) ?_)
 unfold zeroB
 cases firstN (fun j => (rd_T99 l (j : Int)).f1 == 0) l.length 0 with
 | none => rfl
 | some j => simp
theorem ISig_l1 (l : List S99) (hl : l.length ≤ 6) : Ev (fun k => impl_SignatureFault.l1 k l (l.length : Int) 0 l) (scanN (dupFault l) (if zeroB l = true then 0 else 4) l.length 0) :=
 loop_scan l.length (dupFault l) (if zeroB l = true then 0 else 4) (fun k i => impl_SignatureFault.l1 k l (l.length : Int) i l)
  (by
   simp only [impl_SignatureFault.l1]
   refine ev_neg (by omega) (ev_bind (ISig_last l hl) ?_)
   by_cases h : zeroB l = true
   ·exact ev_to (ev_pos h (ev_some _)) (if_pos h).symm
   ·exact ev_to (ev_neg h (ev_some _)) (if_neg h).symm)
  (fun i hi r hr => by
   simp only [impl_SignatureFault.l1]
   refine ev_pos (by omega) (ev_pos (by omega) (ev_pos (by omega) (ev_bind (symbolIndex_ev l (by omega) _) ?_)))
   have hd := dup_place l i hi
   rw [wrap_up (by omega)]
   unfold dupFault
   by_cases h : dupB l i = true
   ·rw [if_pos h]
    exact ev_neg (fun e => by rw [hd.1 e] at h; cases h) (ev_some _)
   ·rw [if_neg h]
    exact ev_pos (hd.2 (Bool.eq_false_iff.2 h)) hr)
  l.length 0 (by omega)
theorem SignatureFault_impl (l : List S99) : Ev (fun k => impl_SignatureFault.f k l) (sigF l) := by
 unfold impl_SignatureFault.f sigF
 by_cases h1 : (l.length : Int) < 1
 ·rw [if_pos (.inl (by omega))]
  refine ev_pos h1 (ev_succ ?_)
  simp only [impl_SignatureFault.j0]
  exact ev_pos (by simp) (ev_some _)
 refine ev_neg h1 (ev_succ ?_)
 simp only [impl_SignatureFault.j0]
 by_cases h2 : (l.length : Int) > 6
 ·rw [if_pos (.inr (by omega))]
  exact ev_pos (by simpa using h2) (ev_some _)
 rw [if_neg (by omega)]
 refine ev_neg (by simpa using h2) ?_
 exact loop_scan l.length (symFault l) _ (fun k i => impl_SignatureFault.l0 k l (l.length : Int) i l)
  (by simp only [impl_SignatureFault.l0]; exact ev_neg (by omega) (ISig_l1 l (by omega)))
  (fun i hi r hr => by
   simp only [impl_SignatureFault.l0]
   refine ev_pos (by omega) (ev_pos (by omega) (ev_pos (by omega) (ev_bindq (isName_eq _) ?_)))
   unfold symFault
   by_cases h : nameB (rd_T99 l (i : Int)).f0 = true
   ·refine ev_pos h (ev_bindq (within_eq _ _ _) ?_)
    rw [if_pos h, wrap_up (by omega)]
    by_cases h' : 0 ≤ (rd_T99 l (i : Int)).f1 ∧ (rd_T99 l (i : Int)).f1 ≤ 2
    ·rw [if_pos h']
     exact ev_pos (by simpa using h') hr
    ·rw [if_neg h']
     exact ev_neg (by simpa using h') (ev_some _)
   ·rw [if_neg h]
    exact ev_neg h (ev_some _))
  l.length 0 (by omega)
structure Right (l : List S99) : Prop where
 len : 1 ≤ l.length ∧ l.length ≤ 6
 names : ∀ i, i < l.length → nameB (rd_T99 l (i : Int)).f0 = true
 arities : ∀ i, i < l.length → 0 ≤ (rd_T99 l (i : Int)).f1 ∧ (rd_T99 l (i : Int)).f1 ≤ 2
 apart : ∀ i, i < l.length → dupB l i = false
theorem right_of (l : List S99) (h : sigF l = 0) : Right l := by
 unfold sigF at h
 by_cases h1 : l.length < 1 ∨ l.length > 6
 ·rw [if_pos h1] at h; omega
 rw [if_neg h1] at h
 have hlen : 1 ≤ l.length ∧ l.length ≤ 6 := by omega
 rcases scanN_cases (symFault l) (scanN (dupFault l) (if zeroB l = true then 0 else 4) l.length 0) l.length 0 with ⟨h2, h3⟩ | ⟨j, _, _, h3⟩
 ·rw [h3] at h
  rcases scanN_cases (dupFault l) (if zeroB l = true then 0 else 4) l.length 0 with ⟨h4, h5⟩ | ⟨j, _, _, h5⟩
  ·refine ⟨hlen, fun i hi => ?_, fun i hi => ?_, fun i hi => ?_⟩
   ·have := h2 i (by omega) (by omega)
    unfold symFault at this
    by_cases hn : nameB (rd_T99 l (i : Int)).f0 = true
    ·exact hn
    ·rw [if_neg hn] at this; cases this
   ·have := h2 i (by omega) (by omega)
    unfold symFault at this
    by_cases hn : nameB (rd_T99 l (i : Int)).f0 = true
    ·rw [if_pos hn] at this
     by_cases ha : 0 ≤ (rd_T99 l (i : Int)).f1 ∧ (rd_T99 l (i : Int)).f1 ≤ 2
     ·exact ha
     ·rw [if_neg ha] at this; cases this
    ·rw [if_neg hn] at this; cases this
   ·have := h4 i (by omega) (by omega)
    unfold dupFault at this
    by_cases hd : dupB l i = true
    ·rw [if_pos hd] at this; cases this
    ·exact Bool.eq_false_iff.2 hd
  ·rw [h] at h5
   unfold dupFault at h5
   by_cases hd : dupB l j = true
   ·rw [if_pos hd] at h5; cases h5
   ·rw [if_neg hd] at h5; cases h5
 ·rw [h] at h3
  unfold symFault at h3
  by_cases hn : nameB (rd_T99 l (j : Int)).f0 = true
  ·rw [if_pos hn] at h3
   by_cases ha : 0 ≤ (rd_T99 l (j : Int)).f1 ∧ (rd_T99 l (j : Int)).f1 ≤ 2
   ·rw [if_pos ha] at h3; cases h3
   ·rw [if_neg ha] at h3; cases h3
  ·rw [if_neg hn] at h3; cases h3
end Go.Proofs.YtedkbpbodkmhlaaDoor.Pure
set_option linter.unusedVariables false
namespace Go.Proofs.YtedkbpbodkmhlaaDoor.Pure
open Go.RowKit Go.Proofs.YtedkbpbodkmhlaaDoor.P Go.Proofs.YtedkbpbodkmhlaaDoorW.PrintWords Go.Proofs.YtedkbpbodkmhlaaDoorW.PrintLast Go.Proofs.YtedkbpbodkmhlaaDoor.Base
def symB (l : List S99) (n : Int) : Bool := decide (0 ≤ n ∧ n ≤ (l.length : Int) - 1)
theorem l2Symbol_eq (l : List S99) (hl : l.length ≤ 1048576) (n : Int) : spec_l2Symbol.f [(⟨l⟩ : S42)] n = some (symB l n) := by
 unfold spec_l2Symbol.f
 rw [if_pos (by simp)]
 show (spec_l1In.f n 0 (wrap64 ((l.length : Int) - 1))).bind _ = _
 rw [l1In_eq, wrap_id (by omega) (by omega)]
 rfl
theorem isSymbol_eq (l : List S99) (hl : l.length ≤ 1048576) (n : Int) : impl_isSymbol.f l n = some (symB l n) := by
 unfold impl_isSymbol.f
 rw [within_eq, wrap_id (by omega) (by omega)]
 rfl
theorem symB_true {l : List S99} {n : Int} (h : symB l n = true) : 0 ≤ n ∧ n < (l.length : Int) := by
 unfold symB at h
 have := of_decide_eq_true h
 omega
end Go.Proofs.YtedkbpbodkmhlaaDoor.Pure
set_option linter.unusedVariables false
namespace Go.Proofs.YtedkbpbodkmhlaaDoor.Pure
open Go.RowKit Go.Proofs.YtedkbpbodkmhlaaDoor.P Go.Proofs.YtedkbpbodkmhlaaDoorW.PrintWords Go.Proofs.YtedkbpbodkmhlaaDoorW.PrintLast Go.Proofs.YtedkbpbodkmhlaaDoor.Base
def nodeB (l : List S99) (n : Int) : Bool := symB l n || decide (-12 ≤ n ∧ n ≤ -1)
def arL (l : List S99) (n : Int) : Nat := if n < 0 then 0 else (rd_T99 l n).f1.toNat
theorem l3Node_eq (l : List S99) (hl : l.length ≤ 6) (n : Int) : spec_l3Node.f [(⟨l⟩ : S42)] n = some (nodeB l n) := by
 unfold spec_l3Node.f nodeB
 rw [l2Symbol_eq l (by omega)]
 simp only [Option.bind_some]
 by_cases h : symB l n = true
 ·rw [if_pos h, h]; rfl
 ·rw [if_neg h, l1In_eq, Bool.eq_false_iff.2 h]; rfl
theorem isNode_eq (l : List S99) (hl : l.length ≤ 6) (n : Int) : impl_isNode.f l n = some (nodeB l n) := by
 unfold impl_isNode.f nodeB
 rw [isSymbol_eq l (by omega)]
 simp only [Option.bind_some]
 by_cases h : symB l n = true
 ·rw [if_pos h, h]; rfl
 ·rw [if_neg h, within_eq, Bool.eq_false_iff.2 h]; rfl
def Nodes (l : List S99) (t : List Int) : Prop := ∀ i, i < t.length → nodeB l (rd t (i : Int)) = true
theorem node_sym {l : List S99} {n : Int} (h : nodeB l n = true) (h0 : ¬ n < 0) : 0 ≤ n ∧ n < (l.length : Int) := by
 unfold nodeB at h
 rw [Bool.or_eq_true] at h
 rcases h with h | h
 ·exact symB_true h
 ·have := of_decide_eq_true h; omega
theorem arL_cast {l : List S99} (hr : Right l) {n : Int} (h : nodeB l n = true) (h0 : ¬ n < 0) : (rd_T99 l n).f1 = (arL l n : Int) ∧ arL l n ≤ 2 := by
 obtain ⟨a, b⟩ := node_sym h h0
 have := hr.arities n.toNat (by omega)
 rw [Int.toNat_of_nonneg a] at this
 unfold arL
 rw [if_neg h0]
 omega
theorem arL_le {l : List S99} (hr : Right l) {n : Int} (h : nodeB l n = true) : arL l n ≤ 2 := by
 by_cases h0 : n < 0
 ·unfold arL; rw [if_pos h0]; omega
 ·exact (arL_cast hr h h0).2
def endI (o : Option Nat) : Int := match o with
 | some e => (e : Int)
 | none => -1
theorem l3End_loop (l : List S99) (hr : Right l) (t : List Int) (ht : t.length ≤ 1048576) (hn : Nodes l t) (at_ : Nat) (hat : at_ < t.length) (h0 : ¬ rd t (at_ : Int) < 0)
  (ih : ∀ e, at_ < e → e ≤ t.length → Ev (fun k => spec_l3End.f k [(⟨l⟩ : S42)] t (e : Int)) (endI (endN (arL l) t 1 e))) :
  ∀ (m i e : Nat), i + m = arL l (rd t (at_ : Int)) → at_ < e → e ≤ t.length → Ev (fun k => spec_l3End.l0 k [(⟨l⟩ : S42)] t (at_ : Int) (e : Int) (i : Int)) (endI (endN (arL l) t m e)) := by
 obtain ⟨s0, s1⟩ := node_sym (hn at_ hat) h0
 obtain ⟨ha, ha2⟩ := arL_cast hr (hn at_ hat) h0
 have e0 : (rd_T42 [(⟨l⟩ : S42)] 0).f0 = l := rfl
 intro m
 induction m with
 | zero =>
  intro i e hi he hel
  refine ev_succ ?_
  simp only [spec_l3End.l0, e0]
  refine ev_pos (by simp) (ev_pos (by omega) (ev_pos (by omega) (ev_pos s0 (ev_pos s1 ?_))))
  rw [ha, endN_zero _ _ _ hel]
  exact ev_neg (by omega) (ev_some _)
 | succ m ihm =>
  intro i e hi he hel
  refine ev_succ ?_
  simp only [spec_l3End.l0, e0]
  refine ev_pos (by simp) (ev_pos (by omega) (ev_pos (by omega) (ev_pos s0 (ev_pos s1 ?_))))
  rw [ha]
  refine ev_pos (by omega) (ev_bind (ih e he hel) ?_)
  rw [show m + 1 = 1 + m by omega, endN_add _ _ 1 m e hel]
  cases hE : endN (arL l) t 1 e with
  | none => exact ev_pos (by simp [endI]) (ev_some _)
  | some e' =>
   obtain ⟨_, h1, h2⟩ := endN_some hel hE
   refine ev_neg (by simp [endI]) ?_
   rw [wrap_up (by omega)]
   simp only [Option.bind_some]
   exact ihm (i + 1) e' (by omega) (by omega) h2
theorem l3End_ev (l : List S99) (hr : Right l) (t : List Int) (ht : t.length ≤ 1048576) (hn : Nodes l t) : ∀ (d at_ : Nat), at_ + d = t.length → Ev (fun k => spec_l3End.f k [(⟨l⟩ : S42)] t (at_ : Int)) (endI (endN (arL l) t 1 at_)) := by
 intro d
 induction d using Nat.strongRecOn with
 | _ d ih =>
  intro at_ hd
  refine ev_succ ?_
  simp only [spec_l3End.f]
  by_cases hat : t.length ≤ at_
  ·rw [endN_out _ _ _ _ (by omega) hat]
   exact ev_pos (by omega) (ev_some _)
  have hat' : at_ < t.length := by omega
  refine ev_neg (by omega) (ev_pos (by omega) (ev_pos (by omega) ?_))
  rw [endN_step _ _ 0 _ hat', ← rd_get t at_ hat', Nat.zero_add, wrap_up (by omega)]
  by_cases h0 : rd t (at_ : Int) < 0
  ·refine ev_pos h0 ?_
   have : arL l (rd t (at_ : Int)) = 0 := by unfold arL; rw [if_pos h0]
   rw [this, endN_zero _ _ _ (by omega)]
   exact ev_some _
  ·refine ev_neg h0 ?_
   exact l3End_loop l hr t ht hn at_ hat' h0 (fun e he hel => ih (t.length - e) (by omega) e (by omega)) _ 0 (at_ + 1) (by omega) (by omega) (by omega)
def endJ (n : Nat) (o : Option Nat) : Int := match o with
 | some e => (e : Int)
 | none => (n : Int) + 1
theorem arityOf_eq (l : List S99) (hr : Right l) (n : Int) (h : nodeB l n = true) : impl_arityOf.f l n = some (arL l n : Int) := by
 unfold impl_arityOf.f
 by_cases h0 : n < 0
 ·rw [if_pos h0]; unfold arL; rw [if_pos h0]; rfl
 ·obtain ⟨s0, s1⟩ := node_sym h h0
  rw [if_neg h0, if_pos s0, if_pos s1, (arL_cast hr h h0).1]
theorem endOf_l0 (l : List S99) (hr : Right l) (t : List Int) (ht : t.length ≤ 1048576) (hn : Nodes l t) : ∀ (d at_ o : Nat), at_ + d = t.length → o ≤ 2 * at_ + 1 → Ev (fun k => impl_endOf.l0 k t (at_ : Int) (o : Int) l) (endJ t.length (endN (arL l) t o at_)) := by
 intro d
 induction d with
 | zero =>
  intro at_ o hd ho
  refine ev_succ ?_
  simp only [impl_endOf.l0]
  cases o with
  | zero =>
   rw [endN_zero _ _ _ (by omega)]
   exact ev_neg (by omega) (ev_some _)
  | succ o =>
   rw [endN_out _ _ _ _ (by omega) (by omega)]
   refine ev_pos (by omega) (ev_pos (by omega) ?_)
   rw [wrap_up (by omega)]
   exact ev_to (ev_some _) (by simp [endJ])
 | succ d ih =>
  intro at_ o hd ho
  refine ev_succ ?_
  simp only [impl_endOf.l0]
  cases o with
  | zero =>
   rw [endN_zero _ _ _ (by omega)]
   exact ev_neg (by omega) (ev_some _)
  | succ o =>
   have hat : at_ < t.length := by omega
   refine ev_pos (by omega) (ev_neg (by omega) (ev_pos (by omega) (ev_pos (by omega) (ev_bindq (arityOf_eq l hr _ (hn at_ hat)) ?_))))
   have ha := arL_le hr (hn at_ hat)
   rw [endN_step _ _ o _ hat, ← rd_get t at_ hat, wrap_up (by omega)]
   generalize arL l (rd t (at_ : Int)) = a at *
   rw [wrap_id (x := (a : Int) - 1) (by omega) (by omega), wrap_id (by omega) (by omega), show ((o + 1 : Nat) : Int) + ((a : Int) - 1) = ((o + a : Nat) : Int) by omega]
   exact ih (at_ + 1) (o + a) (by omega) (by omega)
theorem endOf_ev (l : List S99) (hr : Right l) (t : List Int) (ht : t.length ≤ 1048576) (hn : Nodes l t) (at_ : Nat) (hat : at_ ≤ t.length) : Ev (fun k => impl_endOf.f k l t (at_ : Int)) (endJ t.length (endN (arL l) t 1 at_)) := by
 unfold impl_endOf.f
 exact endOf_l0 l hr t ht hn (t.length - at_) at_ 1 (by omega) (by omega)
def badN (l : List S99) (t : List Int) : Bool := (firstN (fun j => !nodeB l (rd t (j : Int))) t.length 0).isSome
theorem nodes_of {l : List S99} {t : List Int} (h : ¬ badN l t = true) : Nodes l t := by
 unfold badN at h
 have h1 : firstN (fun j => !nodeB l (rd t (j : Int))) t.length 0 = none := by
  cases hf : firstN (fun j => !nodeB l (rd t (j : Int))) t.length 0 with
  | none => rfl
  | some j => rw [hf] at h; exact absurd rfl h
 intro i hi
 have := (firstN_none t.length 0).1 h1 i (by omega) (by omega)
 simpa using this
def termG (l : List S99) (t : List Int) : Int :=
 if t.length < 1 ∨ t.length > 24 then 2 else if badN l t = true then 3 else if endN (arL l) t 1 0 = some t.length then 0 else 1
def termF (l : List S99) (t : List Int) : Int := if sigF l = 0 then termG l t else sigF l
theorem l3Fault_ev (l : List S99) (hr : Right l) (t : List Int) (ht : t.length ≤ 1048576) : Ev (fun k => spec_l3Fault.f k [(⟨l⟩ : S42)] t) (termG l t) := by
 have hl := hr.len
 unfold spec_l3Fault.f termG
 by_cases h1 : (t.length : Int) < 1
 ·rw [if_pos (.inl (by omega))]
  refine ev_pos h1 (ev_succ ?_)
  simp only [spec_l3Fault.j0]
  exact ev_pos (by simp) (ev_some _)
 refine ev_neg h1 (ev_succ ?_)
 simp only [spec_l3Fault.j0]
 by_cases h2 : (t.length : Int) > 24
 ·rw [if_pos (.inr (by omega))]
  exact ev_pos (by simpa using h2) (ev_some _)
 rw [if_neg (by omega)]
 refine ev_neg (by simpa using h2) ?_
 by_cases hb : badN l t = true
 ·rw [if_pos hb]
  unfold badN at hb
  cases hf : firstN (fun j => !nodeB l (rd t (j : Int))) t.length 0 with
  | none => rw [hf] at hb; cases hb
  | some j =>
   obtain ⟨_, hj, hp, hall⟩ := firstN_some _ _ _ hf
   have key : ∀ d i, i + d = j → Ev (fun k => spec_l3Fault.l0 k [(⟨l⟩ : S42)] t (i : Int)) 3 := by
    intro d
    induction d with
    | zero =>
     intro i hi
     obtain rfl : i = j := by omega
     refine ev_succ ?_
     simp only [spec_l3Fault.l0]
     refine ev_pos (by omega) (ev_pos (by omega) (ev_bindq (l3Node_eq l (by omega) _) ?_))
     exact ev_neg (by simpa using hp) (ev_some _)
    | succ d ih =>
     intro i hi
     refine ev_succ ?_
     simp only [spec_l3Fault.l0]
     refine ev_pos (by omega) (ev_pos (by omega) (ev_bindq (l3Node_eq l (by omega) _) ?_))
     have := hall i (by omega) (by omega)
     rw [wrap_up (by omega)]
     exact ev_pos (by simpa using this) (ih (i + 1) (by omega))
   exact key j 0 (by omega)
 ·rw [if_neg hb]
  have hn := nodes_of hb
  have h := loop_scan t.length (fun j => if (!nodeB l (rd t (j : Int))) = true then some 3 else none) (if endN (arL l) t 1 0 = some t.length then 0 else 1) (fun k i => spec_l3Fault.l0 k [(⟨l⟩ : S42)] t i)
   (by
    simp only [spec_l3Fault.l0]
    refine ev_neg (by omega) (ev_bind (l3End_ev l hr t ht hn t.length 0 (by omega)) ?_)
    by_cases he : endN (arL l) t 1 0 = some t.length
    ·rw [he]; exact ev_pos rfl (ev_to (ev_some _) (if_pos rfl).symm)
    ·refine ev_neg ?_ (ev_to (ev_some _) (if_neg he).symm)
     cases hE : endN (arL l) t 1 0 with
     | none => simp [endI] <;> omega
     | some e =>
      intro k
      have : e = t.length := by simp only [endI] at k; omega
      exact he (by rw [hE, this]))
   (fun i hi r hr => by
    simp only [spec_l3Fault.l0]
    refine ev_pos (by omega) (ev_pos (by omega) (ev_bindq (l3Node_eq l (by omega) _) ?_))
    rw [wrap_up (by omega), hn i hi]
    exact ev_pos rfl (ev_to hr (by simp)))
   t.length 0 (by omega)
  refine ev_to h ?_
  exact scanN_none t.length 0 (fun j _ hj => by simp [hn j (by omega)])
theorem TermFault_spec (l : List S99) (t : List Int) (ht : t.length ≤ 1048576) : Ev (fun k => spec_TermFault.f k l t) (termF l t) := by
 unfold spec_TermFault.f termF
 exact ev_bind (SignatureFault_spec l) (ev_ite (fun h => ev_bind (l3Fault_ev l (right_of l h) t ht) (ev_some _)) (fun h => ev_some _))
theorem Term_bad (l : List S99) (hl : l.length ≤ 6) (t : List Int) (ht : t.length ≤ 1048576) :
  Ev (fun k => slices_ContainsFunc_int64_int64_impl_TermFault_1.f k t [(⟨l⟩ : S42)]) (badN l t) := by
 unfold slices_ContainsFunc_int64_int64_impl_TermFault_1.f slices_IndexFunc_int64_int64_impl_TermFault_1.f
 have h := loop_scan t.length (fun j => if (!nodeB l (rd t (j : Int))) = true then some (j : Int) else none) (-1) (fun k i => slices_IndexFunc_int64_int64_impl_TermFault_1.l0 k t (t.length : Int) i [(⟨l⟩ : S42)])
  (by simp only [slices_IndexFunc_int64_int64_impl_TermFault_1.l0]; exact ev_neg (by omega) (ev_some _))
  (fun i hi r hr => by
   simp only [slices_IndexFunc_int64_int64_impl_TermFault_1.l0]
   refine ev_pos (by omega) (ev_pos (by omega) (ev_pos (by omega) (ev_bindq (a := !nodeB l (rd t (i : Int))) ?_ ?_)))
   ·unfold impl_TermFault_1_with.f
    rw [if_pos (by simp)]
    exact bind_eq (isNode_eq l (by omega) _) rfl
   ·rw [wrap_up (by omega)]
    by_cases h : (!nodeB l (rd t (i : Int))) = true
    ·rw [if_pos h]; exact ev_pos h (ev_some _)
    ·rw [if_neg h]; exact ev_neg h hr)
  t.length 0 (by omega)
 rw [scanN_first (fun j => !nodeB l (rd t (j : Int))) (fun j => (j : Int)) (-1)] at h
 refine ev_bind h (ev_to (ev_some _) ?_)
 unfold badN
 cases firstN (fun j => !nodeB l (rd t (j : Int))) t.length 0 with
 | none => rfl
 | some j => simp
theorem TermFault_impl (l : List S99) (t : List Int) (ht : t.length ≤ 1048576) : Ev (fun k => impl_TermFault.f k l t) (termF l t) := by
 unfold impl_TermFault.f termF
 refine ev_bind (SignatureFault_impl l) (ev_ite (fun h => ?_) (fun h => ev_some _))
 have hr := right_of l h
 have hl := hr.len
 unfold termG
 by_cases h1 : (t.length : Int) < 1
 ·rw [if_pos (.inl (by omega))]
  refine ev_pos h1 (ev_succ ?_)
  simp only [impl_TermFault.j0]
  exact ev_pos (by simp) (ev_some _)
 refine ev_neg h1 (ev_succ ?_)
 simp only [impl_TermFault.j0]
 by_cases h2 : (t.length : Int) > 24
 ·rw [if_pos (.inr (by omega))]
  exact ev_pos (by simpa using h2) (ev_some _)
 rw [if_neg (by omega)]
 refine ev_neg (by simpa using h2) (ev_bind (Term_bad l (by omega) t ht) (ev_ite (fun hb => ev_some _) (fun hb => ?_)))
 have hn := nodes_of hb
 refine ev_bind (endOf_ev l hr t ht hn 0 (by omega)) ?_
 by_cases he : endN (arL l) t 1 0 = some t.length
 ·rw [he]; exact ev_pos rfl (ev_to (ev_some _) (if_pos rfl).symm)
 ·refine ev_neg ?_ (ev_to (ev_some _) (if_neg he).symm)
  cases hE : endN (arL l) t 1 0 with
  | none => simp [endJ] <;> omega
  | some e =>
   intro k
   have : e = t.length := by simp only [endJ] at k; omega
   exact he (by rw [hE, this])
structure RightT (l : List S99) (t : List Int) : Prop where
 sig : Right l
 len : 1 ≤ t.length ∧ t.length ≤ 24
 nodes : Nodes l t
 whole : endN (arL l) t 1 0 = some t.length
theorem rightT_of {l : List S99} {t : List Int} (h : termF l t = 0) : RightT l t := by
 unfold termF at h
 by_cases hs : sigF l = 0
 ·rw [if_pos hs] at h
  unfold termG at h
  by_cases h1 : t.length < 1 ∨ t.length > 24
  ·rw [if_pos h1] at h; cases h
  rw [if_neg h1] at h
  by_cases h2 : badN l t = true
  ·rw [if_pos h2] at h; cases h
  rw [if_neg h2] at h
  by_cases h3 : endN (arL l) t 1 0 = some t.length
  ·exact ⟨right_of l hs, by omega, nodes_of h2, h3⟩
  ·rw [if_neg h3] at h; cases h
 ·rw [if_neg hs] at h; exact absurd h hs
end Go.Proofs.YtedkbpbodkmhlaaDoor.Pure
set_option linter.unusedVariables false
namespace Go.Proofs.YtedkbpbodkmhlaaDoor.Pure
open Go.RowKit Go.Proofs.YtedkbpbodkmhlaaDoor.P Go.Proofs.YtedkbpbodkmhlaaDoorW.PrintWords Go.Proofs.YtedkbpbodkmhlaaDoorW.PrintLast Go.Proofs.YtedkbpbodkmhlaaDoor.Base
theorem nodes_iff {l : List S99} {t : List Int} : Nodes l t ↔ ∀ n ∈ t, nodeB l n = true := by
 constructor
 ·intro h n hn
  obtain ⟨j, hj, rfl⟩ := List.mem_iff_getElem.1 hn
  have := h j hj
  rwa [rd_get t j hj] at this
 ·intro h i hi
  exact h _ (rd_mem t i hi)
theorem sig_of {l : List S99} {t : List Int} (h : termF l t = 0) : sigF l = 0 := by
 unfold termF at h
 by_cases hs : sigF l = 0
 ·exact hs
 ·rw [if_neg hs] at h; exact absurd h hs
theorem termF_mk {l : List S99} (h : sigF l = 0) {u : List Int} (h1 : 1 ≤ u.length) (h2 : u.length ≤ 24) (hn : ∀ n ∈ u, nodeB l n = true) (hw : Whole (arL l) u) : termF l u = 0 := by
 unfold termF
 rw [if_pos h]
 unfold termG
 have hb : ¬ badN l u = true := by
  intro hb
  unfold badN at hb
  cases hf : firstN (fun j => !nodeB l (rd u (j : Int))) u.length 0 with
  | none => rw [hf] at hb; cases hb
  | some j =>
   obtain ⟨_, hj, hp, _⟩ := firstN_some _ _ _ hf
   have := hn _ (rd_mem u j (by omega))
   rw [this] at hp; cases hp
 rw [if_neg (by omega), if_neg hb, if_pos (whole_iff.2 hw)]
theorem right_parts {l : List S99} {t : List Int} (h : termF l t = 0) : 1 ≤ t.length ∧ t.length ≤ 24 ∧ (∀ n ∈ t, nodeB l n = true) ∧ Whole (arL l) t := by
 have hr := rightT_of h
 exact ⟨hr.len.1, hr.len.2, nodes_iff.1 hr.nodes, whole_iff.1 hr.whole⟩
end Go.Proofs.YtedkbpbodkmhlaaDoor.Pure
set_option linter.unusedVariables false
namespace Go.Proofs.YtedkbpbodkmhlaaDoor.Pure
open Go.RowKit Go.Proofs.YtedkbpbodkmhlaaDoorW.PrintWords Go.Proofs.YtedkbpbodkmhlaaDoor.Base
theorem endN_sub (ar : Int → Nat) (t : List Int) (h : endN ar t 1 0 = some t.length) : ∀ at_, at_ < t.length → ∃ e, endN ar t 1 at_ = some e := by
 have key : ∀ (t : List Int) (k at_ : Nat) (u : List Int), skipN ar (k + 1) t = some u → at_ + u.length < t.length → ∃ v, skipN ar 1 (t.drop at_) = some v := by
  intro t
  induction t with
  | nil => intro k at_ u h hl; simp at hl
  | cons n t ih =>
   intro k at_ u h hl
   cases at_ with
   | zero =>
    rw [skipN_succ] at h
    cases hs : skipN ar 1 (n :: t) with
    | none => rw [hs] at h; cases h
    | some v => exact ⟨v, hs⟩
   | succ a =>
    rw [skipN_cons] at h
    rw [List.drop_succ_cons]
    simp only [List.length_cons] at hl
    cases hm : k + ar n with
    | zero =>
     rw [hm, skipN_zero] at h
     obtain rfl := Option.some.inj h
     omega
    | succ m =>
     rw [hm] at h
     exact ih m a u h (by omega)
 intro at_ hat
 unfold endN at h
 cases hs : skipN ar 1 (t.drop 0) with
 | none => rw [hs] at h; cases h
 | some u =>
  rw [hs] at h
  have hu : t.length - u.length = t.length := Option.some.inj h
  obtain ⟨d, e, hd, hk⟩ := skipN_suffix ar _ _ _ hs
  rw [List.drop_zero] at hs e hd
  have hul : u.length = t.length - d := by rw [e, List.length_drop]
  obtain ⟨v, hv⟩ := key t 0 at_ u hs (by omega)
  exact ⟨t.length - v.length, by unfold endN; rw [hv]; rfl⟩
end Go.Proofs.YtedkbpbodkmhlaaDoor.Pure
set_option linter.unusedVariables false
namespace Go.Proofs.YtedkbpbodkmhlaaDoor.Pure
open Go.RowKit Go.Proofs.YtedkbpbodkmhlaaDoor.P Go.Proofs.YtedkbpbodkmhlaaDoorW.PrintWords Go.Proofs.YtedkbpbodkmhlaaDoorW.PrintLast Go.Proofs.YtedkbpbodkmhlaaDoor.Base
theorem l1Ints_eq (o : List Int) (ho : o.length ≤ 1048576) : spec_l1Ints.f o = some o := by
 unfold spec_l1Ints.f
 simp only [Option.bind_some, List.length_nil, Nat.zero_add, List.nil_append]
 exact if_pos (by omega)
theorem clone_eq (o : List Int) (ho : o.length ≤ 1048576) : slices_Clone_int64_int64.f o = some o := by
 unfold slices_Clone_int64_int64.f
 exact if_pos (by omega)
def placeB (t : List Int) (a : Int) : Bool := decide (0 ≤ a ∧ a ≤ (t.length : Int) - 1)
theorem l3Place_eq (t : List Int) (ht : t.length ≤ 1048576) (a : Int) : spec_l3Place.f t a = some (placeB t a) := by
 unfold spec_l3Place.f placeB
 rw [l1In_eq, wrap_id (by omega) (by omega)]; rfl
def placeF (l : List S99) (t : List Int) (a : Int) : Int := if termF l t = 0 then (if placeB t a = true then 0 else 3) else termF l t
theorem placeFault_ev (l : List S99) (t : List Int) (ht : t.length ≤ 1048576) (a : Int) : Ev (fun k => impl_placeFault.f k l t a) (placeF l t a) := by
 unfold impl_placeFault.f placeF
 refine ev_bind (TermFault_impl l t ht) (ev_ite (fun h => ?_) (fun h => ev_some _))
 refine ev_bindq (a := placeB t a) ?_ (ev_ite (fun _ => ev_some _) (fun _ => ev_some _))
 rw [within_eq, wrap_id (by omega) (by omega)]; rfl
def endAt (l : List S99) (t : List Int) (a : Nat) : Nat := (endN (arL l) t 1 a).getD 0
theorem end_both {l : List S99} {t : List Int} (h : termF l t = 0) {a : Int} (ha : placeB t a = true) :
  ∃ i : Nat, a = (i : Int) ∧ i < t.length ∧ i < endAt l t i ∧ endAt l t i ≤ t.length ∧ Ev (fun k => spec_l3End.f k [(⟨l⟩ : S42)] t (i : Int)) (endAt l t i : Int) ∧ Ev (fun k => impl_endOf.f k l t (i : Int)) (endAt l t i : Int) := by
 have hr := rightT_of h
 have hl := hr.len
 have hs := of_decide_eq_true ha
 obtain ⟨i, rfl⟩ := Int.eq_ofNat_of_zero_le hs.1
 obtain ⟨e, he⟩ := endN_sub _ t hr.whole i (by omega)
 obtain ⟨_, h1, h2⟩ := endN_some (by omega) he
 have e1 := l3End_ev l hr.sig t (by omega) hr.nodes (t.length - i) i (by omega)
 have e2 := endOf_ev l hr.sig t (by omega) hr.nodes i (by omega)
 rw [he] at e1 e2
 refine ⟨i, rfl, by omega, ?_, ?_, ?_, ?_⟩
 ·unfold endAt; rw [he]; exact h1
 ·unfold endAt; rw [he]; exact h2
 ·unfold endAt; rw [he]; exact e1
 ·unfold endAt; rw [he]; exact e2
def subL (l : List S99) (t : List Int) (a : Int) : List Int := (t.take (endAt l t a.toNat)).drop a.toNat
def subR (l : List S99) (t : List Int) (a : Int) : Int × List Int := if termF l t = 0 then (if placeB t a = true then (0, subL l t a) else (3, [])) else (termF l t, [])
theorem SubtermAt_spec (l : List S99) (t : List Int) (ht : t.length ≤ 1048576) (a : Int) : Ev (fun k => spec_SubtermAt.f k l t a) (subR l t a) := by
 unfold spec_SubtermAt.f subR
 refine ev_bind (TermFault_spec l t ht) (ev_ite (fun h => ?_) (fun h => ev_some _))
 refine ev_bindq (l3Place_eq t ht a) (ev_ite (fun ha => ?_) (fun ha => ev_some _))
 obtain ⟨i, rfl, h0, h1, h2, e1, e2⟩ := end_both h ha
 refine ev_bind (a := subL l t (i : Int)) ?_ (ev_some _)
 unfold spec_l3Sub.f subL
 refine ev_bind e1 (ev_pos (by omega) (ev_pos (by omega) (ev_pos (by omega) ?_)))
 rw [Int.toNat_natCast, Int.toNat_natCast]
 exact ev_bindq (l1Ints_eq _ (by rw [List.length_drop, List.length_take]; omega)) (ev_some _)
theorem SubtermAt_impl (l : List S99) (t : List Int) (ht : t.length ≤ 1048576) (a : Int) : Ev (fun k => impl_SubtermAt.f k l t a) (subR l t a) := by
 unfold impl_SubtermAt.f subR
 refine ev_bind (placeFault_ev l t ht a) ?_
 unfold placeF
 by_cases h : termF l t = 0
 ·simp only [if_pos h]
  by_cases ha : placeB t a = true
  ·simp only [if_pos ha]
   refine ev_pos trivial ?_
   obtain ⟨i, rfl, h0, h1, h2, e1, e2⟩ := end_both h ha
   refine ev_bind (a := subL l t (i : Int)) ?_ (ev_bindq (clone_eq _ (by simp only [subL, List.length_drop, List.length_take]; omega)) (ev_some _))
   unfold impl_subterm.f subL
   refine ev_bind e2 (ev_pos (by omega) (ev_pos (by omega) (ev_pos (by omega) ?_)))
   rw [Int.toNat_natCast, Int.toNat_natCast]
   exact ev_some _
  ·simp only [if_neg ha]
   exact ev_neg (by omega) (ev_some _)
 ·simp only [if_neg h]
  exact ev_some _
theorem firstCode_ev (a b : Int) : Ev (fun k => impl_firstCode.f k [a, b]) (if a = 0 then b else a) := by
 unfold impl_firstCode.f cmp_Or_int64.f
 refine ev_bind (a := if a = 0 then b else a) ?_ (ev_some _)
 refine ev_succ ?_
 simp only [cmp_Or_int64.l0]
 refine ev_pos (by simp) (ev_pos (by omega) (ev_pos (by simp) ?_))
 have e0 : rd [a, b] 0 = a := rfl
 rw [e0]
 refine ev_ite (fun h => ?_) (fun h => ev_some _)
 refine ev_succ ?_
 have e1 : wrap64 (0 + 1) = 1 := by rw [wrap_id (by omega) (by omega)]; rfl
 have e2 : rd [a, b] 1 = b := rfl
 simp only [cmp_Or_int64.l0, e1, e2]
 refine ev_pos (by simp) (ev_pos (by omega) (ev_pos (by simp) ?_))
 by_cases hb : b = 0
 ·refine ev_pos hb (ev_succ ?_)
  have e3 : wrap64 (1 + 1) = 2 := by rw [wrap_id (by omega) (by omega)]; rfl
  simp only [cmp_Or_int64.l0, e3]
  exact ev_neg (by simp) (ev_to (ev_some _) hb.symm)
 ·exact ev_neg hb (ev_some _)
def repL (l : List S99) (t : List Int) (a : Int) (b : List Int) : List Int := t.take a.toNat ++ b ++ t.drop (endAt l t a.toNat)
def repR (l : List S99) (t : List Int) (a : Int) (b : List Int) : Int × List Int :=
 if termF l t = 0 then (if placeB t a = true then (if termF l b = 0 then (if ((repL l t a b).length : Int) > 24 then (2, []) else (0, repL l t a b)) else (termF l b, [])) else (3, [])) else (termF l t, [])
theorem ReplaceAt_spec (l : List S99) (t : List Int) (ht : t.length ≤ 1048576) (a : Int) (b : List Int) (hb : b.length ≤ 1048576) : Ev (fun k => spec_ReplaceAt.f k l t a b) (repR l t a b) := by
 unfold spec_ReplaceAt.f repR
 refine ev_bind (TermFault_spec l t ht) (ev_ite (fun h => ?_) (fun h => ev_some _))
 have hr := rightT_of h
 refine ev_bindq (l3Place_eq t ht a) (ev_ite (fun ha => ?_) (fun ha => ev_some _))
 have hg : termF l b = termG l b := by
  unfold termF
  by_cases hs : sigF l = 0
  ·rw [if_pos hs]
  ·unfold termF at h; rw [if_neg hs] at h; exact absurd h hs
 have hf := l3Fault_ev l hr.sig b hb
 rw [← hg] at hf
 refine ev_bind hf (ev_ite (fun hc => ?_) (fun hc => ev_some _))
 obtain ⟨i, rfl, h0, h1, h2, e1, e2⟩ := end_both h ha
 refine ev_bind (a := repL l t (i : Int) b) ?_ (ev_ite (fun _ => ev_some _) (fun _ => ev_some _))
 have hl := hr.len
 have hbl := (rightT_of hc).len
 unfold spec_l3Replace.f repL
 refine ev_pos (by omega) (ev_pos (by omega) ?_)
 rw [Int.toNat_natCast]
 refine ev_bindq (l1Ints_eq _ (by rw [List.length_take]; omega)) (ev_pos (by rw [List.length_take]; omega) (ev_bindq rfl (ev_bind e1 (ev_pos (by omega) (ev_pos (by omega) ?_)))))
 rw [Int.toNat_natCast]
 exact ev_pos (by simp only [List.length_append, List.length_take, List.length_drop]; omega) (ev_some _)
theorem ReplaceAt_impl (l : List S99) (t : List Int) (ht : t.length ≤ 1048576) (a : Int) (b : List Int) (hb : b.length ≤ 1048576) : Ev (fun k => impl_ReplaceAt.f k l t a b) (repR l t a b) := by
 unfold impl_ReplaceAt.f repR
 refine ev_bind (placeFault_ev l t ht a) (ev_bind (TermFault_impl l b hb) (ev_bind (firstCode_ev _ _) ?_))
 unfold placeF
 by_cases h : termF l t = 0
 ·simp only [if_pos h]
  by_cases ha : placeB t a = true
  ·simp only [if_pos ha, if_true]
   refine ev_ite (fun hc => ?_) (fun hc => ev_some _)
   obtain ⟨i, rfl, h0, h1, h2, e1, e2⟩ := end_both h ha
   have hl := (rightT_of h).len
   have hbl := (rightT_of hc).len
   refine ev_bind (a := repL l t (i : Int) b) ?_ ?_
   ·unfold impl_replaced.f repL
    refine ev_pos (by omega) (ev_pos (by omega) ?_)
    rw [Int.toNat_natCast]
    refine ev_bindq (clone_eq _ (by rw [List.length_take]; omega)) (ev_pos (by rw [List.length_take]; omega) (ev_bindq rfl (ev_bind e2 (ev_pos (by omega) (ev_pos (by omega) ?_)))))
    rw [Int.toNat_natCast]
    exact ev_pos (by simp only [List.length_append, List.length_take, List.length_drop]; omega) (ev_some _)
   ·unfold impl_fitting.f
    by_cases hg : ((repL l t (i : Int) b).length : Int) > 24
    ·rw [if_pos hg]; simp only [if_pos hg]; exact ev_some _
    ·rw [if_neg hg]; simp only [if_neg hg]; exact ev_some _
  ·simp only [if_neg ha]
   exact ev_neg (by simp) (ev_to (ev_some _) (by simp))
 ·simp only [if_neg h]
  exact ev_some _
end Go.Proofs.YtedkbpbodkmhlaaDoor.Pure
set_option linter.unusedVariables false
namespace Go.Proofs.YtedkbpbodkmhlaaDoor.Pure
open Go.RowKit Go.Proofs.YtedkbpbodkmhlaaDoor.P Go.Proofs.YtedkbpbodkmhlaaDoorW.PrintWords Go.Proofs.YtedkbpbodkmhlaaDoorW.PrintLast Go.Proofs.YtedkbpbodkmhlaaDoor.Base
theorem place_parts {l : List S99} {t : List Int} (h : termF l t = 0) {a : Int} (ha : placeB t a = true) :
  ∃ (p s x : List Int), t = p ++ s ++ x ∧ (p.length : Int) = a ∧ Whole (arL l) s ∧ t.take a.toNat = p ∧ t.drop (endAt l t a.toNat) = x ∧ subL l t a = s ∧ endAt l t a.toNat = p.length + s.length := by
 have hr := rightT_of h
 have ha := of_decide_eq_true ha
 obtain ⟨i, rfl⟩ := Int.eq_ofNat_of_zero_le ha.1
 obtain ⟨e, he⟩ := endN_sub (arL l) t hr.whole i (by omega)
 obtain ⟨s, e1, hs, e2, e3⟩ := end_parts (by omega) he
 have ea : endAt l t i = e := by unfold endAt; rw [he]; rfl
 refine ⟨t.take i, s, t.drop e, e1, by rw [List.length_take]; omega, hs, ?_, ?_, ?_, ?_⟩
 ·rw [Int.toNat_natCast]
 ·rw [Int.toNat_natCast, ea]
 ·unfold subL; rw [Int.toNat_natCast, ea, e3]
 ·rw [Int.toNat_natCast, ea, List.length_take, e2]; omega
theorem endAt_parts {l : List S99} {p b x : List Int} (hb : Whole (arL l) b) : endAt l (p ++ b ++ x) p.length = p.length + b.length := by
 unfold endAt
 rw [whole_end hb]; rfl
theorem repl_facts {l : List S99} {t b : List Int} {a : Int} (h : termF l t = 0) (ha : placeB t a = true) (hb : termF l b = 0) (hlen : ¬ ((repL l t a b).length : Int) > 24) :
  termF l (repL l t a b) = 0 ∧ placeB (repL l t a b) a = true ∧ subL l (repL l t a b) a = b ∧ termF l (subL l t a) = 0 ∧ repL l (repL l t a b) a (subL l t a) = t
   ∧ endAt l (repL l t a b) a.toNat = a.toNat + b.length ∧ endAt l t a.toNat = a.toNat + (subL l t a).length ∧ (repL l t a b).length + (subL l t a).length = t.length + b.length := by
 obtain ⟨p, s, x, e, hp, hs, h1, h2, h3, h4⟩ := place_parts h ha
 obtain ⟨b1, b2, bn, bw⟩ := right_parts hb
 obtain ⟨t1, t2, tn, tw⟩ := right_parts h
 have hpa : a.toNat = p.length := by omega
 have hrep : repL l t a b = p ++ b ++ x := by unfold repL; rw [h1, h2]
 rw [hrep] at hlen ⊢
 rw [h3, h4, hpa]
 have hl : (p ++ b ++ x).length = p.length + b.length + x.length := by simp only [List.length_append]
 have hw : Whole (arL l) (p ++ b ++ x) := whole_swap hs bw (by rw [← e]; exact tw)
 have hea := endAt_parts (l := l) (p := p) (x := x) bw
 have hst : t.length = p.length + s.length + x.length := by rw [e]; simp only [List.length_append]
 have hmem : ∀ n, n ∈ p ∨ n ∈ s ∨ n ∈ x → nodeB l n = true := fun n hn => tn n (by rw [e]; simp only [List.mem_append]; rcases hn with hn | hn | hn <;> simp [hn])
 have hpl := whole_pos hs
 refine ⟨termF_mk (sig_of h) (by omega) (by omega) (fun n hn => ?_) hw, decide_eq_true (by omega), ?_, termF_mk (sig_of h) hpl (by omega) (fun n hn => hmem n (.inr (.inl hn))) hs, ?_, hea, rfl, by omega⟩
 ·simp only [List.mem_append] at hn
  rcases hn with (hn | hn) | hn
  ·exact hmem n (.inl hn)
  ·exact bn n hn
  ·exact hmem n (.inr (.inr hn))
 ·unfold subL
  rw [hpa, hea, List.take_left' (by simp only [List.length_append]), List.drop_left' rfl]
 ·unfold repL
  rw [hpa, hea, List.append_assoc p b x, List.take_left' rfl, ← List.append_assoc, List.drop_left' (by simp only [List.length_append]), e]
end Go.Proofs.YtedkbpbodkmhlaaDoor.Pure
set_option linter.unusedVariables false
namespace Go.Proofs.YtedkbpbodkmhlaaDoor.Pure
open Go.RowKit Go.Proofs.YtedkbpbodkmhlaaDoor.P Go.Proofs.YtedkbpbodkmhlaaDoorW.PrintWords Go.Proofs.YtedkbpbodkmhlaaDoorW.PrintLast Go.Proofs.YtedkbpbodkmhlaaDoor.Base
def siR (l : List S99) (t : List Int) (a : Int) : Int × Int := if termF l t = 0 then (if placeB t a = true then (0, ((subL l t a).length : Int)) else (3, 0)) else (termF l t, 0)
theorem SizeAt_si (l : List S99) (t : List Int) (ht : t.length ≤ 1048576) (a : Int) : Ev (fun k => impl_SizeAt.f k l t a) (siR l t a) := by
 unfold impl_SizeAt.f siR
 refine ev_bind (placeFault_ev l t ht a) ?_
 unfold placeF
 by_cases h : termF l t = 0
 ·simp only [if_pos h]
  by_cases ha : placeB t a = true
  ·simp only [if_pos ha]
   refine ev_pos trivial ?_
   obtain ⟨i, rfl, h0, h1, h2, e1, e2⟩ := end_both h ha
   refine ev_bind (a := subL l t (i : Int)) ?_ (ev_some _)
   unfold impl_subterm.f subL
   refine ev_bind e2 (ev_pos (by omega) (ev_pos (by omega) (ev_pos (by omega) ?_)))
   rw [Int.toNat_natCast, Int.toNat_natCast]
   exact ev_some _
  ·simp only [if_neg ha]
   exact ev_neg (by omega) (ev_some _)
 ·simp only [if_neg h]
  exact ev_some _
end Go.Proofs.YtedkbpbodkmhlaaDoor.Pure
set_option linter.unusedVariables false
namespace Go.Proofs.YtedkbpbodkmhlaaDoor.Pure
open Go.RowKit Go.Proofs.YtedkbpbodkmhlaaDoor.P Go.Proofs.YtedkbpbodkmhlaaDoorW.PrintWords Go.Proofs.YtedkbpbodkmhlaaDoorW.PrintLast Go.Proofs.YtedkbpbodkmhlaaDoor.Base
theorem lwNums_l0 (a b : List Int) (hab : a.length = b.length) (hl : a.length ≤ 9223372036854775807) : ∀ (d i : Nat), i + d = a.length → Ev (fun k => laws_lwNums.l0 k a b (i : Int)) (decide (a.drop i = b.drop i)) := by
 intro d
 induction d with
 | zero =>
  intro i hi
  refine ev_succ ?_
  simp only [laws_lwNums.l0]
  refine ev_neg (by omega) ?_
  rw [List.drop_eq_nil_of_le (by omega), List.drop_eq_nil_of_le (by omega)]
  exact ev_some _
 | succ d ih =>
  intro i hi
  refine ev_succ ?_
  simp only [laws_lwNums.l0]
  refine ev_pos (by omega) (ev_pos (by omega) (ev_pos (by omega) ?_))
  rw [rd_drop a i (by omega), rd_drop b i (by omega)]
  by_cases h : rd a (i : Int) = rd b (i : Int)
  ·refine ev_pos h ?_
   rw [wrap_up (by omega)]
   refine ev_to (ih (i + 1) (by omega)) ?_
   simp [h]
  ·refine ev_neg h ?_
   refine ev_to (ev_some _) ?_
   simp [h]
theorem lwNums_ev (a b : List Int) (hl : a.length ≤ 9223372036854775807) : Ev (fun k => laws_lwNums.f k a b) (decide (a = b)) := by
 unfold laws_lwNums.f
 by_cases h : a.length = b.length
 ·refine ev_pos (by omega) ?_
  exact lwNums_l0 a b h hl a.length 0 (by omega)
 ·refine ev_neg (by omega) ?_
  refine ev_to (ev_some _) ?_
  have : ¬ a = b := fun e => h (by rw [e])
  simp [this]
theorem lwNums_same (a : List Int) (hl : a.length ≤ 9223372036854775807) : Ev (fun k => laws_lwNums.f k a a) true := ev_to (lwNums_ev a a hl) (by simp)
end Go.Proofs.YtedkbpbodkmhlaaDoor.Pure
set_option linter.unusedVariables false
namespace Go.Proofs.YtedkbpbodkmhlaaDoor.Pure
open Go.RowKit Go.Proofs.YtedkbpbodkmhlaaDoorW.PrintWords Go.Proofs.YtedkbpbodkmhlaaDoorW.PrintLast Go.Proofs.YtedkbpbodkmhlaaDoor.Base
def Byte (x : Int) : Prop := 0 ≤ x ∧ x ≤ 255
theorem rd_byte {xs : List Int} (hx : ∀ x ∈ xs, Byte x) (i : Int) (h0 : 0 ≤ i) (h1 : i < xs.length) : Byte (rd xs i) := by
 have := hx _ (rd_mem xs i.toNat (by omega))
 rwa [Int.toNat_of_nonneg h0] at this
end Go.Proofs.YtedkbpbodkmhlaaDoor.Pure
set_option linter.unusedVariables false
namespace Go.Proofs.YtedkbpbodkmhlaaDoor.Pure
open Go.RowKit Go.Proofs.YtedkbpbodkmhlaaDoor.P Go.Proofs.YtedkbpbodkmhlaaDoorW.PrintWords Go.Proofs.YtedkbpbodkmhlaaDoorW.PrintLast Go.Proofs.YtedkbpbodkmhlaaDoor.Base
theorem tmod_in {x n : Int} (hx : 0 ≤ x) (hn : 1 ≤ n) : 0 ≤ Int.tmod x n ∧ Int.tmod x n < n := by
 rw [Int.tmod_eq_emod_of_nonneg hx]
 exact ⟨Int.emod_nonneg _ (by omega), Int.emod_lt_of_pos _ (by omega)⟩
structure Code (c : List Int) : Prop where
 bytes : ∀ x ∈ c, Byte x
 len : c.length ≤ 2000000
theorem l1Next_ex {c : List Int} (hc : Code c) {a n : Int} (ha : 0 ≤ a) (ha' : a ≤ 1000000000000) (hn : n ≤ 1000000) :
  ∃ v, spec_l1Next.f c a n = some (v, a + 1) ∧ (n < 1 → v = 0) ∧ (1 ≤ n → 0 ≤ v ∧ v < n) := by
 unfold spec_l1Next.f
 have e1 : wrap64 (a + 1) = a + 1 := wrap_id (by omega) (by omega)
 have e2 : wrap64 (a + 1 - 1) = a := by rw [wrap_id (by omega) (by omega)]; omega
 simp only [e1, e2]
 by_cases h1 : n < 1
 ·rw [if_pos h1]
  exact ⟨0, rfl, fun _ => rfl, fun h => by omega⟩
 rw [if_neg h1]
 have hl := hc.len
 by_cases h2 : (c.length : Int) = 0
 ·rw [if_pos h2, if_neg (by omega), wrap_id (x := a * 7) (by omega) (by omega)]
  exact ⟨_, rfl, fun h => by omega, fun h => tmod_in (by omega) h⟩
 rw [if_neg h2]
 have hp : 0 < (c.length : Int) := by omega
 obtain ⟨m0, m1⟩ := tmod_in (x := a) (n := (c.length : Int)) ha (by omega)
 have hb := rd_byte hc.bytes _ m0 m1
 have hq : 0 ≤ Int.tdiv a (c.length : Int) ∧ Int.tdiv a (c.length : Int) ≤ a := by
  rw [Int.tdiv_eq_ediv_of_nonneg ha]
  exact ⟨Int.ediv_nonneg ha (by omega), Int.ediv_le_self _ ha⟩
 rw [if_pos m0, if_pos m1]
 generalize rd c (Int.tmod a (c.length : Int)) = b at *
 generalize Int.tdiv a (c.length : Int) = q at *
 unfold Byte at hb
 have w1 : wrap64 b = b := wrap_id (by omega) (by omega)
 have w2 : wrap64 q = q := wrap_id (by omega) (by omega)
 have w3 : wrap64 (q * 37) = q * 37 := wrap_id (by omega) (by omega)
 have w4 : wrap64 (b + q * 37) = b + q * 37 := wrap_id (by omega) (by omega)
 by_cases h3 : n > 200
 ·rw [if_pos h3]
  obtain ⟨k0, k1⟩ := tmod_in (x := a + 1) (n := (c.length : Int)) (by omega) (by omega)
  have hd := rd_byte hc.bytes _ k0 k1
  rw [if_pos k0, if_pos k1, if_neg (by omega)]
  generalize rd c (Int.tmod (a + 1) (c.length : Int)) = d at *
  unfold Byte at hd
  have w5 : wrap64 d = d := wrap_id (by omega) (by omega)
  have w6 : wrap64 (d * 13) = d * 13 := wrap_id (by omega) (by omega)
  have w7 : wrap64 ((b + q * 37) * 251) = (b + q * 37) * 251 := wrap_id (by omega) (by omega)
  have w8 : wrap64 ((b + q * 37) * 251 + d * 13) = (b + q * 37) * 251 + d * 13 := wrap_id (by omega) (by omega)
  have w9 : wrap64 ((b + q * 37) * 251 + d * 13 + a) = (b + q * 37) * 251 + d * 13 + a := wrap_id (by omega) (by omega)
  simp only [w1, w2, w3, w4, w5, w6, w7, w8, w9]
  exact ⟨_, rfl, fun h => by omega, fun h => tmod_in (by omega) h⟩
 ·rw [if_neg h3, if_neg (by omega)]
  simp only [w1, w2, w3, w4]
  exact ⟨_, rfl, fun h => by omega, fun h => tmod_in (by omega) h⟩
theorem l1Chance_ex {c : List Int} (hc : Code c) {a n : Int} (ha : 0 ≤ a) (ha' : a ≤ 1000000000000) (hn : n ≤ 1000000) :
  ∃ b, spec_l1Chance.f c a n = some (b, a + 1) := by
 obtain ⟨v, hv, _⟩ := l1Next_ex hc ha ha' hn
 exact ⟨v == 0, by unfold spec_l1Chance.f; rw [hv]; rfl⟩
theorem l1Pick_ex {c : List Int} (hc : Code c) {a : Int} (ha : 0 ≤ a) (ha' : a ≤ 1000000000000) (l : List Int) (hl : 0 < l.length) (hl' : l.length ≤ 1000000) :
  ∃ v, spec_l1Pick.f c a l = some (v, a + 1) ∧ v ∈ l := by
 obtain ⟨v, hv, _, h⟩ := l1Next_ex (n := (l.length : Int)) hc ha ha' (by omega)
 obtain ⟨h0, h1⟩ := h (by omega)
 refine ⟨rd l v, ?_, ?_⟩
 ·unfold spec_l1Pick.f
  rw [hv]
  simp only [Option.bind_some]
  rw [if_pos h0, if_pos h1]
 ·have := rd_mem l v.toNat (by omega)
  rwa [Int.toNat_of_nonneg h0] at this
end Go.Proofs.YtedkbpbodkmhlaaDoor.Pure
set_option linter.unusedVariables false
namespace Go.Proofs.YtedkbpbodkmhlaaDoor.Pure
open Go.RowKit Go.Proofs.YtedkbpbodkmhlaaDoor.P Go.Proofs.YtedkbpbodkmhlaaDoorW.PrintWords Go.Proofs.YtedkbpbodkmhlaaDoorW.PrintLast Go.Proofs.YtedkbpbodkmhlaaDoor.Base
theorem l2Sig_j1 (v : Int) (f : Bool) (c : List Int) (a : Int) (n1 : ByteArray) (i1 : Int) (n2 : ByteArray) (i2 : Int) (n3 : ByteArray) (i3 : Int) (n4 : ByteArray) (i4 : Int) (n5 : ByteArray) (i5 : Int) (n6 : ByteArray) (i6 : Int) :
  ∃ g, Ev (fun k => spec_l2Sig.j1 k v f c a n1 i1 n2 i2 n3 i3 n4 i4 n5 i5 n6 i6) (g, a) ∧ 1 ≤ g.length ∧ g.length ≤ 6 := by
 cases f with
 | true =>
  refine ⟨[(⟨n5, i5⟩ : S99), (⟨n4, i4⟩ : S99), (⟨(⟨#[97, 100, 100]⟩ : ByteArray), 2⟩ : S99), (⟨n6, i6⟩ : S99)], ev_succ ?_, by simp, by simp⟩
  simp only [spec_l2Sig.j1]
  exact ev_pos (by simp) (ev_some _)
 | false =>
  by_cases h5 : v = 5
  ·refine ⟨[(⟨n5, i5⟩ : S99), (⟨(⟨#[102]⟩ : ByteArray), 1⟩ : S99), (⟨(⟨#[103]⟩ : ByteArray), 1⟩ : S99)], ev_succ ?_, by simp, by simp⟩
   simp only [spec_l2Sig.j1]
   exact ev_neg (by simp) (ev_pos h5 (ev_some _))
  by_cases h6 : v = 6
  ·refine ⟨[(⟨n5, i5⟩ : S99), (⟨n6, i6⟩ : S99), (⟨n1, i1⟩ : S99), (⟨n3, i3⟩ : S99), (⟨n2, i2⟩ : S99), (⟨n4, i4⟩ : S99)], ev_succ ?_, by simp, by simp⟩
   simp only [spec_l2Sig.j1]
   exact ev_neg (by simp) (ev_neg h5 (ev_pos h6 (ev_some _)))
  ·refine ⟨[(⟨n5, i5⟩ : S99)], ev_succ ?_, by simp, by simp⟩
   simp only [spec_l2Sig.j1]
   exact ev_neg (by simp) (ev_neg h5 (ev_neg h6 (ev_some _)))
theorem l2Sig_j0 (v : Int) (f : Bool) (c : List Int) (a : Int) (n1 : ByteArray) (i1 : Int) (n2 : ByteArray) (i2 : Int) (n3 : ByteArray) (i3 : Int) (n4 : ByteArray) (i4 : Int) (n5 : ByteArray) (i5 : Int) (n6 : ByteArray) (i6 : Int) :
  ∃ g, Ev (fun k => spec_l2Sig.j0 k v f c a n1 i1 n2 i2 n3 i3 n4 i4 n5 i5 n6 i6) (g, a) ∧ 1 ≤ g.length ∧ g.length ≤ 6 := by
 cases f with
 | true =>
  refine ⟨[(⟨n1, i1⟩ : S99), (⟨n2, i2⟩ : S99), (⟨n3, i3⟩ : S99), (⟨n5, i5⟩ : S99)], ev_succ ?_, by simp, by simp⟩
  simp only [spec_l2Sig.j0]
  exact ev_pos (by simp) (ev_some _)
 | false =>
  by_cases h3 : v = 3
  ·obtain ⟨g, hg, hl⟩ := l2Sig_j1 v (v == 3) c a n1 i1 n2 i2 n3 i3 n4 i4 n5 i5 n6 i6
   refine ⟨g, ev_succ ?_, hl⟩
   simp only [spec_l2Sig.j0]
   exact ev_neg (by simp) (ev_pos h3 hg)
  ·obtain ⟨g, hg, hl⟩ := l2Sig_j1 v (v == 4) c a n1 i1 n2 i2 n3 i3 n4 i4 n5 i5 n6 i6
   refine ⟨g, ev_succ ?_, hl⟩
   simp only [spec_l2Sig.j0]
   exact ev_neg (by simp) (ev_neg h3 hg)
theorem l2Sig_ex {c : List Int} (hc : Code c) {a : Int} (ha : 0 ≤ a) (ha' : a ≤ 1000000) : ∃ g, Ev (fun k => spec_l2Sig.f k c a) (g, a + 1) ∧ 1 ≤ g.length ∧ g.length ≤ 6 := by
 obtain ⟨v, hv, _, h⟩ := l1Next_ex hc (a := a) (n := 8) ha (by omega) (by omega)
 unfold spec_l2Sig.f
 by_cases h0 : v = 0
 ·obtain ⟨g, hg, hl⟩ := l2Sig_j0 v (v == 0) c (a + 1) (⟨#[101]⟩ : ByteArray) 0 (⟨#[105]⟩ : ByteArray) 1 (⟨#[109]⟩ : ByteArray) 2 (⟨#[115, 117, 99]⟩ : ByteArray) 1 (⟨#[97]⟩ : ByteArray) 0 (⟨#[98]⟩ : ByteArray) 0
  exact ⟨g, ev_bindq hv (ev_pos h0 hg), hl⟩
 by_cases h1 : v = 1
 ·obtain ⟨g, hg, hl⟩ := l2Sig_j0 v (v == 1) c (a + 1) (⟨#[101]⟩ : ByteArray) 0 (⟨#[105]⟩ : ByteArray) 1 (⟨#[109]⟩ : ByteArray) 2 (⟨#[115, 117, 99]⟩ : ByteArray) 1 (⟨#[97]⟩ : ByteArray) 0 (⟨#[98]⟩ : ByteArray) 0
  exact ⟨g, ev_bindq hv (ev_neg h0 (ev_pos h1 hg)), hl⟩
 ·obtain ⟨g, hg, hl⟩ := l2Sig_j0 v (v == 2) c (a + 1) (⟨#[101]⟩ : ByteArray) 0 (⟨#[105]⟩ : ByteArray) 1 (⟨#[109]⟩ : ByteArray) 2 (⟨#[115, 117, 99]⟩ : ByteArray) 1 (⟨#[97]⟩ : ByteArray) 0 (⟨#[98]⟩ : ByteArray) 0
  exact ⟨g, ev_bindq hv (ev_neg h0 (ev_neg h1 hg)), hl⟩
theorem l2Bent_l0 (c : List Int) (a : Int) (n : Nat) (hn : n ≤ 10) : ∀ (d i : Nat) (g : List S99), i + d = n → g.length = n → ∃ g', Ev (fun k => spec_l2Bent.l0 k (n : Int) (i : Int) c a g) (g', a) ∧ g'.length = n := by
 intro d
 induction d with
 | zero =>
  intro i g hi hg
  refine ⟨g, ev_succ ?_, hg⟩
  simp only [spec_l2Bent.l0]
  exact ev_neg (by omega) (ev_some _)
 | succ d ih =>
  intro i g hi hg
  obtain ⟨g', h, hl⟩ := ih (i + 1) (g.set ((i : Int)).toNat (⟨(rd_T99 g (i : Int)).f0, 1⟩ : S99)) (by omega) (by rw [List.length_set]; exact hg)
  refine ⟨g', ev_succ ?_, hl⟩
  simp only [spec_l2Bent.l0]
  refine ev_pos (by omega) (ev_pos (by omega) (ev_pos (by omega) ?_))
  rw [wrap_up (by omega)]
  exact h
theorem l2Bent_l1 (c : List Int) (a : Int) : ∀ (d : Nat) (g : List S99), g.length + d = 7 → ∃ g', Ev (fun k => spec_l2Bent.l1 k c a g) (g', a) ∧ g'.length ≤ 7 := by
 intro d
 induction d with
 | zero =>
  intro g hg
  refine ⟨g, ev_succ ?_, by omega⟩
  simp only [spec_l2Bent.l1]
  exact ev_neg (by omega) (ev_some _)
 | succ d ih =>
  intro g hg
  obtain ⟨g', h, hl⟩ := ih (g ++ [(⟨(⟨#[122]⟩ : ByteArray), 0⟩ : S99)]) (by simp; omega)
  refine ⟨g', ev_succ ?_, hl⟩
  simp only [spec_l2Bent.l1]
  exact ev_pos (by omega) (ev_pos (by omega) h)
theorem l2Bent_ex {c : List Int} (hc : Code c) {a : Int} (ha : 0 ≤ a) (ha' : a ≤ 100000) : ∃ g b, Ev (fun k => spec_l2Bent.f k c a) (g, b) ∧ g.length ≤ 7 ∧ a ≤ b ∧ b ≤ a + 10 := by
 obtain ⟨g, hg, g1, g6⟩ := l2Sig_ex hc ha (by omega)
 obtain ⟨q, hq⟩ := l1Chance_ex hc (a := a + 1) (n := 9) (by omega) (by omega) (by omega)
 unfold spec_l2Bent.f
 cases q with
 | false => exact ⟨g, _, ev_bind hg (ev_bindq hq (ev_neg (by simp) (ev_some _))), by omega, by omega, by omega⟩
 | true =>
  obtain ⟨v, hv, _, h⟩ := l1Next_ex hc (a := a + 1 + 1) (n := 7) (by omega) (by omega) (by omega)
  by_cases h0 : v = 0
  ·exact ⟨[], _, ev_bind hg (ev_bindq hq (ev_pos rfl (ev_bindq hv (ev_pos h0 (ev_some _))))), by simp, by omega, by omega⟩
  have hw : wrap64 ((g.length : Int) - 1) = (g.length : Int) - 1 := wrap_id (by omega) (by omega)
  by_cases h1 : v = 1
  ·refine ⟨g.set (wrap64 ((g.length : Int) - 1)).toNat (⟨(⟨#[97, 98, 99, 100]⟩ : ByteArray), (rd_T99 g (wrap64 ((g.length : Int) - 1))).f1⟩ : S99), a + 1 + 1 + 1, ev_bind hg (ev_bindq hq (ev_pos rfl (ev_bindq hv (ev_neg h0 (ev_pos h1 ?_))))), by rw [List.length_set]; omega, by omega, by omega⟩
   simp only
   exact ev_pos (by omega) (ev_pos (by omega) (ev_some _))
  obtain ⟨i, hi, _, hb⟩ := l1Next_ex hc (a := a + 1 + 1 + 1) (n := (g.length : Int)) (by omega) (by omega) (by omega)
  obtain ⟨i0, i1⟩ := hb (by omega)
  by_cases h2 : v = 2
  ·refine ⟨g.set (i : Int).toNat (⟨(⟨#[97, 66]⟩ : ByteArray), (rd_T99 g i).f1⟩ : S99), a + 1 + 1 + 1 + 1, ev_bind hg (ev_bindq hq (ev_pos rfl (ev_bindq hv (ev_neg h0 (ev_neg h1 (ev_pos h2 (ev_bindq hi ?_))))))), by rw [List.length_set]; omega, by omega, by omega⟩
   simp only
   exact ev_pos i0 (ev_pos i1 (ev_some _))
  by_cases h3 : v = 3
  ·obtain ⟨u, hu, _⟩ := l1Pick_ex hc (a := a + 1 + 1 + 1 + 1) (by omega) (by omega) [3, (-1)] (by simp) (by simp)
   refine ⟨g.set (i : Int).toNat (⟨(rd_T99 g i).f0, u⟩ : S99), a + 1 + 1 + 1 + 1 + 1, ev_bind hg (ev_bindq hq (ev_pos rfl (ev_bindq hv (ev_neg h0 (ev_neg h1 (ev_neg h2 (ev_pos h3 (ev_bindq hi (ev_bindq hu ?_))))))))), by rw [List.length_set]; omega, by omega, by omega⟩
   simp only
   exact ev_pos i0 (ev_pos i1 (ev_some _))
  by_cases h4 : v = 4
  ·refine ⟨g ++ [(⟨(rd_T99 g 0).f0, (rd_T99 g 0).f1⟩ : S99)], a + 1 + 1 + 1, ev_bind hg (ev_bindq hq (ev_pos rfl (ev_bindq hv (ev_neg h0 (ev_neg h1 (ev_neg h2 (ev_neg h3 (ev_pos h4 ?_)))))))), by simp; omega, by omega, by omega⟩
   simp only
   exact ev_pos (by omega) (ev_pos (by omega) (ev_some _))
  by_cases h5 : v = 5
  ·obtain ⟨g', hg', hl⟩ := l2Bent_l0 c (a + 1 + 1 + 1) g.length (by omega) g.length 0 g (by omega) rfl
   exact ⟨g', _, ev_bind hg (ev_bindq hq (ev_pos rfl (ev_bindq hv (ev_neg h0 (ev_neg h1 (ev_neg h2 (ev_neg h3 (ev_neg h4 (ev_pos h5 hg'))))))))), by omega, by omega, by omega⟩
  ·obtain ⟨g', hg', hl⟩ := l2Bent_l1 c (a + 1 + 1 + 1) (7 - g.length) g (by omega)
   exact ⟨g', _, ev_bind hg (ev_bindq hq (ev_pos rfl (ev_bindq hv (ev_neg h0 (ev_neg h1 (ev_neg h2 (ev_neg h3 (ev_neg h4 (ev_neg h5 hg'))))))))), hl, by omega, by omega⟩
end Go.Proofs.YtedkbpbodkmhlaaDoor.Pure
set_option linter.unusedVariables false
namespace Go.Proofs.YtedkbpbodkmhlaaDoor.Pure
open Go.RowKit Go.Proofs.YtedkbpbodkmhlaaDoor.P Go.Proofs.YtedkbpbodkmhlaaDoorW.PrintWords Go.Proofs.YtedkbpbodkmhlaaDoorW.PrintLast Go.Proofs.YtedkbpbodkmhlaaDoor.Base
theorem zero_of (l : List S99) (h : sigF l = 0) : ∃ z : Nat, z < l.length ∧ (rd_T99 l (z : Int)).f1 = 0 := by
 unfold sigF at h
 by_cases h1 : l.length < 1 ∨ l.length > 6
 ·rw [if_pos h1] at h; omega
 rw [if_neg h1] at h
 rcases scanN_cases (symFault l) (scanN (dupFault l) (if zeroB l = true then 0 else 4) l.length 0) l.length 0 with ⟨h2, h3⟩ | ⟨j, _, _, h3⟩
 ·rw [h3] at h
  rcases scanN_cases (dupFault l) (if zeroB l = true then 0 else 4) l.length 0 with ⟨h4, h5⟩ | ⟨j, _, _, h5⟩
  ·rw [h5] at h
   by_cases hz : zeroB l = true
   ·unfold zeroB at hz
    cases hf : firstN (fun j => (rd_T99 l (j : Int)).f1 == 0) l.length 0 with
    | none => rw [hf] at hz; cases hz
    | some j =>
     obtain ⟨_, hj, hp, _⟩ := firstN_some _ _ _ hf
     exact ⟨j, by omega, by simpa using hp⟩
   ·rw [if_neg hz] at h; omega
  ·rw [h] at h5
   unfold dupFault at h5
   by_cases hd : dupB l j = true
   ·rw [if_pos hd] at h5; cases h5
   ·rw [if_neg hd] at h5; cases h5
 ·rw [h] at h3
  unfold symFault at h3
  by_cases hn : nameB (rd_T99 l (j : Int)).f0 = true
  ·rw [if_pos hn] at h3
   by_cases ha : 0 ≤ (rd_T99 l (j : Int)).f1 ∧ (rd_T99 l (j : Int)).f1 ≤ 2
   ·rw [if_pos ha] at h3; cases h3
   ·rw [if_neg ha] at h3; cases h3
  ·rw [if_neg hn] at h3; cases h3
theorem rdSig0 (l : List S99) : (rd_T42 [(⟨l⟩ : S42)] 0).f0 = l := rfl
theorem l3Draw_l0 {l : List S99} (hl : 1 ≤ l.length ∧ l.length ≤ 6) (m v : Int) (c : List Int) (a : Int) : ∀ (d i n e : Nat), i + d = l.length → n < l.length → e < d → (rd_T99 l (((n + e) % l.length : Nat) : Int)).f1 < m →
  ∃ n' : Nat, n' < l.length ∧ (rd_T99 l (n' : Int)).f1 < m ∧ ∀ r, Ev (fun k => spec_l3Draw.j2 k [(⟨l⟩ : S42)] m v (l.length : Int) (n' : Int) c a) r → Ev (fun k => spec_l3Draw.l0 k [(⟨l⟩ : S42)] m v (l.length : Int) (n : Int) (i : Int) c a) r := by
 intro d
 induction d with
 | zero => intro i n e hi hn he; omega
 | succ d ih =>
  intro i n e hi hn he hlt
  by_cases h : (rd_T99 l (n : Int)).f1 ≥ m
  ·have he0 : e ≠ 0 := by
    intro e0
    subst e0
    rw [Nat.add_zero, Nat.mod_eq_of_lt hn] at hlt
    omega
   obtain ⟨n', h1, h2, h3⟩ := ih (i + 1) ((n + 1) % l.length) (e - 1) (by omega) (Nat.mod_lt _ (by omega)) (by omega) (by
    rw [Nat.mod_add_mod, show n + 1 + (e - 1) = n + e by omega]; exact hlt)
   refine ⟨n', h1, h2, fun r hr => ?_⟩
   have hq := h3 r hr
   refine ev_succ ?_
   simp only [spec_l3Draw.l0, rdSig0]
   refine ev_pos (by omega) (ev_pos (by simp) (ev_pos (by omega) (ev_pos (by omega) (ev_pos h (ev_neg (by omega) ?_)))))
   rw [wrap_up (i := n) (by omega), wrap_up (i := i) (by omega), show Int.tmod ((n + 1 : Nat) : Int) (l.length : Int) = (((n + 1) % l.length : Nat) : Int) by rw [Int.tmod_eq_emod_of_nonneg (by omega)]; omega]
   exact hq
  ·refine ⟨n, hn, by omega, fun r hr => ev_succ ?_⟩
   simp only [spec_l3Draw.l0, rdSig0]
   exact ev_pos (by omega) (ev_pos (by simp) (ev_pos (by omega) (ev_pos (by omega) (ev_neg h hr))))
theorem l3Draw_j2 {l : List S99} (hl : 1 ≤ l.length ∧ l.length ≤ 6) (m v : Int) (c : List Int) (a : Int) (n : Nat) (hn : n < l.length) (hlt : (rd_T99 l (n : Int)).f1 < m) (r : List Int × Int)
  (hr : Ev (fun k => spec_l3Draw.j4 k [(⟨l⟩ : S42)] m v (n : Int) c a) r) : Ev (fun k => spec_l3Draw.j2 k [(⟨l⟩ : S42)] m v (l.length : Int) (n : Int) c a) r := by
 refine ev_succ ?_
 simp only [spec_l3Draw.j2]
 by_cases h : m < 2
 ·refine ev_pos h (ev_succ ?_)
  simp only [spec_l3Draw.l1, rdSig0]
  exact ev_pos (by omega) (ev_pos (by simp) (ev_pos (by omega) (ev_pos (by omega) (ev_neg (by omega) hr))))
 ·exact ev_neg h hr
theorem l3Draw_ex {c : List Int} (hc : Code c) {l : List S99} (hr : Right l) (hz : ∃ z : Nat, z < l.length ∧ (rd_T99 l (z : Int)).f1 = 0) (v : Int) (hv : v ≤ 1000) : ∀ (m : Nat), 1 ≤ m → m ≤ 1000 → ∀ a : Int, 0 ≤ a → a + 3 * m ≤ 1000000 →
  ∃ t b, Ev (fun k => spec_l3Draw.f k c a [(⟨l⟩ : S42)] (m : Int) v) (t, b) ∧ 1 ≤ t.length ∧ t.length ≤ m ∧ a ≤ b ∧ b ≤ a + 3 * t.length := by
 intro m
 induction m using Nat.strongRecOn with
 | _ m ih =>
  intro m1 m2 a a0 a1
  have hl := hr.len
  -- behind the choice of the first node
  have hj4 : ∀ (n : Nat) (b : Int), n < l.length → (rd_T99 l (n : Int)).f1 < (m : Int) → a ≤ b → b ≤ a + 3 → ∃ t b', Ev (fun k => spec_l3Draw.j4 k [(⟨l⟩ : S42)] (m : Int) v (n : Int) c b) (t, b') ∧ 1 ≤ t.length ∧ t.length ≤ m ∧ b ≤ b' ∧ b' + 3 ≤ b + 3 * t.length := by
   intro n b hn hlt hab hb
   obtain ⟨r0, r1⟩ := hr.arities n hn
   by_cases h1 : (rd_T99 l (n : Int)).f1 = 1
   ·obtain ⟨t, b', ht, l1, l2, b0, b1⟩ := ih (m - 1) (by omega) (by omega) (by omega) b (by omega) (by omega)
    refine ⟨[(n : Int)] ++ t, b', ev_succ ?_, by simp, by simp; omega, by omega, by simp; omega⟩
    simp only [spec_l3Draw.j4, rdSig0, Option.bind_some]
    refine ev_pos (by simp) (ev_pos (by omega) (ev_pos (by omega) (ev_pos h1 ?_)))
    rw [wrap_id (x := (m : Int) - 1) (by omega) (by omega), show (m : Int) - 1 = ((m - 1 : Nat) : Int) by omega]
    exact ev_bind ht (ev_pos (by simp; omega) (ev_some _))
   by_cases h2 : (rd_T99 l (n : Int)).f1 = 2
   ·obtain ⟨t, b', ht, l1, l2, b0, b1⟩ := ih (m - 2) (by omega) (by omega) (by omega) b (by omega) (by omega)
    obtain ⟨u, b'', hu, k1, k2, d0, d1⟩ := ih (m - 1 - t.length) (by omega) (by omega) (by omega) b' (by omega) (by omega)
    refine ⟨([(n : Int)] ++ t) ++ u, b'', ev_succ ?_, by simp only [List.length_append, List.length_singleton]; omega, by simp only [List.length_append, List.length_singleton]; omega, by omega, by simp only [List.length_append, List.length_singleton]; omega⟩
    simp only [spec_l3Draw.j4, rdSig0, Option.bind_some]
    refine ev_pos (by simp) (ev_pos (by omega) (ev_pos (by omega) (ev_neg h1 (ev_pos h2 ?_))))
    rw [wrap_id (x := (m : Int) - 2) (by omega) (by omega), show (m : Int) - 2 = ((m - 2 : Nat) : Int) by omega, wrap_id (x := (m : Int) - 1) (by omega) (by omega)]
    refine ev_bind ht (ev_pos (by simp; omega) ?_)
    simp only
    rw [wrap_id (x := (m : Int) - 1 - (t.length : Int)) (by omega) (by omega), show (m : Int) - 1 - (t.length : Int) = ((m - 1 - t.length : Nat) : Int) by omega]
    exact ev_bind hu (ev_pos (by simp; omega) (ev_some _))
   ·refine ⟨[(n : Int)], b, ev_succ ?_, by simp, by simp; omega, by omega, by simp⟩
    simp only [spec_l3Draw.j4, rdSig0, Option.bind_some]
    exact ev_pos (by simp) (ev_pos (by omega) (ev_pos (by omega) (ev_neg h1 (ev_neg h2 (ev_some _)))))
  have hj0 : ∀ (q : Bool) (b : Int), a ≤ b → b ≤ a + 2 → ∃ t b', Ev (fun k => spec_l3Draw.j0 k [(⟨l⟩ : S42)] (m : Int) v q c b) (t, b') ∧ 1 ≤ t.length ∧ t.length ≤ m ∧ b ≤ b' ∧ b' + 2 ≤ b + 3 * t.length := by
   intro q b hab hb
   cases q with
   | true =>
    obtain ⟨x, hx, _⟩ := l1Next_ex hc (a := b) (n := v) (by omega) (by omega) (by omega)
    refine ⟨[wrap64 ((-1) - x)], b + 1, ev_succ ?_, by simp, by simp; omega, by omega, by simp; omega⟩
    simp only [spec_l3Draw.j0]
    exact ev_pos (by simp) (ev_bindq hx (ev_some _))
   | false =>
    obtain ⟨x, hx, _, hb2⟩ := l1Next_ex hc (a := b) (n := (l.length : Int)) (by omega) (by omega) (by omega)
    obtain ⟨x0, x1⟩ := hb2 (by omega)
    obtain ⟨n, rfl⟩ := Int.eq_ofNat_of_zero_le x0
    obtain ⟨z, hz1, hz2⟩ := hz
    have hmod : (n + (z + l.length - n) % l.length) % l.length = z := by
     rw [Nat.add_mod_mod, show n + (z + l.length - n) = z + l.length by omega, Nat.add_mod_right, Nat.mod_eq_of_lt hz1]
    obtain ⟨n', h1, h2, h3⟩ := l3Draw_l0 hl (m : Int) v c (b + 1) l.length 0 n ((z + l.length - n) % l.length) (by omega) (by omega) (Nat.mod_lt _ (by omega)) (by rw [hmod]; omega)
    obtain ⟨t, b', ht, l1, l2, b0, b1⟩ := hj4 n' (b + 1) h1 h2 (by omega) (by omega)
    refine ⟨t, b', ev_succ ?_, l1, l2, by omega, by omega⟩
    simp only [spec_l3Draw.j0, rdSig0]
    exact ev_neg (by simp) (ev_pos (by simp) (ev_bindq hx (h3 _ (l3Draw_j2 hl (m : Int) v c (b + 1) n' h1 h2 _ ht))))
  by_cases h1 : v > 0
  ·by_cases h2 : (m : Int) < 2
   ·obtain ⟨q, hq⟩ := l1Chance_ex hc (a := a) (n := 2) a0 (by omega) (by omega)
    cases q with
    | true =>
     obtain ⟨t, b', ht, l1, l2, b0, b1⟩ := hj0 true (a + 1) (by omega) (by omega)
     refine ⟨t, b', ev_succ ?_, l1, l2, by omega, by omega⟩
     simp only [spec_l3Draw.f]
     exact ev_pos h1 (ev_pos h2 (ev_bindq hq (ev_pos rfl ht)))
    | false =>
     obtain ⟨q2, hq2⟩ := l1Chance_ex hc (a := a + 1) (n := 4) (by omega) (by omega) (by omega)
     obtain ⟨t, b', ht, l1, l2, b0, b1⟩ := hj0 q2 (a + 1 + 1) (by omega) (by omega)
     refine ⟨t, b', ev_succ ?_, l1, l2, by omega, by omega⟩
     simp only [spec_l3Draw.f]
     exact ev_pos h1 (ev_pos h2 (ev_bindq hq (ev_neg (by simp) (ev_bindq hq2 ht))))
   ·obtain ⟨q2, hq2⟩ := l1Chance_ex hc (a := a) (n := 4) (by omega) (by omega) (by omega)
    obtain ⟨t, b', ht, l1, l2, b0, b1⟩ := hj0 q2 (a + 1) (by omega) (by omega)
    refine ⟨t, b', ev_succ ?_, l1, l2, by omega, by omega⟩
    simp only [spec_l3Draw.f]
    exact ev_pos h1 (ev_neg h2 (ev_bindq hq2 ht))
  ·obtain ⟨t, b', ht, l1, l2, b0, b1⟩ := hj0 false a (by omega) (by omega)
   refine ⟨t, b', ev_succ ?_, l1, l2, by omega, by omega⟩
   simp only [spec_l3Draw.f]
   exact ev_neg h1 ht
theorem l3Bent_l0 {c : List Int} (hc : Code c) : ∀ (d i : Nat) (x : List Int) (a : Int), i + d = 25 → x.length ≤ i → 0 ≤ a → a + 2 * d ≤ 1000000 → ∃ t b, Ev (fun k => spec_l3BentTerm.l0 k x (i : Int) c a) (t, b) ∧ t.length ≤ 25 ∧ a ≤ b ∧ b ≤ a + 2 * d + 1 := by
 intro d
 induction d with
 | zero =>
  intro i x a hi hx h0 h1
  obtain ⟨u, hu, hm⟩ := l1Pick_ex hc (a := a) h0 (by omega) [24, 25] (by simp) (by simp)
  refine ⟨x, a + 1, ev_succ ?_, by omega, by omega, by omega⟩
  simp only [spec_l3BentTerm.l0]
  have : u = 24 ∨ u = 25 := by simpa using hm
  exact ev_bindq hu (ev_neg (by simp only; omega) (ev_some _))
 | succ d ih =>
  intro i x a hi hx h0 h1
  obtain ⟨u, hu, hm⟩ := l1Pick_ex hc (a := a) h0 (by omega) [24, 25] (by simp) (by simp)
  by_cases h : (i : Int) < u
  ·obtain ⟨y, hy, _⟩ := l1Pick_ex hc (a := a + 1) (by omega) (by omega) [1, 2, 0] (by simp) (by simp)
   obtain ⟨t, b, ht, l1, b0, b1⟩ := ih (i + 1) (x ++ [y]) (a + 1 + 1) (by omega) (by simp; omega) (by omega) (by omega)
   refine ⟨t, b, ev_succ ?_, l1, by omega, by omega⟩
   simp only [spec_l3BentTerm.l0]
   refine ev_bindq hu (ev_pos h (ev_bindq hy (ev_pos (by omega) ?_)))
   rw [wrap_up (by omega)]
   exact ht
  ·refine ⟨x, a + 1, ev_succ ?_, by omega, by omega, by omega⟩
   simp only [spec_l3BentTerm.l0]
   exact ev_bindq hu (ev_neg h (ev_some _))
theorem l3Bent_ex {c : List Int} (hc : Code c) (l : List S99) (hl : l.length ≤ 7) (m : Nat) (m1 : 1 ≤ m) (m2 : m ≤ 100) (v : Int) (hv : v ≤ 1000) {a : Int} (a0 : 0 ≤ a) (a1 : a ≤ 10000) :
  ∃ t b, Ev (fun k => spec_l3BentTerm.f k c a [(⟨l⟩ : S42)] (m : Int) v) (t, b) ∧ t.length ≤ 110 ∧ a ≤ b ∧ b ≤ a + 400 := by
 have htrue : ∃ t b, Ev (fun k => spec_l3BentTerm.j0 k [(⟨l⟩ : S42)] (m : Int) v true c a) (t, b) ∧ t.length ≤ 110 ∧ a ≤ b ∧ b ≤ a + 400 := by
  refine ⟨[0], a, ev_succ ?_, by simp, by omega, by omega⟩
  simp only [spec_l3BentTerm.j0]
  exact ev_pos (by simp) (ev_some _)
 unfold spec_l3BentTerm.f
 simp only [rdSig0]
 by_cases h1 : (l.length : Int) < 1
 ·obtain ⟨t, b, ht, h⟩ := htrue
  exact ⟨t, b, ev_pos (by simp) (ev_pos h1 ht), h⟩
 have hS := SignatureFault_spec l
 by_cases hs : sigF l = 0
 ·have hr := right_of l hs
  have hz := zero_of l hs
  rw [hs] at hS
  obtain ⟨t, b, ht, l1, l2, b0, b1⟩ := l3Draw_ex hc hr hz v hv m m1 (by omega) a a0 (by omega)
  obtain ⟨q, hq⟩ := l1Chance_ex hc (a := b) (n := 11) (by omega) (by omega) (by omega)
  have key : ∃ t' b', Ev (fun k => spec_l3BentTerm.j0 k [(⟨l⟩ : S42)] (m : Int) v false c a) (t', b') ∧ t'.length ≤ 110 ∧ a ≤ b' ∧ b' ≤ a + 400 := by
   cases q with
   | false =>
    refine ⟨t, b + 1, ev_succ ?_, by omega, by omega, by omega⟩
    simp only [spec_l3BentTerm.j0]
    exact ev_neg (by simp) (ev_bind ht (ev_bindq hq (ev_neg (by simp) (ev_some _))))
   | true =>
    obtain ⟨x, hx, _, hb⟩ := l1Next_ex hc (a := b + 1) (n := 4) (by omega) (by omega) (by omega)
    obtain ⟨x0, x1⟩ := hb (by omega)
    have hw : wrap64 ((t.length : Int) - 1) = (t.length : Int) - 1 := wrap_id (by omega) (by omega)
    by_cases e0 : x = 0
    ·refine ⟨t.take ((t.length : Int) - 1).toNat, b + 1 + 1, ev_succ ?_, by rw [List.length_take]; omega, by omega, by omega⟩
     simp only [spec_l3BentTerm.j0]
     refine ev_neg (by simp) (ev_bind ht (ev_bindq hq (ev_pos rfl (ev_bindq hx (ev_pos e0 ?_)))))
     simp only [hw]
     exact ev_pos (by omega) (ev_pos (by omega) (ev_some _))
    by_cases e1 : x = 1
    ·refine ⟨t ++ [0], b + 1 + 1, ev_succ ?_, by simp; omega, by omega, by omega⟩
     simp only [spec_l3BentTerm.j0]
     exact ev_neg (by simp) (ev_bind ht (ev_bindq hq (ev_pos rfl (ev_bindq hx (ev_neg e0 (ev_pos e1 (ev_pos (by simp only; omega) (ev_some _))))))))
    by_cases e2 : x = 2
    ·obtain ⟨i, hi, _, hbi⟩ := l1Next_ex hc (a := b + 1 + 1) (n := (t.length : Int)) (by omega) (by omega) (by omega)
     obtain ⟨i0, i1⟩ := hbi (by omega)
     obtain ⟨y, hy, _⟩ := l1Pick_ex hc (a := b + 1 + 1 + 1) (by omega) (by omega) [(l.length : Int), (-13), (-12)] (by simp) (by simp)
     refine ⟨t.set i.toNat y, b + 1 + 1 + 1 + 1, ev_succ ?_, by rw [List.length_set]; omega, by omega, by omega⟩
     simp only [spec_l3BentTerm.j0, rdSig0]
     exact ev_neg (by simp) (ev_bind ht (ev_bindq hq (ev_pos rfl (ev_bindq hx (ev_neg e0 (ev_neg e1 (ev_pos e2 (ev_bindq hi (ev_pos (by simp) (ev_bindq hy (ev_pos i0 (ev_pos i1 (ev_some _)))))))))))))
    ·obtain ⟨u, b', hu, u1, b2, b3⟩ := l3Bent_l0 hc 25 0 [] (b + 1 + 1) (by omega) (by simp) (by omega) (by omega)
     refine ⟨u, b', ev_succ ?_, by omega, by omega, by omega⟩
     simp only [spec_l3BentTerm.j0]
     exact ev_neg (by simp) (ev_bind ht (ev_bindq hq (ev_pos rfl (ev_bindq hx (ev_neg e0 (ev_neg e1 (ev_neg e2 hu)))))))
  obtain ⟨t', b', ht', h⟩ := key
  exact ⟨t', b', ev_pos (by simp) (ev_neg h1 (ev_bind hS ht')), h⟩
 ·obtain ⟨t, b, ht, h⟩ := htrue
  refine ⟨t, b, ev_pos (by simp) (ev_neg h1 (ev_bind hS ?_)), h⟩
  have : (sigF l != 0) = true := by simpa using hs
  rw [this]
  exact ht
theorem l3One_ex {c : List Int} (hc : Code c) : ∃ g t b, Ev (fun k => spec_l3One.f k c) (g, t, c, b) ∧ g.length ≤ 7 ∧ t.length ≤ 110 ∧ 0 ≤ b ∧ b ≤ 1000 := by
 unfold spec_l3One.f spec_l1Source.f
 obtain ⟨g, b, hg, gl, b0, b1⟩ := l2Bent_ex hc (a := 0) (by omega) (by omega)
 obtain ⟨m, hm, hmm⟩ := l1Pick_ex hc (a := b) (by omega) (by omega) [3, 6, 10, 16, 24] (by simp) (by simp)
 obtain ⟨v, hv, hvm⟩ := l1Pick_ex hc (a := b + 1) (by omega) (by omega) [0, 3, 6, 12] (by simp) (by simp)
 have hm' : m = 3 ∨ m = 6 ∨ m = 10 ∨ m = 16 ∨ m = 24 := by simpa using hmm
 have hv' : v = 0 ∨ v = 3 ∨ v = 6 ∨ v = 12 := by simpa using hvm
 obtain ⟨n, rfl⟩ := Int.eq_ofNat_of_zero_le (show 0 ≤ m by omega)
 obtain ⟨t, d, ht, tl, d0, d1⟩ := l3Bent_ex hc g gl n (by omega) (by omega) v (by omega) (a := b + 1 + 1) (by omega) (by omega)
 exact ⟨g, t, d, ev_bindq rfl (ev_bind hg (ev_bindq hm (ev_bindq hv (ev_bind ht (ev_some _))))), gl, tl, by omega, by omega⟩
theorem l3At_ex {c : List Int} (hc : Code c) (t : List Int) (ht : t.length ≤ 1000) {a : Int} (a0 : 0 ≤ a) (a1 : a ≤ 10000) : ∃ x, spec_l3At.f c a t = some (x, a + 4) := by
 unfold spec_l3At.f
 obtain ⟨x, hx, _⟩ := l1Next_ex hc (a := a) (n := (t.length : Int)) (by omega) (by omega) (by omega)
 obtain ⟨y, hy, _⟩ := l1Next_ex hc (a := a + 1) (n := (t.length : Int)) (by omega) (by omega) (by omega)
 obtain ⟨z, hz, _⟩ := l1Next_ex hc (a := a + 1 + 1) (n := (t.length : Int)) (by omega) (by omega) (by omega)
 obtain ⟨u, hu, _⟩ := l1Pick_ex hc (a := a + 1 + 1 + 1) (by omega) (by omega) [0, wrap64 ((t.length : Int) - 1), x, y, z, (t.length : Int), (-1)] (by simp) (by simp)
 refine ⟨u, bind_eq hx (bind_eq hy (bind_eq hz (bind_eq hu ?_)))⟩
 simp only
 rw [show a + 1 + 1 + 1 + 1 = a + 4 by omega]
theorem DrawReplaceAt_ex {c : List Int} (hc : Code c) : ∃ g t a b, Ev (fun k => spec_DrawReplaceAt.f k c) (g, t, a, b) ∧ t.length ≤ 110 ∧ b.length ≤ 110 := by
 unfold spec_DrawReplaceAt.f
 obtain ⟨g, t, d, h, gl, tl, d0, d1⟩ := l3One_ex hc
 obtain ⟨a, ha⟩ := l3At_ex hc t (by omega) (a := d) d0 (by omega)
 obtain ⟨m, hm, hmm⟩ := l1Pick_ex hc (a := d + 4) (by omega) (by omega) [1, 3, 8, 20] (by simp) (by simp)
 have hm' : m = 1 ∨ m = 3 ∨ m = 8 ∨ m = 20 := by simpa using hmm
 obtain ⟨n, rfl⟩ := Int.eq_ofNat_of_zero_le (show 0 ≤ m by omega)
 obtain ⟨b, e, hb, bl, e0, e1⟩ := l3Bent_ex hc g gl n (by omega) (by omega) 3 (by omega) (a := d + 4 + 1) (by omega) (by omega)
 exact ⟨g, t, a, b, ev_bind h (ev_bindq ha (ev_bindq hm (ev_bind hb (ev_some _)))), tl, bl⟩
end Go.Proofs.YtedkbpbodkmhlaaDoor.Pure
set_option linter.unusedVariables false
namespace Go.Proofs.YtedkbpbodkmhlaaDoor.Pure
open Go.RowKit Go.Proofs.YtedkbpbodkmhlaaDoor.P Go.Proofs.YtedkbpbodkmhlaaDoorW.PrintWords Go.Proofs.YtedkbpbodkmhlaaDoorW.PrintLast Go.Proofs.YtedkbpbodkmhlaaDoor.Base
theorem FnReplaces (c : List Int) (hc0 : c.length ≤ maxLen ∧ ∀ x ∈ c, (Lit.int .u8 x).wf = true) : ∃ k, laws_FnReplaces.f k c = some true := by
 obtain ⟨hm, hw⟩ := hc0
 refine ev_ex (g := fun k => laws_FnReplaces.f k c) ?_
 unfold laws_FnReplaces.f laws_lwBig.f
 by_cases hbig : (c.length : Int) > 1048576
 ·exact ev_bindq rfl (ev_pos (by simpa using hbig) (ev_some _))
 have hc : Code c := ⟨fun x hx => wf_u8 (hw x hx), by omega⟩
 refine ev_bindq rfl (ev_neg (by simpa using hbig) ?_)
 obtain ⟨l, t, a, b, hD, tl, bl⟩ := DrawReplaceAt_ex hc
 have hI := ReplaceAt_impl l t (by omega) a b (by omega)
 have hS := ReplaceAt_spec l t (by omega) a b (by omega)
 have hU := SubtermAt_impl l t (by omega) a
 have hV := SubtermAt_spec l t (by omega) a
 refine ev_bind hD (ev_bind hI (ev_bind hU (ev_bind hS (ev_pos rfl (ev_bind hV (ev_succ ?_))))))
 simp only [laws_FnReplaces.j0]
 refine ev_neg (by simp) ?_
 by_cases h : termF l t = 0
 ·by_cases ha : placeB t a = true
  ·by_cases hb : termF l b = 0
   ·by_cases hlen : ((repL l t a b).length : Int) > 24
    ·have e : repR l t a b = (2, []) := by unfold repR; rw [if_pos h, if_pos ha, if_pos hb, if_pos hlen]
     rw [e]
     exact ev_neg (by simp) (ev_some _)
    ·have e : repR l t a b = (0, repL l t a b) := by unfold repR; rw [if_pos h, if_pos ha, if_pos hb, if_neg hlen]
     have e2 : subR l t a = (0, subL l t a) := by unfold subR; rw [if_pos h, if_pos ha]
     obtain ⟨f1, f2, f3, f4, f5, f6, f7, f8⟩ := repl_facts h ha hb hlen
     have hrl := (right_parts f1).2.1
     have hsl := (right_parts f4).2.1
     have htl := (right_parts h).2.1
     have hbl := (right_parts hb).2.1
     have e3 : subR l (repL l t a b) a = (0, b) := by unfold subR; rw [if_pos f1, if_pos f2, f3]
     have e4 : repR l (repL l t a b) a (subL l t a) = (0, t) := by unfold repR; rw [if_pos f1, if_pos f2, if_pos f4, f5, if_neg (by omega)]
     have e5 : siR l (repL l t a b) a = (0, (b.length : Int)) := by unfold siR; rw [if_pos f1, if_pos f2, f3]
     have e6 : siR l t a = (0, ((subL l t a).length : Int)) := by unfold siR; rw [if_pos h, if_pos ha]
     have g1 := SubtermAt_impl l (repL l t a b) (by omega) a
     have g2 := ReplaceAt_impl l (repL l t a b) (by omega) a (subL l t a) (by omega)
     have g3 := SizeAt_si l (repL l t a b) (by omega) a
     have g4 := SizeAt_si l t (by omega) a
     have g5 := TermFault_impl l (repL l t a b) (by omega)
     rw [e3] at g1
     rw [e4] at g2
     rw [e5] at g3
     rw [e6] at g4
     rw [f1] at g5
     rw [e, e2]
     refine ev_pos rfl (ev_bind g1 (ev_bind g2 (ev_pos rfl (ev_bind (lwNums_same b (by omega)) (ev_pos rfl (ev_pos rfl (ev_bind (lwNums_same t (by omega)) (ev_pos rfl (ev_bind g3 (ev_pos rfl (ev_bind g4 (ev_pos rfl (ev_bind g5 (ev_pos rfl (ev_to (ev_some _) ?_)))))))))))))))
     simp only
     rw [wrap_id (x := (t.length : Int) + (b.length : Int)) (by omega) (by omega), wrap_id (by omega) (by omega)]
     exact beq_iff_eq.2 (by omega)
   ·have e : repR l t a b = (termF l b, []) := by unfold repR; rw [if_pos h, if_pos ha, if_neg hb]
    rw [e]
    exact ev_neg hb (ev_some _)
  ·have e : repR l t a b = (3, []) := by unfold repR; rw [if_pos h, if_neg ha]
   rw [e]
   exact ev_neg (by simp) (ev_some _)
 ·have e : repR l t a b = (termF l t, []) := by unfold repR; rw [if_neg h]
  rw [e]
  exact ev_neg h (ev_some _)
end Go.Proofs.YtedkbpbodkmhlaaDoor.Pure
