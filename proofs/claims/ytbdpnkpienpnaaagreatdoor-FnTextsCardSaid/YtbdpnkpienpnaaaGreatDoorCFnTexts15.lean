/- A part of the proof of the law FnTexts. -/
import Derived.Lib.SlicesCompact
import Derived.Lib.RowBridge
import Derived.Lib.IndexMore
import Derived.Lib.Bytes
import Derived.Test.YtbdpnkpienpnaaaGreatDoorCFnTexts14
set_option linter.unusedVariables false
namespace Go.Proofs.YtbdpnkpienpnaaaGreatDoor.Pure
open Go.RowKit Go.Proofs.YtbdpnkpienpnaaaGreatDoor.P Go.Proofs.YtbdpnkpienpnaaaGreatDoorW.PrintWords Go.Proofs.YtbdpnkpienpnaaaGreatDoorW.PrintLast Go.Proofs.YtbdpnkpienpnaaaGreatDoor.Base
theorem bt_get (s : ByteArray) (i : Nat) (h : i < s.data.toList.length) : bt s (i : Int) = ((s.data.toList[i]).toNat : Int) := by
 have hs : i < s.size := by rw [Lib.size_eq]; exact h
 unfold bt
 rw [dif_pos (by simpa using hs)]
 rfl
theorem l2Name_l0 (s : ByteArray) (hl : s.size ≤ 3) : ∀ (d i : Nat), i + d = s.size → Ev (fun k => spec_l2Name.l0 k s (i : Int)) ((s.data.toList.drop i).all letterB) := by
 have hz := Lib.size_eq s
 intro d
 induction d with
 | zero =>
  intro i hi
  refine ev_succ ?_
  simp only [spec_l2Name.l0]
  refine ev_neg (by omega) (ev_to (ev_some _) ?_)
  rw [List.drop_eq_nil_of_le (by omega)]; rfl
 | succ d ih =>
  intro i hi
  have hi' : i < s.data.toList.length := by omega
  refine ev_succ ?_
  simp only [spec_l2Name.l0]
  refine ev_pos (by omega) (ev_pos (by omega) ?_)
  rw [bt_get s i hi', List.drop_eq_getElem_cons hi', wrap_up (by omega)]
  generalize s.data.toList[i] = b
  by_cases h1 : (b.toNat : Int) < 97
  ·refine ev_pos h1 (ev_to (ev_some _) ?_)
   have : letterB b = false := by unfold letterB; simp; omega
   simp [this]
  refine ev_neg h1 ?_
  by_cases h2 : (b.toNat : Int) > 122
  ·refine ev_pos h2 (ev_to (ev_some _) ?_)
   have : letterB b = false := by unfold letterB; simp; omega
   simp [this]
  refine ev_neg h2 (ev_to (ih (i + 1) (by omega)) ?_)
  have : letterB b = true := by unfold letterB; simp; omega
  simp [this]
theorem l2Name_ev (s : ByteArray) : Ev (fun k => spec_l2Name.f k s) (nameB s) := by
 unfold spec_l2Name.f nameB
 by_cases h1 : (s.size : Int) < 1
 ·refine ev_pos h1 (ev_succ ?_)
  simp only [spec_l2Name.j0]
  exact ev_pos (by simp) (ev_to (ev_some _) (by simp; omega))
 refine ev_neg h1 (ev_succ ?_)
 simp only [spec_l2Name.j0]
 by_cases h2 : (s.size : Int) > 3
 ·exact ev_pos (by simpa using h2) (ev_to (ev_some _) (by simp; omega))
 refine ev_neg (by simpa using h2) (ev_to (l2Name_l0 s (by omega) s.size 0 (by omega)) ?_)
 have : decide (1 ≤ s.size ∧ s.size ≤ 3) = true := by simp; omega
 rw [this]; rfl
theorem isName_eq (s : ByteArray) : impl_isName.f s = some (nameB s) := by
 unfold impl_isName.f nameB
 by_cases h1 : (s.size : Int) ≥ 1
 ·rw [if_pos h1]
  by_cases h2 : (s.size : Int) ≤ 3
  ·rw [if_pos h2]
   have ht : strings_Trim.f s abc = some ⟨(Lib.trimS s.data.toList abc.data.toList).toArray⟩ := by
    unfold strings_Trim.f
    exact if_pos ⟨by omega, by decide, by decide +kernel⟩
   refine bind_eq ht ?_
   have : decide (1 ≤ s.size ∧ s.size ≤ 3) = true := by simp; omega
   rw [this, Lib.toList_data]
   simp only [Bool.true_and]
   rw [← trim_abc]
  ·rw [if_neg h2]
   have : decide (1 ≤ s.size ∧ s.size ≤ 3) = false := by simp; omega
   rw [this]; rfl
 ·rw [if_neg h1]
  have : decide (1 ≤ s.size ∧ s.size ≤ 3) = false := by simp; omega
  rw [this]; rfl
def nameAt (l : List S90) (i : Nat) : List UInt8 := (rd_T90 l (i : Int)).f0.toList
def symFault (l : List S90) (i : Nat) : Option Int :=
 if nameB (rd_T90 l (i : Int)).f0 = true then (if 0 ≤ (rd_T90 l (i : Int)).f1 ∧ (rd_T90 l (i : Int)).f1 ≤ 2 then none else some 3) else some 5
def dupB (l : List S90) (i : Nat) : Bool := (firstN (fun j => nameAt l i == nameAt l j) i 0).isSome
def dupFault (l : List S90) (i : Nat) : Option Int := if dupB l i = true then some 6 else none
def zeroB (l : List S90) : Bool := (firstN (fun j => (rd_T90 l (j : Int)).f1 == 0) l.length 0).isSome
def sigF (l : List S90) : Int :=
 if l.length < 1 ∨ l.length > 6 then 2 else scanN (symFault l) (scanN (dupFault l) (if zeroB l = true then 0 else 4) l.length 0) l.length 0
theorem within_eq (a b c : Int) : impl_within.f a b c = some (decide (b ≤ a ∧ a ≤ c)) := by
 unfold impl_within.f
 by_cases h : a ≥ b
 ·rw [if_pos h]
  by_cases h' : a ≤ c
  ·simp [h']; omega
  ·simp [h']
 ·rw [if_neg h]
  simp; omega
theorem l1In_eq (a b c : Int) : spec_l1In.f a b c = some (decide (b ≤ a ∧ a ≤ c)) := by
 unfold spec_l1In.f
 by_cases h : a ≥ b
 ·rw [if_pos h]
  by_cases h' : a ≤ c
  ·simp [h']; omega
  ·simp [h']
 ·rw [if_neg h]
  simp; omega
theorem Sig_l3 (l : List S90) (hl : l.length ≤ 6) : Ev (fun k => spec_SignatureFault.l3 k (l.length : Int) 0 l) (if zeroB l = true then 0 else 4) := by
 have h := loop_scan l.length (fun j => if ((rd_T90 l (j : Int)).f1 == 0) = true then some 0 else none) 4 (fun k i => spec_SignatureFault.l3 k (l.length : Int) i l)
  (by simp only [spec_SignatureFault.l3]; exact ev_neg (by omega) (ev_some _))
  (fun i hi r hr => by
   simp only [spec_SignatureFault.l3]
   refine ev_pos (by omega) (ev_pos (by omega) (ev_pos (by omega) ?_))
   rw [wrap_up (by omega)]
   by_cases h : (rd_T90 l (i : Int)).f1 = 0
   ·refine ev_pos h (ev_to (ev_some _) (by simp [h]))
   ·refine ev_neg h (ev_to hr (by simp [h])))
  l.length 0 (by omega)
 refine ev_to h ?_
 rw [scanN_first (fun j => (rd_T90 l (j : Int)).f1 == 0) (fun _ => (0 : Int)) 4]
 unfold zeroB
 cases firstN (fun j => (rd_T90 l (j : Int)).f1 == 0) l.length 0 <;> rfl
theorem Sig_l2 (l : List S90) (hl : l.length ≤ 6) (i : Nat) (hi : i < l.length) (r : Int) (hr : Ev (fun k => spec_SignatureFault.l1 k (l.length : Int) ((i + 1 : Nat) : Int) l) r) :
  Ev (fun k => spec_SignatureFault.l2 k (l.length : Int) (i : Int) 0 l) ((dupFault l i).getD r) := by
 have h := loop_scan i (fun j => if (nameAt l i == nameAt l j) = true then some 6 else none) r (fun k j => spec_SignatureFault.l2 k (l.length : Int) (i : Int) j l)
  (by simp only [spec_SignatureFault.l2]; refine ev_neg (by omega) ?_; rw [wrap_up (by omega)]; exact hr)
  (fun j hj r hr => by
   simp only [spec_SignatureFault.l2]
   refine ev_pos (by omega) (ev_pos (by omega) (ev_pos (by omega) (ev_pos (by omega) (ev_pos (by omega) ?_))))
   rw [wrap_up (by omega)]
   by_cases h : nameAt l i = nameAt l j
   ·refine ev_pos h (ev_to (ev_some _) (by simp [h]))
   ·refine ev_neg h (ev_to hr (by simp [h])))
  i 0 (by omega)
 refine ev_to h ?_
 rw [scanN_first (fun j => nameAt l i == nameAt l j) (fun _ => (6 : Int)) r]
 unfold dupFault dupB
 cases firstN (fun j => nameAt l i == nameAt l j) i 0 <;> rfl
theorem Sig_l1 (l : List S90) (hl : l.length ≤ 6) : Ev (fun k => spec_SignatureFault.l1 k (l.length : Int) 0 l) (scanN (dupFault l) (if zeroB l = true then 0 else 4) l.length 0) :=
 loop_scan l.length (dupFault l) (if zeroB l = true then 0 else 4) (fun k i => spec_SignatureFault.l1 k (l.length : Int) i l)
  (by simp only [spec_SignatureFault.l1]; exact ev_neg (by omega) (Sig_l3 l hl))
  (fun i hi r hr => by
   simp only [spec_SignatureFault.l1]
   exact ev_pos (by omega) (Sig_l2 l hl i hi r hr))
  l.length 0 (by omega)
theorem Sig_l0 (l : List S90) (hl : l.length ≤ 6) : Ev (fun k => spec_SignatureFault.l0 k (l.length : Int) 0 l) (scanN (symFault l) (scanN (dupFault l) (if zeroB l = true then 0 else 4) l.length 0) l.length 0) :=
 loop_scan l.length (symFault l) _ (fun k i => spec_SignatureFault.l0 k (l.length : Int) i l)
  (by simp only [spec_SignatureFault.l0]; exact ev_neg (by omega) (Sig_l1 l hl))
  (fun i hi r hr => by
   simp only [spec_SignatureFault.l0]
   refine ev_pos (by omega) (ev_pos (by omega) (ev_pos (by omega) (ev_bind (l2Name_ev _) ?_)))
   unfold symFault
   by_cases h : nameB (rd_T90 l (i : Int)).f0 = true
   ·refine ev_pos h (ev_bindq (l1In_eq _ _ _) ?_)
    rw [if_pos h, wrap_up (by omega)]
    by_cases h' : 0 ≤ (rd_T90 l (i : Int)).f1 ∧ (rd_T90 l (i : Int)).f1 ≤ 2
    ·rw [if_pos h']
     exact ev_pos (by simpa using h') hr
    ·rw [if_neg h']
     exact ev_neg (by simpa using h') (ev_some _)
   ·rw [if_neg h]
    exact ev_neg h (ev_some _))
  l.length 0 (by omega)
theorem SignatureFault_spec (l : List S90) : Ev (fun k => spec_SignatureFault.f k l) (sigF l) := by
 unfold spec_SignatureFault.f sigF
 by_cases h1 : (l.length : Int) < 1
 ·rw [if_pos (.inl (by omega))]
  refine ev_pos h1 (ev_succ ?_)
  simp only [spec_SignatureFault.j0]
  exact ev_pos (by simp) (ev_some _)
 refine ev_neg h1 (ev_succ ?_)
 simp only [spec_SignatureFault.j0]
 by_cases h2 : (l.length : Int) > 6
 ·rw [if_pos (.inr (by omega))]
  exact ev_pos (by simpa using h2) (ev_some _)
 ·rw [if_neg (by omega)]
  exact ev_neg (by simpa using h2) (Sig_l0 l (by omega))
theorem symbolIndex_ev (l : List S90) (hl : l.length ≤ 1048576) (s : ByteArray) : Ev (fun k => impl_symbolIndex.f k l s) (placeN (fun j => nameAt l j == s.toList) l.length) := by
 unfold impl_symbolIndex.f
 refine ev_bind (a := placeN (fun j => nameAt l j == s.toList) l.length) ?_ (ev_some _)
 unfold slices_IndexFunc_impl_Symbol_impl_Symbol_impl_symbolIndex_1.f
 have h := loop_scan l.length (fun j => if (nameAt l j == s.toList) = true then some (j : Int) else none) (-1) (fun k i => slices_IndexFunc_impl_Symbol_impl_Symbol_impl_symbolIndex_1.l0 k l (l.length : Int) i [s])
  (by simp only [slices_IndexFunc_impl_Symbol_impl_Symbol_impl_symbolIndex_1.l0]; exact ev_neg (by omega) (ev_some _))
  (fun i hi r hr => by
   simp only [slices_IndexFunc_impl_Symbol_impl_Symbol_impl_symbolIndex_1.l0]
   refine ev_pos (by omega) (ev_pos (by omega) (ev_pos (by omega) (ev_bindq (a := nameAt l i == s.toList) ?_ ?_)))
   ·unfold impl_symbolIndex_1_with.f
    rw [if_pos (by simp)]
    rfl
   ·rw [wrap_up (by omega)]
    by_cases h : (nameAt l i == s.toList) = true
    ·rw [if_pos h]; exact ev_pos h (ev_some _)
    ·rw [if_neg h]; exact ev_neg h hr)
  l.length 0 (by omega)
 rw [scanN_place (fun j => nameAt l j == s.toList)] at h
 exact h
theorem dup_place (l : List S90) (i : Nat) (hi : i < l.length) : placeN (fun j => nameAt l j == (rd_T90 l (i : Int)).f0.toList) l.length = (i : Int) ↔ dupB l i = false := by
 unfold dupB
 have hn : (firstN (fun j => nameAt l i == nameAt l j) i 0).isSome = false ↔ ∀ j, j < i → (nameAt l i == nameAt l j) = false := by
  rw [Option.isSome_eq_false_iff, Option.isNone_iff_eq_none, firstN_none]
  exact ⟨fun h j hj => h j (by omega) (by omega), fun h j _ hj => h j (by omega)⟩
 rw [hn]
 rcases placeN_cases (fun j => nameAt l j == (rd_T90 l (i : Int)).f0.toList) l.length with ⟨h1, h2⟩ | ⟨j, hj, h1, h2, h3⟩
 ·have := h2 i hi
  simp [nameAt] at this
 ·rw [h1]
  constructor
  ·intro e
   obtain rfl : j = i := by omega
   intro m hm
   have := h3 m hm
   simp only [beq_eq_false_iff_ne, ne_eq] at this ⊢
   exact fun e => this e.symm
  ·intro h
   have hji : ¬ j < i := fun hlt => by
    have := h j hlt
    simp only [beq_eq_false_iff_ne, ne_eq] at this
    exact this (by simpa [nameAt] using (eq_comm.1 (beq_iff_eq.1 h2)))
   have hij : ¬ i < j := fun hlt => by
    have := h3 i hlt
    simp [nameAt] at this
   omega
theorem ISig_last (l : List S90) (hl : l.length ≤ 6) : Ev (fun k => slices_ContainsFunc_impl_Symbol_impl_Symbol_impl_SignatureFault_1.f k l) (zeroB l) := by
 unfold slices_ContainsFunc_impl_Symbol_impl_Symbol_impl_SignatureFault_1.f slices_IndexFunc_impl_Symbol_impl_Symbol_impl_SignatureFault_1.f
 have h := loop_scan l.length (fun j => if ((rd_T90 l (j : Int)).f1 == 0) = true then some (j : Int) else none) (-1) (fun k i => slices_IndexFunc_impl_Symbol_impl_Symbol_impl_SignatureFault_1.l0 k l (l.length : Int) i)
  (by simp only [slices_IndexFunc_impl_Symbol_impl_Symbol_impl_SignatureFault_1.l0]; exact ev_neg (by omega) (ev_some _))
  (fun i hi r hr => by
   simp only [slices_IndexFunc_impl_Symbol_impl_Symbol_impl_SignatureFault_1.l0]
   refine ev_pos (by omega) (ev_pos (by omega) (ev_pos (by omega) (ev_bindq rfl ?_)))
   rw [wrap_up (by omega)]
   by_cases h : ((rd_T90 l (i : Int)).f1 == 0) = true
   ·rw [if_pos h]; exact ev_pos h (ev_some _)
   ·rw [if_neg h]; exact ev_neg h hr)
  l.length 0 (by omega)
 rw [scanN_first (fun j => (rd_T90 l (j : Int)).f1 == 0) (fun j => (j : Int)) (-1)] at h
 refine ev_bind h (ev_to (ev_some _) ?_)
 unfold zeroB
 cases firstN (fun j => (rd_T90 l (j : Int)).f1 == 0) l.length 0 with
 | none => rfl
 | some j => simp
theorem ISig_l1 (l : List S90) (hl : l.length ≤ 6) : Ev (fun k => impl_SignatureFault.l1 k l (l.length : Int) 0 l) (scanN (dupFault l) (if zeroB l = true then 0 else 4) l.length 0) :=
 loop_scan l.length (dupFault l) (if zeroB l = true then 0 else 4) (fun k i => impl_SignatureFault.l1 k l (l.length : Int) i l)
  (by
   simp only [impl_SignatureFault.l1]
   refine ev_neg (by omega) (ev_bind (ISig_last l hl) ?_)
   by_cases h : zeroB l = true
   ·exact ev_to (ev_pos h (ev_some _)) (if_pos h).symm
   ·exact ev_to (ev_neg h (ev_some _)) (if_neg h).symm)
  (fun i hi r hr => by
   simp only [impl_SignatureFault.l1]
   refine ev_pos (by omega) (ev_pos (by omega) (ev_pos (by omega) (ev_bind (symbolIndex_ev l (by omega) _) ?_)))
   have hd := dup_place l i hi
   rw [wrap_up (by omega)]
   unfold dupFault
   by_cases h : dupB l i = true
   ·rw [if_pos h]
    exact ev_neg (fun e => by rw [hd.1 e] at h; cases h) (ev_some _)
   ·rw [if_neg h]
    exact ev_pos (hd.2 (Bool.eq_false_iff.2 h)) hr)
  l.length 0 (by omega)
theorem SignatureFault_impl (l : List S90) : Ev (fun k => impl_SignatureFault.f k l) (sigF l) := by
 unfold impl_SignatureFault.f sigF
 by_cases h1 : (l.length : Int) < 1
 ·rw [if_pos (.inl (by omega))]
  refine ev_pos h1 (ev_succ ?_)
  simp only [impl_SignatureFault.j0]
  exact ev_pos (by simp) (ev_some _)
 refine ev_neg h1 (ev_succ ?_)
 simp only [impl_SignatureFault.j0]
 by_cases h2 : (l.length : Int) > 6
 ·rw [if_pos (.inr (by omega))]
  exact ev_pos (by simpa using h2) (ev_some _)
 rw [if_neg (by omega)]
 refine ev_neg (by simpa using h2) ?_
 exact loop_scan l.length (symFault l) _ (fun k i => impl_SignatureFault.l0 k l (l.length : Int) i l)
  (by simp only [impl_SignatureFault.l0]; exact ev_neg (by omega) (ISig_l1 l (by omega)))
  (fun i hi r hr => by
   simp only [impl_SignatureFault.l0]
   refine ev_pos (by omega) (ev_pos (by omega) (ev_pos (by omega) (ev_bindq (isName_eq _) ?_)))
   unfold symFault
   by_cases h : nameB (rd_T90 l (i : Int)).f0 = true
   ·refine ev_pos h (ev_bindq (within_eq _ _ _) ?_)
    rw [if_pos h, wrap_up (by omega)]
    by_cases h' : 0 ≤ (rd_T90 l (i : Int)).f1 ∧ (rd_T90 l (i : Int)).f1 ≤ 2
    ·rw [if_pos h']
     exact ev_pos (by simpa using h') hr
    ·rw [if_neg h']
     exact ev_neg (by simpa using h') (ev_some _)
   ·rw [if_neg h]
    exact ev_neg h (ev_some _))
  l.length 0 (by omega)
structure Right (l : List S90) : Prop where
 len : 1 ≤ l.length ∧ l.length ≤ 6
 names : ∀ i, i < l.length → nameB (rd_T90 l (i : Int)).f0 = true
 arities : ∀ i, i < l.length → 0 ≤ (rd_T90 l (i : Int)).f1 ∧ (rd_T90 l (i : Int)).f1 ≤ 2
 apart : ∀ i, i < l.length → dupB l i = false
theorem right_of (l : List S90) (h : sigF l = 0) : Right l := by
 unfold sigF at h
 by_cases h1 : l.length < 1 ∨ l.length > 6
 ·rw [if_pos h1] at h; omega
 rw [if_neg h1] at h
 have hlen : 1 ≤ l.length ∧ l.length ≤ 6 := by omega
 rcases scanN_cases (symFault l) (scanN (dupFault l) (if zeroB l = true then 0 else 4) l.length 0) l.length 0 with ⟨h2, h3⟩ | ⟨j, _, _, h3⟩
 ·rw [h3] at h
  rcases scanN_cases (dupFault l) (if zeroB l = true then 0 else 4) l.length 0 with ⟨h4, h5⟩ | ⟨j, _, _, h5⟩
  ·refine ⟨hlen, fun i hi => ?_, fun i hi => ?_, fun i hi => ?_⟩
   ·have := h2 i (by omega) (by omega)
    unfold symFault at this
    by_cases hn : nameB (rd_T90 l (i : Int)).f0 = true
    ·exact hn
    ·rw [if_neg hn] at this; cases this
   ·have := h2 i (by omega) (by omega)
    unfold symFault at this
    by_cases hn : nameB (rd_T90 l (i : Int)).f0 = true
    ·rw [if_pos hn] at this
     by_cases ha : 0 ≤ (rd_T90 l (i : Int)).f1 ∧ (rd_T90 l (i : Int)).f1 ≤ 2
     ·exact ha
     ·rw [if_neg ha] at this; cases this
    ·rw [if_neg hn] at this; cases this
   ·have := h4 i (by omega) (by omega)
    unfold dupFault at this
    by_cases hd : dupB l i = true
    ·rw [if_pos hd] at this; cases this
    ·exact Bool.eq_false_iff.2 hd
  ·rw [h] at h5
   unfold dupFault at h5
   by_cases hd : dupB l j = true
   ·rw [if_pos hd] at h5; cases h5
   ·rw [if_neg hd] at h5; cases h5
 ·rw [h] at h3
  unfold symFault at h3
  by_cases hn : nameB (rd_T90 l (j : Int)).f0 = true
  ·rw [if_pos hn] at h3
   by_cases ha : 0 ≤ (rd_T90 l (j : Int)).f1 ∧ (rd_T90 l (j : Int)).f1 ≤ 2
   ·rw [if_pos ha] at h3; cases h3
   ·rw [if_neg ha] at h3; cases h3
  ·rw [if_neg hn] at h3; cases h3
def symB (l : List S90) (n : Int) : Bool := decide (0 ≤ n ∧ n ≤ (l.length : Int) - 1)
theorem l2Symbol_eq (l : List S90) (hl : l.length ≤ 1048576) (n : Int) : spec_l2Symbol.f [(⟨l⟩ : S26)] n = some (symB l n) := by
 unfold spec_l2Symbol.f
 rw [if_pos (by simp)]
 show (spec_l1In.f n 0 (wrap64 ((l.length : Int) - 1))).bind _ = _
 rw [l1In_eq, wrap_id (by omega) (by omega)]
 rfl
theorem isSymbol_eq (l : List S90) (hl : l.length ≤ 1048576) (n : Int) : impl_isSymbol.f l n = some (symB l n) := by
 unfold impl_isSymbol.f
 rw [within_eq, wrap_id (by omega) (by omega)]
 rfl
theorem symB_true {l : List S90} {n : Int} (h : symB l n = true) : 0 ≤ n ∧ n < (l.length : Int) := by
 unfold symB at h
 have := of_decide_eq_true h
 omega
def nodeB (l : List S90) (n : Int) : Bool := symB l n || decide (-12 ≤ n ∧ n ≤ -1)
def arL (l : List S90) (n : Int) : Nat := if n < 0 then 0 else (rd_T90 l n).f1.toNat
theorem l3Node_eq (l : List S90) (hl : l.length ≤ 6) (n : Int) : spec_l3Node.f [(⟨l⟩ : S26)] n = some (nodeB l n) := by
 unfold spec_l3Node.f nodeB
 rw [l2Symbol_eq l (by omega)]
 simp only [Option.bind_some]
 by_cases h : symB l n = true
 ·rw [if_pos h, h]; rfl
 ·rw [if_neg h, l1In_eq, Bool.eq_false_iff.2 h]; rfl
theorem isNode_eq (l : List S90) (hl : l.length ≤ 6) (n : Int) : impl_isNode.f l n = some (nodeB l n) := by
 unfold impl_isNode.f nodeB
 rw [isSymbol_eq l (by omega)]
 simp only [Option.bind_some]
 by_cases h : symB l n = true
 ·rw [if_pos h, h]; rfl
 ·rw [if_neg h, within_eq, Bool.eq_false_iff.2 h]; rfl
def Nodes (l : List S90) (t : List Int) : Prop := ∀ i, i < t.length → nodeB l (rd t (i : Int)) = true
theorem node_sym {l : List S90} {n : Int} (h : nodeB l n = true) (h0 : ¬ n < 0) : 0 ≤ n ∧ n < (l.length : Int) := by
 unfold nodeB at h
 rw [Bool.or_eq_true] at h
 rcases h with h | h
 ·exact symB_true h
 ·have := of_decide_eq_true h; omega
theorem arL_cast {l : List S90} (hr : Right l) {n : Int} (h : nodeB l n = true) (h0 : ¬ n < 0) : (rd_T90 l n).f1 = (arL l n : Int) ∧ arL l n ≤ 2 := by
 obtain ⟨a, b⟩ := node_sym h h0
 have := hr.arities n.toNat (by omega)
 rw [Int.toNat_of_nonneg a] at this
 unfold arL
 rw [if_neg h0]
 omega
theorem arL_le {l : List S90} (hr : Right l) {n : Int} (h : nodeB l n = true) : arL l n ≤ 2 := by
 by_cases h0 : n < 0
 ·unfold arL; rw [if_pos h0]; omega
 ·exact (arL_cast hr h h0).2
def endI (o : Option Nat) : Int := match o with
 | some e => (e : Int)
 | none => -1
theorem l3End_loop (l : List S90) (hr : Right l) (t : List Int) (ht : t.length ≤ 1048576) (hn : Nodes l t) (at_ : Nat) (hat : at_ < t.length) (h0 : ¬ rd t (at_ : Int) < 0)
  (ih : ∀ e, at_ < e → e ≤ t.length → Ev (fun k => spec_l3End.f k [(⟨l⟩ : S26)] t (e : Int)) (endI (endN (arL l) t 1 e))) :
  ∀ (m i e : Nat), i + m = arL l (rd t (at_ : Int)) → at_ < e → e ≤ t.length → Ev (fun k => spec_l3End.l0 k [(⟨l⟩ : S26)] t (at_ : Int) (e : Int) (i : Int)) (endI (endN (arL l) t m e)) := by
 obtain ⟨s0, s1⟩ := node_sym (hn at_ hat) h0
 obtain ⟨ha, ha2⟩ := arL_cast hr (hn at_ hat) h0
 have e0 : (rd_T26 [(⟨l⟩ : S26)] 0).f0 = l := rfl
 intro m
 induction m with
 | zero =>
  intro i e hi he hel
  refine ev_succ ?_
  simp only [spec_l3End.l0, e0]
  refine ev_pos (by simp) (ev_pos (by omega) (ev_pos (by omega) (ev_pos s0 (ev_pos s1 ?_))))
  rw [ha, endN_zero _ _ _ hel]
  exact ev_neg (by omega) (ev_some _)
 | succ m ihm =>
  intro i e hi he hel
  refine ev_succ ?_
  simp only [spec_l3End.l0, e0]
  refine ev_pos (by simp) (ev_pos (by omega) (ev_pos (by omega) (ev_pos s0 (ev_pos s1 ?_))))
  rw [ha]
  refine ev_pos (by omega) (ev_bind (ih e he hel) ?_)
  rw [show m + 1 = 1 + m by omega, endN_add _ _ 1 m e hel]
  cases hE : endN (arL l) t 1 e with
  | none => exact ev_pos (by simp [endI]) (ev_some _)
  | some e' =>
   obtain ⟨_, h1, h2⟩ := endN_some hel hE
   refine ev_neg (by simp [endI]) ?_
   rw [wrap_up (by omega)]
   simp only [Option.bind_some]
   exact ihm (i + 1) e' (by omega) (by omega) h2
theorem l3End_ev (l : List S90) (hr : Right l) (t : List Int) (ht : t.length ≤ 1048576) (hn : Nodes l t) : ∀ (d at_ : Nat), at_ + d = t.length → Ev (fun k => spec_l3End.f k [(⟨l⟩ : S26)] t (at_ : Int)) (endI (endN (arL l) t 1 at_)) := by
 intro d
 induction d using Nat.strongRecOn with
 | _ d ih =>
  intro at_ hd
  refine ev_succ ?_
  simp only [spec_l3End.f]
  by_cases hat : t.length ≤ at_
  ·rw [endN_out _ _ _ _ (by omega) hat]
   exact ev_pos (by omega) (ev_some _)
  have hat' : at_ < t.length := by omega
  refine ev_neg (by omega) (ev_pos (by omega) (ev_pos (by omega) ?_))
  rw [endN_step _ _ 0 _ hat', ← rd_get t at_ hat', Nat.zero_add, wrap_up (by omega)]
  by_cases h0 : rd t (at_ : Int) < 0
  ·refine ev_pos h0 ?_
   have : arL l (rd t (at_ : Int)) = 0 := by unfold arL; rw [if_pos h0]
   rw [this, endN_zero _ _ _ (by omega)]
   exact ev_some _
  ·refine ev_neg h0 ?_
   exact l3End_loop l hr t ht hn at_ hat' h0 (fun e he hel => ih (t.length - e) (by omega) e (by omega)) _ 0 (at_ + 1) (by omega) (by omega) (by omega)
def endJ (n : Nat) (o : Option Nat) : Int := match o with
 | some e => (e : Int)
 | none => (n : Int) + 1
theorem arityOf_eq (l : List S90) (hr : Right l) (n : Int) (h : nodeB l n = true) : impl_arityOf.f l n = some (arL l n : Int) := by
 unfold impl_arityOf.f
 by_cases h0 : n < 0
 ·rw [if_pos h0]; unfold arL; rw [if_pos h0]; rfl
 ·obtain ⟨s0, s1⟩ := node_sym h h0
  rw [if_neg h0, if_pos s0, if_pos s1, (arL_cast hr h h0).1]
theorem endOf_l0 (l : List S90) (hr : Right l) (t : List Int) (ht : t.length ≤ 1048576) (hn : Nodes l t) : ∀ (d at_ o : Nat), at_ + d = t.length → o ≤ 2 * at_ + 1 → Ev (fun k => impl_endOf.l0 k t (at_ : Int) (o : Int) l) (endJ t.length (endN (arL l) t o at_)) := by
 intro d
 induction d with
 | zero =>
  intro at_ o hd ho
  refine ev_succ ?_
  simp only [impl_endOf.l0]
  cases o with
  | zero =>
   rw [endN_zero _ _ _ (by omega)]
   exact ev_neg (by omega) (ev_some _)
  | succ o =>
   rw [endN_out _ _ _ _ (by omega) (by omega)]
   refine ev_pos (by omega) (ev_pos (by omega) ?_)
   rw [wrap_up (by omega)]
   exact ev_to (ev_some _) (by simp [endJ])
 | succ d ih =>
  intro at_ o hd ho
  refine ev_succ ?_
  simp only [impl_endOf.l0]
  cases o with
  | zero =>
   rw [endN_zero _ _ _ (by omega)]
   exact ev_neg (by omega) (ev_some _)
  | succ o =>
   have hat : at_ < t.length := by omega
   refine ev_pos (by omega) (ev_neg (by omega) (ev_pos (by omega) (ev_pos (by omega) (ev_bindq (arityOf_eq l hr _ (hn at_ hat)) ?_))))
   have ha := arL_le hr (hn at_ hat)
   rw [endN_step _ _ o _ hat, ← rd_get t at_ hat, wrap_up (by omega)]
   generalize arL l (rd t (at_ : Int)) = a at *
   rw [wrap_id (x := (a : Int) - 1) (by omega) (by omega), wrap_id (by omega) (by omega), show ((o + 1 : Nat) : Int) + ((a : Int) - 1) = ((o + a : Nat) : Int) by omega]
   exact ih (at_ + 1) (o + a) (by omega) (by omega)
theorem endOf_ev (l : List S90) (hr : Right l) (t : List Int) (ht : t.length ≤ 1048576) (hn : Nodes l t) (at_ : Nat) (hat : at_ ≤ t.length) : Ev (fun k => impl_endOf.f k l t (at_ : Int)) (endJ t.length (endN (arL l) t 1 at_)) := by
 unfold impl_endOf.f
 exact endOf_l0 l hr t ht hn (t.length - at_) at_ 1 (by omega) (by omega)
def badN (l : List S90) (t : List Int) : Bool := (firstN (fun j => !nodeB l (rd t (j : Int))) t.length 0).isSome
theorem nodes_of {l : List S90} {t : List Int} (h : ¬ badN l t = true) : Nodes l t := by
 unfold badN at h
 have h1 : firstN (fun j => !nodeB l (rd t (j : Int))) t.length 0 = none := by
  cases hf : firstN (fun j => !nodeB l (rd t (j : Int))) t.length 0 with
  | none => rfl
  | some j => rw [hf] at h; exact absurd rfl h
 intro i hi
 have := (firstN_none t.length 0).1 h1 i (by omega) (by omega)
 simpa using this
def termG (l : List S90) (t : List Int) : Int :=
 if t.length < 1 ∨ t.length > 24 then 2 else if badN l t = true then 3 else if endN (arL l) t 1 0 = some t.length then 0 else 1
def termF (l : List S90) (t : List Int) : Int := if sigF l = 0 then termG l t else sigF l
theorem l3Fault_ev (l : List S90) (hr : Right l) (t : List Int) (ht : t.length ≤ 1048576) : Ev (fun k => spec_l3Fault.f k [(⟨l⟩ : S26)] t) (termG l t) := by
 have hl := hr.len
 unfold spec_l3Fault.f termG
 by_cases h1 : (t.length : Int) < 1
 ·rw [if_pos (.inl (by omega))]
  refine ev_pos h1 (ev_succ ?_)
  simp only [spec_l3Fault.j0]
  exact ev_pos (by simp) (ev_some _)
 refine ev_neg h1 (ev_succ ?_)
 simp only [spec_l3Fault.j0]
 by_cases h2 : (t.length : Int) > 24
 ·rw [if_pos (.inr (by omega))]
  exact ev_pos (by simpa using h2) (ev_some _)
 rw [if_neg (by omega)]
 refine ev_neg (by simpa using h2) ?_
 by_cases hb : badN l t = true
 ·rw [if_pos hb]
  unfold badN at hb
  cases hf : firstN (fun j => !nodeB l (rd t (j : Int))) t.length 0 with
  | none => rw [hf] at hb; cases hb
  | some j =>
   obtain ⟨_, hj, hp, hall⟩ := firstN_some _ _ _ hf
   have key : ∀ d i, i + d = j → Ev (fun k => spec_l3Fault.l0 k [(⟨l⟩ : S26)] t (i : Int)) 3 := by
    intro d
    induction d with
    | zero =>
     intro i hi
     obtain rfl : i = j := by omega
     refine ev_succ ?_
     simp only [spec_l3Fault.l0]
     refine ev_pos (by omega) (ev_pos (by omega) (ev_bindq (l3Node_eq l (by omega) _) ?_))
     exact ev_neg (by simpa using hp) (ev_some _)
    | succ d ih =>
     intro i hi
     refine ev_succ ?_
     simp only [spec_l3Fault.l0]
     refine ev_pos (by omega) (ev_pos (by omega) (ev_bindq (l3Node_eq l (by omega) _) ?_))
     have := hall i (by omega) (by omega)
     rw [wrap_up (by omega)]
     exact ev_pos (by simpa using this) (ih (i + 1) (by omega))
   exact key j 0 (by omega)
 ·rw [if_neg hb]
  have hn := nodes_of hb
  have h := loop_scan t.length (fun j => if (!nodeB l (rd t (j : Int))) = true then some 3 else none) (if endN (arL l) t 1 0 = some t.length then 0 else 1) (fun k i => spec_l3Fault.l0 k [(⟨l⟩ : S26)] t i)
   (by
    simp only [spec_l3Fault.l0]
    refine ev_neg (by omega) (ev_bind (l3End_ev l hr t ht hn t.length 0 (by omega)) ?_)
    by_cases he : endN (arL l) t 1 0 = some t.length
    ·rw [he]; exact ev_pos rfl (ev_to (ev_some _) (if_pos rfl).symm)
    ·refine ev_neg ?_ (ev_to (ev_some _) (if_neg he).symm)
     cases hE : endN (arL l) t 1 0 with
     | none => simp [endI] <;> omega
     | some e =>
      intro k
      have : e = t.length := by simp only [endI] at k; omega
      exact he (by rw [hE, this]))
   (fun i hi r hr => by
    simp only [spec_l3Fault.l0]
    refine ev_pos (by omega) (ev_pos (by omega) (ev_bindq (l3Node_eq l (by omega) _) ?_))
    rw [wrap_up (by omega), hn i hi]
    exact ev_pos rfl (ev_to hr (by simp)))
   t.length 0 (by omega)
  refine ev_to h ?_
  exact scanN_none t.length 0 (fun j _ hj => by simp [hn j (by omega)])
theorem TermFault_spec (l : List S90) (t : List Int) (ht : t.length ≤ 1048576) : Ev (fun k => spec_TermFault.f k l t) (termF l t) := by
 unfold spec_TermFault.f termF
 exact ev_bind (SignatureFault_spec l) (ev_ite (fun h => ev_bind (l3Fault_ev l (right_of l h) t ht) (ev_some _)) (fun h => ev_some _))
theorem Term_bad (l : List S90) (hl : l.length ≤ 6) (t : List Int) (ht : t.length ≤ 1048576) :
  Ev (fun k => slices_ContainsFunc_int64_int64_impl_TermFault_1.f k t [(⟨l⟩ : S26)]) (badN l t) := by
 unfold slices_ContainsFunc_int64_int64_impl_TermFault_1.f slices_IndexFunc_int64_int64_impl_TermFault_1.f
 have h := loop_scan t.length (fun j => if (!nodeB l (rd t (j : Int))) = true then some (j : Int) else none) (-1) (fun k i => slices_IndexFunc_int64_int64_impl_TermFault_1.l0 k t (t.length : Int) i [(⟨l⟩ : S26)])
  (by simp only [slices_IndexFunc_int64_int64_impl_TermFault_1.l0]; exact ev_neg (by omega) (ev_some _))
  (fun i hi r hr => by
   simp only [slices_IndexFunc_int64_int64_impl_TermFault_1.l0]
   refine ev_pos (by omega) (ev_pos (by omega) (ev_pos (by omega) (ev_bindq (a := !nodeB l (rd t (i : Int))) ?_ ?_)))
   ·unfold impl_TermFault_1_with.f
    rw [if_pos (by simp)]
    exact bind_eq (isNode_eq l (by omega) _) rfl
   ·rw [wrap_up (by omega)]
    by_cases h : (!nodeB l (rd t (i : Int))) = true
    ·rw [if_pos h]; exact ev_pos h (ev_some _)
    ·rw [if_neg h]; exact ev_neg h hr)
  t.length 0 (by omega)
 rw [scanN_first (fun j => !nodeB l (rd t (j : Int))) (fun j => (j : Int)) (-1)] at h
 refine ev_bind h (ev_to (ev_some _) ?_)
 unfold badN
 cases firstN (fun j => !nodeB l (rd t (j : Int))) t.length 0 with
 | none => rfl
 | some j => simp
theorem TermFault_impl (l : List S90) (t : List Int) (ht : t.length ≤ 1048576) : Ev (fun k => impl_TermFault.f k l t) (termF l t) := by
 unfold impl_TermFault.f termF
 refine ev_bind (SignatureFault_impl l) (ev_ite (fun h => ?_) (fun h => ev_some _))
 have hr := right_of l h
 have hl := hr.len
 unfold termG
 by_cases h1 : (t.length : Int) < 1
 ·rw [if_pos (.inl (by omega))]
  refine ev_pos h1 (ev_succ ?_)
  simp only [impl_TermFault.j0]
  exact ev_pos (by simp) (ev_some _)
 refine ev_neg h1 (ev_succ ?_)
 simp only [impl_TermFault.j0]
 by_cases h2 : (t.length : Int) > 24
 ·rw [if_pos (.inr (by omega))]
  exact ev_pos (by simpa using h2) (ev_some _)
 rw [if_neg (by omega)]
 refine ev_neg (by simpa using h2) (ev_bind (Term_bad l (by omega) t ht) (ev_ite (fun hb => ev_some _) (fun hb => ?_)))
 have hn := nodes_of hb
 refine ev_bind (endOf_ev l hr t ht hn 0 (by omega)) ?_
 by_cases he : endN (arL l) t 1 0 = some t.length
 ·rw [he]; exact ev_pos rfl (ev_to (ev_some _) (if_pos rfl).symm)
 ·refine ev_neg ?_ (ev_to (ev_some _) (if_neg he).symm)
  cases hE : endN (arL l) t 1 0 with
  | none => simp [endJ] <;> omega
  | some e =>
   intro k
   have : e = t.length := by simp only [endJ] at k; omega
   exact he (by rw [hE, this])
structure RightT (l : List S90) (t : List Int) : Prop where
 sig : Right l
 len : 1 ≤ t.length ∧ t.length ≤ 24
 nodes : Nodes l t
 whole : endN (arL l) t 1 0 = some t.length
theorem rightT_of {l : List S90} {t : List Int} (h : termF l t = 0) : RightT l t := by
 unfold termF at h
 by_cases hs : sigF l = 0
 ·rw [if_pos hs] at h
  unfold termG at h
  by_cases h1 : t.length < 1 ∨ t.length > 24
  ·rw [if_pos h1] at h; cases h
  rw [if_neg h1] at h
  by_cases h2 : badN l t = true
  ·rw [if_pos h2] at h; cases h
  rw [if_neg h2] at h
  by_cases h3 : endN (arL l) t 1 0 = some t.length
  ·exact ⟨right_of l hs, by omega, nodes_of h2, h3⟩
  ·rw [if_neg h3] at h; cases h
 ·rw [if_neg hs] at h; exact absurd h hs
end Go.Proofs.YtbdpnkpienpnaaaGreatDoor.Pure
set_option linter.unusedVariables false
namespace Go.Proofs.YtbdpnkpienpnaaaGreatDoor.Pure
open Go.RowKit Go.Proofs.YtbdpnkpienpnaaaGreatDoor.P Go.Proofs.YtbdpnkpienpnaaaGreatDoorW.PrintWords Go.Proofs.YtbdpnkpienpnaaaGreatDoorW.PrintLast Go.Proofs.YtbdpnkpienpnaaaGreatDoorW.PrintMore Go.Proofs.YtbdpnkpienpnaaaGreatDoor.Base
theorem argumentsOf_l0 (l : List S90) (hr : Right l) (t : List Int) (ht : t.length ≤ 1048576) (hn : Nodes l t) (n : Nat) : ∀ (m i e e' : Nat) (acc : List Int), i + m = n → n ≤ 2 → e ≤ t.length → endN (arL l) t m e = some e' → acc.length ≤ 1000 + i →
  Ev (fun k => impl_argumentsOf.l0 k t acc (e : Int) (n : Int) (i : Int) l) (acc ++ (argsN (arL l) t m e).map fun p : Nat => (p : Int)) := by
 intro m
 induction m with
 | zero =>
  intro i e e' acc hi hn2 he hE hacc
  refine ev_succ ?_
  simp only [impl_argumentsOf.l0]
  refine ev_neg (by omega) (ev_to (ev_some _) ?_)
  simp [argsN]
 | succ m ihm =>
  intro i e e' acc hi hn2 he hE hacc
  refine ev_succ ?_
  simp only [impl_argumentsOf.l0]
  rw [show m + 1 = 1 + m by omega, endN_add _ _ 1 m e he] at hE
  cases h1 : endN (arL l) t 1 e with
  | none => rw [h1] at hE; cases hE
  | some q =>
   rw [h1] at hE
   simp only [Option.bind_some] at hE
   obtain ⟨_, b1, b2⟩ := endN_some he h1
   have hend := endOf_ev l hr t ht hn e he
   rw [h1] at hend
   refine ev_pos (by omega) (ev_pos (by omega) (ev_bind hend ?_))
   rw [wrap_up (by omega), argsN_succ h1]
   refine ev_to (ihm (i + 1) q e' (acc ++ [(e : Int)]) (by omega) hn2 b2 hE (by simp; omega)) ?_
   simp
theorem argumentsOf_ev (l : List S90) (hr : Right l) (t : List Int) (ht : t.length ≤ 1048576) (hn : Nodes l t) (a e : Nat) (ha : a < t.length) (he : endN (arL l) t 1 a = some e) :
  Ev (fun k => impl_argumentsOf.f k l t (a : Int)) ((argsAt (arL l) t a).map fun p : Nat => (p : Int)) := by
 unfold impl_argumentsOf.f
 refine ev_pos (by omega) (ev_pos (by omega) (ev_bindq (arityOf_eq l hr _ (hn a ha)) ?_))
 rw [wrap_up (by omega)]
 have := argumentsOf_l0 l hr t ht hn (arL l (rd t (a : Int))) (arL l (rd t (a : Int))) 0 (a + 1) e [] (by omega) (arL_le hr (hn a ha)) (by omega) (endN_args ha he) (by simp)
 exact ev_to this (by simp [argsAt])
def nameL (l : List S90) (n : Int) : ByteArray := (rd_T90 l n).f0
def txtA (l : List S90) (t : List Int) (a : Nat) : ByteArray := txtN (arL l) (nameL l) t t.length a
theorem txtA_eq (l : List S90) (t : List Int) {a e : Nat} (ha : a < t.length) (h : endN (arL l) t 1 a = some e) :
  txtA l t a = if rd t (a : Int) < 0 then strOfNums [(wrap64 (64 - (rd t (a : Int)))) % 256]
   else if (argsAt (arL l) t a) = [] then nameL l (rd t (a : Int))
   else nameL l (rd t (a : Int)) ++ (⟨#[40]⟩ : ByteArray) ++ joinB ((argsAt (arL l) t a).map (txtA l t)) ++ (⟨#[41]⟩ : ByteArray) := by
 obtain ⟨L, hL⟩ : ∃ L, t.length = L + 1 := ⟨t.length - 1, by omega⟩
 obtain ⟨_, hb⟩ := argsAt_bound ha h
 have hm : (argsAt (arL l) t a).map (txtN (arL l) (nameL l) t L) = (argsAt (arL l) t a).map (txtA l t) := List.map_congr_left fun p hp => by
  obtain ⟨b1, b2, q, hq⟩ := hb p hp
  exact txtN_more L t.length p q b2 hq (by omega) (by omega)
 rw [← hm]
 unfold txtA
 rw [hL, txtN]
theorem nameL_size {l : List S90} (hr : Right l) {t : List Int} (hn : Nodes l t) : ∀ i, i < t.length → (nameL l (rd t (i : Int))).size ≤ 3 := by
 intro i hi
 by_cases h0 : rd t (i : Int) < 0
 ·have e : rd_T90 l (rd t (i : Int)) = rd_T90 l ((0 : Nat) : Int) := by
   unfold rd_T90
   rw [Int.toNat_of_nonpos (by omega)]; rfl
  have hl := hr.len
  have := hr.names 0 (by omega)
  unfold nameL
  rw [e]
  unfold nameB at this
  rw [Bool.and_eq_true] at this
  have := of_decide_eq_true this.1
  exact this.2
 ·obtain ⟨s0, s1⟩ := node_sym (hn i hi) h0
  have := hr.names (rd t (i : Int)).toNat (by omega)
  rw [Int.toNat_of_nonneg s0] at this
  unfold nameB at this
  rw [Bool.and_eq_true] at this
  have := of_decide_eq_true this.1
  exact this.2
theorem txtA_size {l : List S90} (hr : Right l) {t : List Int} (hn : Nodes l t) (ht : t.length ≤ 24) {a e : Nat} (ha : a < t.length) (h : endN (arL l) t 1 a = some e) : (txtA l t a).size ≤ 144 := by
 have := txtN_size (nm := nameL l) (nameL_size hr hn) t.length a e ha h
 obtain ⟨_, h1, h2⟩ := endN_some (by omega) h
 unfold txtA
 omega
theorem bext {x y : ByteArray} (h : x.data.toList = y.data.toList) : x = y := by
 cases x; cases y; congr 1; exact Array.toList_inj.1 h
theorem app_list (x y : ByteArray) : (x ++ y).data.toList = x.data.toList ++ y.data.toList := by
 rw [ByteArray.data_append, Array.toList_append]
theorem app_assoc (x y z : ByteArray) : (x ++ y) ++ z = x ++ (y ++ z) := bext (by simp only [app_list, List.append_assoc])
def comB : List ByteArray → ByteArray
 | [] => ⟨#[]⟩
 | x :: xs => (⟨#[44]⟩ : ByteArray) ++ x ++ comB xs
theorem comB_list : ∀ ps : List ByteArray, (comB ps).data.toList = Lib.joinTail [44] (ps.map (·.data.toList))
 | [] => rfl
 | x :: xs => by
  rw [comB, app_list, app_list, comB_list xs]
  rfl
theorem joinB_cons (x : ByteArray) (ps : List ByteArray) : joinB (x :: ps) = x ++ comB ps := bext (by
 rw [app_list, comB_list]
 show (Lib.join ((x :: ps).map (·.data.toList)) [44]) = _
 rw [List.map_cons, Lib.join_cons])
theorem app_nil (x : ByteArray) : x ++ (⟨#[]⟩ : ByteArray) = x := bext (by rw [app_list]; exact List.append_nil _)
theorem l4Text_loop (l : List S90) (hr : Right l) (t : List Int) (ht : t.length ≤ 24) (hn : Nodes l t) (nm : ByteArray) (A : Nat) (hA : A ≤ 2) (B : Nat)
  (ih : ∀ p, B < p → p < t.length → (∃ q, endN (arL l) t 1 p = some q) → Ev (fun k => spec_l4Text.f k [(⟨l⟩ : S26)] t (p : Int)) (txtA l t p)) :
  ∀ (m i e e' : Nat) (o : ByteArray), i + m = A → 0 < i → B < e → e ≤ t.length → endN (arL l) t m e = some e' → o.size ≤ 1000 * (i + 1) →
   Ev (fun k => spec_l4Text.l0 k [(⟨l⟩ : S26)] t o (e : Int) (i : Int) nm (A : Int)) (o ++ comB ((argsN (arL l) t m e).map (txtA l t)) ++ (⟨#[41]⟩ : ByteArray)) := by
 intro m
 induction m with
 | zero =>
  intro i e e' o hi hi0 hB he hE ho
  refine ev_succ ?_
  simp only [spec_l4Text.l0]
  refine ev_neg (by omega) (ev_pos (by omega) (ev_to (ev_some _) ?_))
  simp only [argsN, List.map_nil, comB, app_nil]
 | succ m ihm =>
  intro i e e' o hi hi0 hB he hE ho
  rw [show m + 1 = 1 + m by omega, endN_add _ _ 1 m e he] at hE
  cases h1 : endN (arL l) t 1 e with
  | none => rw [h1] at hE; cases hE
  | some q =>
   rw [h1] at hE
   simp only [Option.bind_some] at hE
   obtain ⟨_, b1, b2⟩ := endN_some he h1
   have hd := ih e hB (by omega) ⟨q, h1⟩
   have hend := l3End_ev l hr t (by omega) hn (t.length - e) e (by omega)
   rw [h1] at hend
   have hsz := txtA_size hr hn ht (by omega) h1
   have s1 : (⟨#[44]⟩ : ByteArray).size = 1 := rfl
   refine ev_succ ?_
   simp only [spec_l4Text.l0]
   refine ev_pos (by omega) (ev_pos (by omega) (ev_pos (by omega) (ev_bind hd (ev_pos (by rw [ByteArray.size_append, s1]; omega) (ev_bind hend ?_)))))
   rw [wrap_up (by omega)]
   refine ev_to (ihm (i + 1) q e' (o ++ (⟨#[44]⟩ : ByteArray) ++ txtA l t e) (by omega) (by omega) (by omega) b2 hE (by rw [ByteArray.size_append, ByteArray.size_append, s1]; omega)) ?_
   rw [argsN_succ h1]
   simp only [List.map_cons, comB, app_assoc]
theorem l4Text_ev (l : List S90) (hr : Right l) (t : List Int) (ht : t.length ≤ 24) (hn : Nodes l t) : ∀ (d a : Nat), a + d = t.length → a < t.length → (∃ e, endN (arL l) t 1 a = some e) →
  Ev (fun k => spec_l4Text.f k [(⟨l⟩ : S26)] t (a : Int)) (txtA l t a) := by
 intro d
 induction d using Nat.strongRecOn with
 | _ d ih =>
  intro a hd ha ⟨e, he⟩
  have e0 : (rd_T26 [(⟨l⟩ : S26)] 0).f0 = l := rfl
  refine ev_succ ?_
  simp only [spec_l4Text.f, e0]
  refine ev_pos (by omega) (ev_pos (by omega) ?_)
  rw [txtA_eq l t ha he]
  by_cases h0 : rd t (a : Int) < 0
  ·rw [if_pos h0]; exact ev_pos h0 (ev_some _)
  rw [if_neg h0]
  refine ev_neg h0 ?_
  obtain ⟨s0, s1⟩ := node_sym (hn a ha) h0
  obtain ⟨hA, hA2⟩ := arL_cast hr (hn a ha) h0
  obtain ⟨hlen, hb⟩ := argsAt_bound ha he
  have hE := endN_args ha he
  have hnm := nameL_size hr hn a ha
  refine ev_pos (by simp) (ev_pos s0 (ev_pos s1 ?_))
  rw [hA]
  cases hm : arL l (rd t (a : Int)) with
  | zero =>
   rw [hm] at hlen
   rw [if_pos (List.eq_nil_of_length_eq_zero hlen)]
   exact ev_pos rfl (ev_some _)
  | succ m =>
   have hne : ¬ argsAt (arL l) t a = [] := fun k => by rw [k, hm] at hlen; cases hlen
   rw [if_neg hne]
   refine ev_neg (by omega) (ev_pos (by show (nameL l (rd t (a : Int))).size + 1 ≤ _; omega) ?_)
   rw [hm] at hE
   rw [show m + 1 = 1 + m by omega, endN_add _ _ 1 m (a + 1) (by omega)] at hE
   cases h1 : endN (arL l) t 1 (a + 1) with
   | none => rw [h1] at hE; cases hE
   | some q =>
    rw [h1] at hE
    simp only [Option.bind_some] at hE
    obtain ⟨_, b1, b2⟩ := endN_some (by omega) h1
    have ih' : ∀ p, a < p → p < t.length → (∃ q, endN (arL l) t 1 p = some q) → Ev (fun k => spec_l4Text.f k [(⟨l⟩ : S26)] t (p : Int)) (txtA l t p) := fun p h1 h2 h3 => ih (t.length - p) (by omega) p (by omega) h2 h3
    have hend := l3End_ev l hr t (by omega) hn (t.length - (a + 1)) (a + 1) (by omega)
    rw [h1] at hend
    have hsz := txtA_size hr hn ht (by omega) h1
    have s2 : (⟨#[40]⟩ : ByteArray).size = 1 := rfl
    refine ev_succ ?_
    simp only [spec_l4Text.l0]
    rw [wrap_up (by omega)]
    refine ev_pos (by omega) (ev_neg (by omega) (ev_bind (ih' (a + 1) (by omega) (by omega) ⟨q, h1⟩) (ev_pos (by rw [ByteArray.size_append, s2]; show (nameL l (rd t (a : Int))).size + 1 + _ ≤ _; omega) (ev_bind hend ?_))))
    have hloop := l4Text_loop l hr t ht hn (nameL l (rd t (a : Int))) (m + 1) (by omega) a ih' m 1 q e (nameL l (rd t (a : Int)) ++ (⟨#[40]⟩ : ByteArray) ++ txtA l t (a + 1)) (by omega) (by omega) (by omega) b2 hE (by rw [ByteArray.size_append, ByteArray.size_append, s2]; omega)
    have e1 : wrap64 (0 + 1) = ((1 : Nat) : Int) := by rw [wrap_id (by omega) (by omega)]; rfl
    rw [e1]
    refine ev_to hloop ?_
    unfold argsAt
    rw [hm, argsN_succ h1, List.map_cons, joinB_cons]
    simp only [app_assoc]
theorem join_eq (ps : List ByteArray) (h : (lens ps) ≤ 1000) (hp : ps.length ≤ 2) : strings_Join.f ps (⟨#[44]⟩ : ByteArray) = some (joinB ps) := by
 unfold strings_Join.f joinB
 refine if_pos ⟨by omega, ?_⟩
 cases ps with
 | nil => simp [Lib.join_nil]
 | cons x xs =>
  have := join_len x xs
  simp only [lens] at h
  show (Lib.join ((x :: xs).map (·.data.toList)) [44]).length ≤ _
  omega
theorem textAt_ev (l : List S90) (hr : Right l) (t : List Int) (ht : t.length ≤ 24) (hn : Nodes l t) : ∀ (d a : Nat), a + d = t.length → a < t.length → (∃ e, endN (arL l) t 1 a = some e) →
  Ev (fun k => impl_textAt.f k l t (a : Int)) (txtA l t a) := by
 intro d
 induction d using Nat.strongRecOn with
 | _ d ih =>
  intro a hd ha ⟨e, he⟩
  refine ev_succ ?_
  simp only [impl_textAt.f]
  refine ev_pos (by omega) (ev_pos (by omega) ?_)
  rw [txtA_eq l t ha he]
  by_cases h0 : rd t (a : Int) < 0
  ·rw [if_pos h0]; exact ev_pos h0 (ev_some _)
  rw [if_neg h0]
  refine ev_neg h0 ?_
  obtain ⟨s0, s1⟩ := node_sym (hn a ha) h0
  obtain ⟨hlen, hb⟩ := argsAt_bound ha he
  have hps : (argsAt (arL l) t a).length ≤ 2 := by rw [hlen]; exact arL_le hr (hn a ha)
  have hnm := nameL_size hr hn a ha
  refine ev_pos s0 (ev_pos s1 (ev_bind (argumentsOf_ev l hr t (by omega) hn a e ha he) ?_))
  show Ev (fun k => impl_textAt.l0 k t (nameL l (rd t (a : Int))) [] ((argsAt (arL l) t a).map fun p : Nat => (p : Int)) (((argsAt (arL l) t a).map fun p : Nat => (p : Int)).length : Int) 0 l) _
  generalize nameL l (rd t (a : Int)) = nm at hnm
  generalize argsAt (arL l) t a = ps at hb hps
  have key : ∀ (r i : Nat) (acc : List ByteArray), i + r = ps.length → acc = (ps.take i).map (txtA l t) → Ev (fun k => impl_textAt.l0 k t nm acc (ps.map fun p : Nat => (p : Int)) ((ps.map fun p : Nat => (p : Int)).length : Int) (i : Int) l)
    (if ps = [] then nm else nm ++ (⟨#[40]⟩ : ByteArray) ++ joinB (ps.map (txtA l t)) ++ (⟨#[41]⟩ : ByteArray)) := by
   intro r
   induction r with
   | zero =>
    intro i acc hi hacc
    have hacc' : acc = ps.map (txtA l t) := by rw [hacc, List.take_of_length_le (by omega)]
    refine ev_succ ?_
    simp only [impl_textAt.l0, List.length_map]
    refine ev_neg (by omega) ?_
    rw [hacc']
    by_cases hp : ps = []
    ·subst hp
     exact ev_pos (by simp) (ev_to (ev_some _) (if_pos rfl).symm)
    ·have hp0 : ps.length ≠ 0 := fun k => hp (List.eq_nil_of_length_eq_zero k)
     rw [if_neg hp]
     have hl : ∀ qs : List Nat, (∀ p ∈ qs, p < t.length ∧ ∃ q, endN (arL l) t 1 p = some q) → lens (qs.map (txtA l t)) ≤ 145 * qs.length := by
      intro qs
      induction qs with
      | nil => intro _; simp [lens]
      | cons p qs ihq =>
       intro hq
       obtain ⟨c1, q, c2⟩ := hq p (by simp)
       have := txtA_size hr hn ht c1 c2
       have := ihq (fun z hz => hq z (by simp [hz]))
       simp only [List.map_cons, lens, List.length_cons]; omega
     have hl := hl ps (fun p hp => (hb p hp).2)
     have hjs : (joinB (ps.map (txtA l t))).size ≤ 1000 := by
      cases hc : ps with
      | nil => exact absurd hc hp
      | cons p qs =>
       rw [hc] at hl hps
       rw [List.map_cons, joinB_size]
       simp only [List.map_cons, lens, List.length_cons] at hl hps
       omega
     have s1 : (⟨#[40]⟩ : ByteArray).size = 1 := rfl
     refine ev_neg (by rw [List.length_map]; omega) (ev_pos (by omega) (ev_bindq (join_eq _ (by omega) (by rw [List.length_map]; exact hps)) (ev_pos (by rw [ByteArray.size_append, s1]; omega) (ev_pos (by rw [ByteArray.size_append, ByteArray.size_append, s1]; omega) (ev_some _)))))
   | succ r ihr =>
    intro i acc hi hacc
    have hi' : i < ps.length := by omega
    obtain ⟨b1, b2, b3⟩ := hb ps[i] (List.getElem_mem hi')
    refine ev_succ ?_
    simp only [impl_textAt.l0, List.length_map]
    refine ev_pos (by omega) (ev_pos (by omega) (ev_pos (by omega) ?_))
    rw [rd_get (ps.map fun p : Nat => (p : Int)) i (by rw [List.length_map]; exact hi'), List.getElem_map]
    refine ev_bind (ih (t.length - ps[i]) (by omega) ps[i] (by omega) b2 b3) (ev_pos (by rw [hacc, List.length_map, List.length_take]; omega) ?_)
    rw [wrap_up (by omega)]
    have := ihr (i + 1) (acc ++ [txtA l t ps[i]]) (by omega) (by rw [hacc, List.take_succ_eq_append_getElem hi', List.map_append]; rfl)
    simp only [List.length_map] at this
    exact this
  exact key ps.length 0 [] (by omega) (by simp)
def textR (l : List S90) (t : List Int) : Int × ByteArray := if termF l t = 0 then (0, txtA l t 0) else (termF l t, (⟨#[]⟩ : ByteArray))
theorem TermText_spec (l : List S90) (t : List Int) (ht : t.length ≤ 1048576) : Ev (fun k => spec_TermText.f k l t) (textR l t) := by
 unfold spec_TermText.f textR
 refine ev_bind (TermFault_spec l t ht) (ev_ite (fun h => ?_) (fun h => ev_some _))
 have hr := rightT_of h
 have hl := hr.len
 exact ev_bind (l4Text_ev l hr.sig t (by omega) hr.nodes t.length 0 (by omega) (by omega) ⟨_, hr.whole⟩) (ev_some _)
theorem TermText_impl (l : List S90) (t : List Int) (ht : t.length ≤ 1048576) : Ev (fun k => impl_TermText.f k l t) (textR l t) := by
 unfold impl_TermText.f textR
 refine ev_bind (TermFault_impl l t ht) (ev_ite (fun h => ?_) (fun h => ev_some _))
 have hr := rightT_of h
 have hl := hr.len
 exact ev_bind (textAt_ev l hr.sig t (by omega) hr.nodes t.length 0 (by omega) (by omega) ⟨_, hr.whole⟩) (ev_some _)
end Go.Proofs.YtbdpnkpienpnaaaGreatDoor.Pure
set_option linter.unusedVariables false
namespace Go.Proofs.YtbdpnkpienpnaaaGreatDoor.Pure
open Go.RowKit Go.Proofs.YtbdpnkpienpnaaaGreatDoor.P Go.Proofs.YtbdpnkpienpnaaaGreatDoorW.PrintWords Go.Proofs.YtbdpnkpienpnaaaGreatDoorW.PrintLast Go.Proofs.YtbdpnkpienpnaaaGreatDoor.Base
theorem nodes_iff {l : List S90} {t : List Int} : Nodes l t ↔ ∀ n ∈ t, nodeB l n = true := by
 constructor
 ·intro h n hn
  obtain ⟨j, hj, rfl⟩ := List.mem_iff_getElem.1 hn
  have := h j hj
  rwa [rd_get t j hj] at this
 ·intro h i hi
  exact h _ (rd_mem t i hi)
theorem sig_of {l : List S90} {t : List Int} (h : termF l t = 0) : sigF l = 0 := by
 unfold termF at h
 by_cases hs : sigF l = 0
 ·exact hs
 ·rw [if_neg hs] at h; exact absurd h hs
theorem right_parts {l : List S90} {t : List Int} (h : termF l t = 0) : 1 ≤ t.length ∧ t.length ≤ 24 ∧ (∀ n ∈ t, nodeB l n = true) ∧ Whole (arL l) t := by
 have hr := rightT_of h
 exact ⟨hr.len.1, hr.len.2, nodes_iff.1 hr.nodes, whole_iff.1 hr.whole⟩
end Go.Proofs.YtbdpnkpienpnaaaGreatDoor.Pure
set_option linter.unusedVariables false
namespace Go.Proofs.YtbdpnkpienpnaaaGreatDoor.Pure
open Go.RowKit Go.Proofs.YtbdpnkpienpnaaaGreatDoor.P Go.Proofs.YtbdpnkpienpnaaaGreatDoorW.PrintWords Go.Proofs.YtbdpnkpienpnaaaGreatDoorW.PrintLast Go.Proofs.YtbdpnkpienpnaaaGreatDoorW.PrintMore Go.Proofs.YtbdpnkpienpnaaaGreatDoor.Base
def fdL (l : List S90) (w : List UInt8) : Int := placeN (fun j => nameAt l j == w) l.length
theorem l2Find_evR (l : List S90) (hl : l.length ≤ 1048576) (s : ByteArray) : Ev (fun k => spec_l2Find.f k [(⟨l⟩ : S26)] s) (fdL l s.toList) := by
 unfold spec_l2Find.f
 have e : (rd_T26 [(⟨l⟩ : S26)] 0).f0 = l := rfl
 have h := loop_scan l.length (fun j => if (nameAt l j == s.toList) = true then some (j : Int) else none) (-1) (fun k i => spec_l2Find.l0 k [(⟨l⟩ : S26)] s i)
  (by simp only [spec_l2Find.l0, e]; exact ev_pos (by simp) (ev_neg (by omega) (ev_some _)))
  (fun i hi r hr => by
   simp only [spec_l2Find.l0, e]
   refine ev_pos (by simp) (ev_pos (by omega) (ev_pos (by omega) ?_))
   rw [wrap_up (by omega)]
   by_cases h : nameAt l i = s.toList
   ·exact ev_pos h (ev_to (ev_some _) (by simp [h]))
   ·exact ev_neg h (ev_to hr (by simp [h])))
  l.length 0 (by omega)
 rw [scanN_place (fun j => nameAt l j == s.toList)] at h
 exact h
theorem node_word {l : List S90} (hr : Right l) {n : Int} (hn : nodeB l n = true) : NodeWord (fdL l) (wordN (nameL l) n) n := by
 by_cases h0 : n < 0
 ·have hb : -12 ≤ n := by
   unfold nodeB symB at hn
   rw [Bool.or_eq_true, decide_eq_true_eq, decide_eq_true_eq] at hn
   omega
  have hw : wordN (nameL l) n = [UInt8.ofNat (64 - n).toNat] := by
   unfold wordN
   rw [if_pos h0, wrap_id (by omega) (by omega)]
   have e : ((64 - n) % 256).toNat = (64 - n).toNat := by omega
   unfold strOfNums
   simp [e]
  have hv : (UInt8.ofNat (64 - n).toNat).toNat = (64 - n).toNat := by rw [UInt8.toNat_ofNat']; omega
  have hc : capB (UInt8.ofNat (64 - n).toNat) = true := by
   unfold capB
   rw [hv]
   exact decide_eq_true (by omega)
  refine ⟨.inl ⟨_, hw, hc⟩, fun h => by omega, fun _ => ⟨_, hw, hc, ?_⟩⟩
  rw [hv]; omega
 ·obtain ⟨s0, s1⟩ := node_sym hn h0
  obtain ⟨i, rfl⟩ := Int.eq_ofNat_of_zero_le s0
  have hi : i < l.length := by omega
  have hw : wordN (nameL l) (i : Int) = (rd_T90 l (i : Int)).f0.data.toList := by
   unfold wordN nameL
   rw [if_neg h0]
  have hN := hr.names i hi
  unfold nameB at hN
  rw [Bool.and_eq_true] at hN
  have hsz := of_decide_eq_true hN.1
  have hlen := Lib.size_eq (rd_T90 l (i : Int)).f0
  have hlow : ∀ b ∈ (rd_T90 l (i : Int)).f0.data.toList, lowB b = true := fun b hb => List.all_eq_true.1 hN.2 b hb
  have hne : (rd_T90 l (i : Int)).f0.data.toList ≠ [] := fun h => by rw [h, List.length_nil] at hlen; omega
  have hfd : fdL l (rd_T90 l (i : Int)).f0.data.toList = (i : Int) := by
   have := (dup_place l i hi).2 (hr.apart i hi)
   rw [Lib.toList_data] at this
   exact this
  rw [hw]
  exact ⟨.inr ⟨hne, hlow⟩, fun _ => ⟨hlow, hne, hfd⟩, fun h => absurd h h0⟩
def resA (out : List Int) (o : Option (List Int)) : List Int × Bool := match o with
 | some ns => (out ++ ns, true)
 | none => ([], false)
theorem resA_cons (out : List Int) (n : Int) (o : Option (List Int)) : resA (out ++ [n]) o = resA out (o.map (fun ns => n :: ns)) := by
 cases o with
 | none => rfl
 | some ns => simp [resA]
theorem sepB_iff (b : UInt8) : sepB b = true ↔ b.toNat = 40 ∨ b.toNat = 41 ∨ b.toNat = 44 := by
 unfold sepB
 simp only [Bool.or_eq_true, beq_iff_eq]
 omega
theorem l4Nodes_l0 (l : List S90) (hl : l.length ≤ 6) (s : ByteArray) (hs : s.data.toList.length ≤ 1000) : ∀ (d i : Nat) (out : List Int), i + d = s.data.toList.length → out.length ≤ i →
  Ev (fun k => spec_l4Nodes.l0 k [(⟨l⟩ : S26)] s out (i : Int)) (resA out (scanA (fdL l) [] (s.data.toList.drop i))) := by
 have hz := Lib.size_eq s
 intro d
 induction d using Nat.strongRecOn with
 | _ d ih =>
  intro i out hi ho
  rcases Nat.eq_zero_or_pos d with h0 | h0
  ·refine ev_succ ?_
   simp only [spec_l4Nodes.l0]
   rw [List.drop_eq_nil_of_le (by omega)]
   exact ev_neg (by omega) (ev_to (ev_some _) (by simp [scanA, flushW, resA]))
  have hil : i < s.data.toList.length := by omega
  have hb := bt_get s i hil
  have hd := List.drop_eq_getElem_cons hil
  generalize hbb : s.data.toList[i] = b at *
  -- a run of letters
  have hrun : ∀ (e j : Nat), j + e = s.data.toList.length → i < j → (∀ x ∈ Lib.pieceU s.data.toList i j, lowB x = true) → Ev (fun k => spec_l4Nodes.l1 k [(⟨l⟩ : S26)] s out (i : Int) (j : Int)) (resA out (scanA (fdL l) (Lib.pieceU s.data.toList i j) (s.data.toList.drop j))) := by
   intro e
   induction e with
   | zero =>
    intro j hj hij hall
    have hne := Lib.pieceU_ne s.data.toList i j hij (by omega)
    have hf := l2Find_evR l (by omega) (s.extract i j)
    have hx : (s.extract i j).toList = Lib.pieceU s.data.toList i j := by rw [Lib.toList_data]; simp [Lib.pieceU]
    rw [hx] at hf
    refine ev_succ ?_
    simp only [spec_l4Nodes.l1, Int.toNat_natCast]
    rw [List.drop_eq_nil_of_le (by omega), scanA, flushW, if_neg hne]
    refine ev_neg (by omega) (ev_pos (by omega) (ev_pos (by omega) (ev_pos (by omega) (ev_bind hf ?_))))
    by_cases hlt : fdL l (Lib.pieceU s.data.toList i j) < 0
    ·rw [if_pos hlt]; exact ev_pos hlt (ev_some _)
    ·rw [if_neg hlt]
     refine ev_neg hlt (ev_pos (by omega) ?_)
     have := ih 0 (by omega) j (out ++ [fdL l (Lib.pieceU s.data.toList i j)]) (by omega) (by rw [List.length_append, List.length_singleton]; omega)
     rw [resA_cons, List.drop_eq_nil_of_le (by omega)] at this
     simpa [scanA, flushW] using this
   | succ e ihe =>
    intro j hj hij hall
    have hjl : j < s.data.toList.length := by omega
    have hbj := bt_get s j hjl
    have hdj := List.drop_eq_getElem_cons hjl
    have hgrow := Lib.pieceU_grow s.data.toList i j 1 (Nat.le_of_lt hij)
    rw [hdj, List.take_succ_cons, List.take_zero] at hgrow
    generalize s.data.toList[j] = c at *
    have hne := Lib.pieceU_ne s.data.toList i j hij (by omega)
    have hf := l2Find_evR l (by omega) (s.extract i j)
    have hx : (s.extract i j).toList = Lib.pieceU s.data.toList i j := by rw [Lib.toList_data]; simp [Lib.pieceU]
    rw [hx] at hf
    have hend : lowB c = false → Ev (fun k => (spec_l2Find.f k [(⟨l⟩ : S26)] (s.extract i j)).bind fun t => if t < 0 then some (([] : List Int), false) else if out.length < 17592186044416 then spec_l4Nodes.l0 k [(⟨l⟩ : S26)] s (out ++ [t]) (j : Int) else none)
      (resA out (scanA (fdL l) (Lib.pieceU s.data.toList i j) (s.data.toList.drop j))) := by
     intro hcl
     rw [hdj, scanA_flush (fdL l) _ _ (fun b r h => by injection h with h1 h2; rw [← h1]; exact hcl), flushW, if_neg hne]
     refine ev_bind hf ?_
     by_cases hlt : fdL l (Lib.pieceU s.data.toList i j) < 0
     ·rw [if_pos hlt]; exact ev_pos hlt (ev_some _)
     ·rw [if_neg hlt]
      refine ev_neg hlt (ev_pos (by omega) ?_)
      have := ih (e + 1) (by omega) j (out ++ [fdL l (Lib.pieceU s.data.toList i j)]) (by omega) (by rw [List.length_append, List.length_singleton]; omega)
      rw [resA_cons, hdj] at this
      exact this
    refine ev_succ ?_
    simp only [spec_l4Nodes.l1, Int.toNat_natCast]
    rw [hbj]
    refine ev_pos (by omega) (ev_pos (by omega) ?_)
    by_cases h97 : ((c.toNat : Int)) ≥ 97
    ·by_cases h122 : ((c.toNat : Int)) ≤ 122
     ·have hcl : lowB c = true := decide_eq_true (by omega)
      rw [wrap_up (by omega), hdj, scanA, if_pos hcl, hgrow]
      refine ev_pos h97 (ev_pos h122 (ihe (j + 1) (by omega) (by omega) ?_))
      rw [← hgrow]
      intro x hx
      rcases List.mem_append.1 hx with h | h
      ·exact hall x h
      ·rw [List.mem_singleton.1 h]; exact hcl
     ·have hcl : lowB c = false := decide_eq_false (by omega)
      exact ev_pos h97 (ev_neg h122 (ev_pos (by omega) (ev_pos (by omega) (ev_pos (by omega) (hend hcl)))))
    ·have hcl : lowB c = false := decide_eq_false (by omega)
     exact ev_neg h97 (ev_pos (by omega) (ev_pos (by omega) (ev_pos (by omega) (hend hcl))))
  refine ev_succ ?_
  simp only [spec_l4Nodes.l0]
  rw [hb, hd]
  refine ev_pos (by omega) (ev_pos (by omega) ?_)
  have hstep : ∀ q : Bool, q = sepB b → Ev (fun k => spec_l4Nodes.j1 k [(⟨l⟩ : S26)] s out (i : Int) (b.toNat : Int) q) (resA out (scanA (fdL l) [] (b :: s.data.toList.drop (i + 1)))) := by
   intro q hq
   refine ev_succ ?_
   simp only [spec_l4Nodes.j1]
   by_cases hsep : sepB b = true
   ·rw [hq, hsep, scanA_sep _ _ _ hsep]
    refine ev_pos rfl ?_
    rw [wrap_up (by omega)]
    exact ih (d - 1) (by omega) (i + 1) out (by omega) (by omega)
   ·rw [hq, Bool.eq_false_iff.2 hsep]
    refine ev_neg (by simp) ?_
    have hj2 : ∀ q2 : Bool, q2 = capB b → Ev (fun k => spec_l4Nodes.j2 k [(⟨l⟩ : S26)] s out (i : Int) (b.toNat : Int) q2) (resA out (scanA (fdL l) [] (b :: s.data.toList.drop (i + 1)))) := by
     intro q2 hq2
     refine ev_succ ?_
     simp only [spec_l4Nodes.j2]
     by_cases hcap : capB b = true
     ·have hc := of_decide_eq_true hcap
      rw [hq2, hcap, scanA, if_neg (by rw [(cap_notlow hcap).1]; simp), if_neg hsep, if_pos hcap, flushW, if_pos rfl, ← resA_cons]
      refine ev_pos rfl (ev_pos (by omega) ?_)
      rw [wrap_up (by omega), show ((b.toNat : Int) - 65) % 256 = (b.toNat : Int) - 65 by omega]
      exact ih (d - 1) (by omega) (i + 1) _ (by omega) (by rw [List.length_append, List.length_singleton]; omega)
     ·rw [hq2, Bool.eq_false_iff.2 hcap]
      refine ev_neg (by simp) ?_
      have hj3 : ∀ q3 : Bool, q3 = lowB b → Ev (fun k => spec_l4Nodes.j3 k [(⟨l⟩ : S26)] s out (i : Int) q3) (resA out (scanA (fdL l) [] (b :: s.data.toList.drop (i + 1)))) := by
       intro q3 hq3
       refine ev_succ ?_
       simp only [spec_l4Nodes.j3]
       by_cases hlow : lowB b = true
       ·have hlo := of_decide_eq_true hlow
        rw [hq3, hlow, scanA, if_pos hlow, List.nil_append]
        refine ev_pos rfl (ev_succ ?_)
        simp only [spec_l4Nodes.l1]
        rw [hb]
        refine ev_pos (by omega) (ev_pos (by omega) (ev_pos (by omega) (ev_pos (by omega) ?_)))
        rw [wrap_up (by omega)]
        have hp : Lib.pieceU s.data.toList i (i + 1) = [b] := by
         unfold Lib.pieceU
         rw [hd, Nat.add_sub_cancel_left]; rfl
        have := hrun (d - 1) (i + 1) (by omega) (by omega) (by rw [hp]; intro x hx; rw [List.mem_singleton.1 hx]; exact hlow)
        rw [hp] at this
        exact this
       ·rw [hq3, Bool.eq_false_iff.2 hlow, scanA, if_neg hlow, if_neg hsep, if_neg hcap, flushW, if_pos rfl]
        exact ev_neg (by simp) (ev_some _)
      by_cases h97 : ((b.toNat : Int)) ≥ 97
      ·exact ev_pos h97 (hj3 _ (by unfold lowB; exact decide_eq_decide.2 (by omega)))
      ·exact ev_neg h97 (hj3 _ (by symm; exact decide_eq_false (by omega)))
    by_cases h65 : ((b.toNat : Int)) ≥ 65
    ·exact ev_pos h65 (hj2 _ (by unfold capB; exact decide_eq_decide.2 (by omega)))
    ·exact ev_neg h65 (hj2 _ (by symm; exact decide_eq_false (by omega)))
  by_cases h40 : ((b.toNat : Int)) = 40
  ·exact ev_pos h40 (hstep true (by symm; exact (sepB_iff b).2 (by omega)))
  refine ev_neg h40 ?_
  by_cases h41 : ((b.toNat : Int)) = 41
  ·exact ev_pos h41 (hstep true (by symm; exact (sepB_iff b).2 (by omega)))
  refine ev_neg h41 (hstep _ ?_)
  by_cases h44 : ((b.toNat : Int)) = 44
  ·rw [(sepB_iff b).2 (by omega)]; exact beq_iff_eq.2 h44
  ·have e : sepB b = false := Bool.eq_false_iff.2 (fun h => by have := (sepB_iff b).1 h; omega)
   rw [e]; exact beq_eq_false_iff_ne.2 h44
theorem scanA_length (fd : List UInt8 → Int) : ∀ (s cur : List UInt8) (ns : List Int), scanA fd cur s = some ns → ns.length ≤ s.length + 1 ∧ (cur = [] → ns.length ≤ s.length)
 | [], cur, ns, h => by
  rw [scanA, flushW] at h
  by_cases hc : cur = []
  ·rw [if_pos hc] at h
   obtain rfl := Option.some.inj h
   simp
  ·rw [if_neg hc] at h
   split at h
   ·cases h
   ·simp only [Option.map_some, Option.some.injEq] at h
    subst h
    simp [hc]
 | b :: s, cur, ns, h => by
  rw [scanA] at h
  have key : ∀ (o : Option (List Int)), (∀ ms, o = some ms → ms.length ≤ s.length + 1) → flushW fd cur o = some ns → ns.length ≤ s.length + 2 ∧ (cur = [] → ns.length ≤ s.length + 1) := by
   intro o ho h
   rw [flushW] at h
   by_cases hc : cur = []
   ·rw [if_pos hc] at h
    have := ho ns h
    exact ⟨by omega, fun _ => this⟩
   ·rw [if_neg hc] at h
    split at h
    ·cases h
    ·cases o with
     | none => cases h
     | some ms =>
      simp only [Option.map_some, Option.some.injEq] at h
      have := ho ms rfl
      subst h
      exact ⟨by simp only [List.length_cons]; omega, fun h => absurd h hc⟩
  by_cases hl : lowB b = true
  ·rw [if_pos hl] at h
   obtain ⟨h1, _⟩ := scanA_length fd s _ ns h
   rw [List.length_cons]
   exact ⟨by omega, fun _ => h1⟩
  ·rw [if_neg hl] at h
   rw [List.length_cons]
   refine key _ (fun ms hms => ?_) h
   by_cases hs : sepB b = true
   ·rw [if_pos hs] at hms
    have := (scanA_length fd s [] ms hms).2 rfl
    omega
   ·rw [if_neg hs] at hms
    by_cases hc : capB b = true
    ·rw [if_pos hc] at hms
     cases hr : scanA fd [] s with
     | none => rw [hr] at hms; cases hms
     | some us =>
      rw [hr] at hms
      simp only [Option.map_some, Option.some.injEq] at hms
      have := (scanA_length fd s [] us hr).2 rfl
      subst hms
      simp only [List.length_cons]; omega
    ·rw [if_neg hc] at hms; cases hms
def readQ (l : List S90) (s : ByteArray) : List Int :=
 if (s.size : Int) > 168 then [] else match scanA (fdL l) [] s.data.toList with
  | some t => if termG l t = 0 then (if (txtA l t 0).toList = s.toList then t else []) else []
  | none => []
theorem termG_of {l : List S90} (hs : sigF l = 0) (t : List Int) : termF l t = termG l t := by unfold termF; rw [if_pos hs]
theorem l4Read_ev (l : List S90) (hs : sigF l = 0) (s : ByteArray) : Ev (fun k => spec_l4Read.f k [(⟨l⟩ : S26)] s) (readQ l s) := by
 have hr := right_of l hs
 have hl := hr.len
 have hz := Lib.size_eq s
 unfold spec_l4Read.f readQ
 refine ev_ite (fun h => ev_some _) (fun h => ?_)
 have hN := l4Nodes_l0 l (by omega) s (by omega) s.data.toList.length 0 [] (by omega) (by simp)
 rw [List.drop_zero] at hN
 have hN' : Ev (fun k => spec_l4Nodes.f k [(⟨l⟩ : S26)] s) (resA [] (scanA (fdL l) [] s.data.toList)) := by
  unfold spec_l4Nodes.f; exact hN
 refine ev_bind hN' ?_
 cases hc : scanA (fdL l) [] s.data.toList with
 | none => exact ev_neg (by simp [resA]) (ev_some _)
 | some t =>
  have htl := (scanA_length _ _ _ _ hc).2 rfl
  simp only [resA, List.nil_append]
  refine ev_pos trivial (ev_bind (l3Fault_ev l hr t (by omega)) (ev_ite (fun h0 => ?_) (fun h0 => ev_some _)))
  have hR := rightT_of (show termF l t = 0 by rw [termG_of hs]; exact h0)
  exact ev_bind (l4Text_ev l hr t hR.len.2 hR.nodes t.length 0 (by omega) (by have := hR.len; omega) ⟨_, hR.whole⟩) (ev_ite (fun _ => ev_some _) (fun _ => ev_some _))
def wordsP (s : ByteArray) : List (List UInt8) := (Lib.goFieldsP sepN s).map (·.data.toList)
def finP (l : List S90) (s : ByteArray) (t : List Int) : List Int × Bool := if termF l t = 0 then (if (txtA l t 0).toList = s.toList then (t, true) else ([], false)) else ([], false)
def readP (l : List S90) (s : ByteArray) : List Int × Bool := match readW (fdL l) (wordsP s) with
 | some t => finP l s t
 | none => ([], false)
theorem sepR_N : sepR = sepN := by
 funext n
 unfold sepR sepN
 cases n == 40 <;> cases n == 41 <;> cases n == 44 <;> rfl
theorem spans_count (p : Nat → Bool) (s : ByteArray) : ∀ (f pos : Nat) (st : Option Nat) (acc : List (Nat × Nat)), (Lib.spansFromP p s f pos st acc).1.length + (if (Lib.spansFromP p s f pos st acc).2.isSome then 1 else 0) ≤ acc.length + (if st.isSome then 1 else 0) + f
 | 0, pos, none, acc => by simp [Lib.spansFromP]
 | 0, pos, some a, acc => by simp [Lib.spansFromP]
 | f + 1, pos, none, acc => by
  simp only [Lib.spansFromP]
  by_cases h1 : pos < s.size
  ·by_cases h2 : p (Utf8.decode s pos).1 = true
   ·have := spans_count p s f (pos + (Utf8.decode s pos).2) none acc
    rw [if_pos h1, if_pos h2]
    simp only [Option.isSome_none, Bool.false_eq_true, if_false] at this ⊢
    omega
   ·have := spans_count p s f (pos + (Utf8.decode s pos).2) (some pos) acc
    rw [if_pos h1, if_neg h2]
    simp only [Option.isSome_none, Option.isSome_some, Bool.false_eq_true, if_false, if_true] at this ⊢
    omega
  ·rw [if_neg h1]
   simp only [Option.isSome_none, Bool.false_eq_true, if_false]
   omega
 | f + 1, pos, some a, acc => by
  simp only [Lib.spansFromP]
  by_cases h1 : pos < s.size
  ·by_cases h2 : p (Utf8.decode s pos).1 = true
   ·have := spans_count p s f (pos + (Utf8.decode s pos).2) none (acc ++ [(a, pos)])
    rw [if_pos h1, if_pos h2]
    simp only [Option.isSome_none, Option.isSome_some, Bool.false_eq_true, if_false, if_true, List.length_append, List.length_singleton] at this ⊢
    omega
   ·have := spans_count p s f (pos + (Utf8.decode s pos).2) (some a) acc
    rw [if_pos h1, if_neg h2]
    simp only [Option.isSome_some, if_true] at this ⊢
    omega
  ·rw [if_neg h1]
   simp only [Option.isSome_some, if_true]
   omega
theorem goFields_length (p : Nat → Bool) (s : ByteArray) : (Lib.goFieldsP p s).length ≤ s.size := by
 have h := spans_count p s s.size 0 none []
 unfold Lib.goFieldsP Lib.spansOfP Lib.closeSpans
 rw [List.length_map]
 simp only [List.length_nil, Option.isSome_none, Bool.false_eq_true, if_false] at h
 split
 ·rename_i a ha
  rw [ha] at h
  simp only [Option.isSome_some, if_true] at h
  rw [List.length_append, List.length_singleton]; omega
 ·rename_i ha
  rw [ha] at h
  simp only [Option.isSome_none, Bool.false_eq_true, if_false] at h
  omega
theorem rdB_get (xs : List ByteArray) (i : Nat) (h : i < xs.length) : rdOf ByteArray.empty xs (i : Int) = xs[i] := by
 simp [rdOf, List.getD_eq_getElem?_getD, h]
theorem readTerm_l0 (l : List S90) (hs : sigF l = 0) (s : ByteArray) (ws : List ByteArray) (hw : ws.length ≤ 1048576) : ∀ (d i : Nat) (out : List Int), i + d = ws.length → out.length ≤ i →
  Ev (fun k => impl_readTerm.l0 k s out ws (ws.length : Int) (i : Int) l) (match readW (fdL l) ((ws.drop i).map (·.data.toList)) with | some t => finP l s (out ++ t) | none => ([], false)) := by
 have hr := right_of l hs
 have hl := hr.len
 intro d
 induction d with
 | zero =>
  intro i out hi ho
  refine ev_succ ?_
  simp only [impl_readTerm.l0]
  rw [List.drop_eq_nil_of_le (by omega)]
  simp only [List.map_nil, readW, List.append_nil]
  unfold finP
  refine ev_neg (by omega) (ev_bind (TermFault_impl l out (by omega)) (ev_ite (fun h0 => ?_) (fun h0 => ev_some _)))
  have hR := rightT_of h0
  exact ev_bind (textAt_ev l hr out hR.len.2 hR.nodes out.length 0 (by omega) (by have := hR.len; omega) ⟨_, hR.whole⟩) (ev_ite (fun _ => ev_some _) (fun _ => ev_some _))
 | succ d ih =>
  intro i out hi ho
  have hil : i < ws.length := by omega
  have hg := rdB_get ws i hil
  rw [List.drop_eq_getElem_cons hil, List.map_cons, readW]
  generalize hwi : ws[i] = w at *
  have hz := Lib.size_eq w
  -- behind the node
  have hnext : ∀ n : Int, n = nodeW (fdL l) w.data.toList → Ev (fun k => (some (out ++ [n] : List Int)).bind fun y => if 0 ≤ (wrap64 ((y.length : Int) - 1)) then (if (wrap64 ((y.length : Int) - 1)) < (y.length : Int) then (if (rd y (wrap64 ((y.length : Int) - 1))) = (-1) then (if w.toList = ([65] : List UInt8) then (impl_readTerm.l0 k s y ws (ws.length : Int) (wrap64 ((i : Int) + 1)) l) else (some (([] : List Int), false))) else (impl_readTerm.l0 k s y ws (ws.length : Int) (wrap64 ((i : Int) + 1)) l)) else (none)) else (none))
    (match (if nodeW (fdL l) w.data.toList = -1 ∧ w.data.toList ≠ [65] then none else (readW (fdL l) ((ws.drop (i + 1)).map (·.data.toList))).map (fun ns => nodeW (fdL l) w.data.toList :: ns)) with | some t => finP l s (out ++ t) | none => ([], false)) := by
   intro n hn
   have hlen : ((out ++ [n]).length : Int) = (out.length : Int) + 1 := by rw [List.length_append, List.length_singleton]; omega
   have hw1 : wrap64 (((out ++ [n]).length : Int) - 1) = (out.length : Int) := by rw [hlen, wrap_id (by omega) (by omega)]; omega
   have hlast : rd (out ++ [n]) (out.length : Int) = n := by rw [rd_get _ _ (by rw [List.length_append, List.length_singleton]; omega)]; simp
   simp only [Option.bind_some, hw1, hlast]
   rw [wrap_up (by omega)]
   have hih := ih (i + 1) (out ++ [n]) (by omega) (by rw [List.length_append, List.length_singleton]; omega)
   have hcont : ¬ (nodeW (fdL l) w.data.toList = -1 ∧ w.data.toList ≠ [65]) → Ev (fun k => impl_readTerm.l0 k s (out ++ [n]) ws (ws.length : Int) ((i + 1 : Nat) : Int) l)
     (match (if nodeW (fdL l) w.data.toList = -1 ∧ w.data.toList ≠ [65] then none else (readW (fdL l) ((ws.drop (i + 1)).map (·.data.toList))).map (fun ns => nodeW (fdL l) w.data.toList :: ns)) with | some t => finP l s (out ++ t) | none => ([], false)) := by
    intro hno
    rw [if_neg hno]
    refine ev_to hih ?_
    cases readW (fdL l) ((ws.drop (i + 1)).map (·.data.toList)) with
    | none => rfl
    | some t => simp [hn]
   refine ev_pos (by omega) (ev_pos (by omega) ?_)
   by_cases h1 : n = -1
   ·refine ev_pos h1 ?_
    by_cases h2 : w.toList = ([65] : List UInt8)
    ·exact ev_pos h2 (hcont (fun h => h.2 (by rw [← Lib.toList_data]; exact h2)))
    ·refine ev_neg h2 (ev_to (ev_some _) ?_)
     rw [if_pos ⟨by rw [← hn]; exact h1, fun h => h2 (by rw [Lib.toList_data]; exact h)⟩]
   ·exact ev_neg h1 (hcont (fun h => h1 (by rw [hn]; exact h.1)))
  have hj1 : ∀ q : Bool, (q = true → ∃ b, w.data.toList = [b] ∧ capB b = true) → (q = false → nodeW (fdL l) w.data.toList = fdL l w.data.toList) → Ev (fun k => impl_readTerm.j1 k s out w ws (ws.length : Int) (i : Int) q l)
    (match (if nodeW (fdL l) w.data.toList = -1 ∧ w.data.toList ≠ [65] then none else (readW (fdL l) ((ws.drop (i + 1)).map (·.data.toList))).map (fun ns => nodeW (fdL l) w.data.toList :: ns)) with | some t => finP l s (out ++ t) | none => ([], false)) := by
   intro q hq1 hq2
   refine ev_succ ?_
   simp only [impl_readTerm.j1]
   cases q with
   | true =>
    obtain ⟨b, hb, hc⟩ := hq1 rfl
    have hc' := of_decide_eq_true hc
    have hbt : bt w 0 = (b.toNat : Int) := by
     have := bt_get w 0 (by rw [hb]; simp)
     simpa [hb] using this
    have hsz : w.size = 1 := by rw [hz, hb]; rfl
    refine ev_pos rfl (ev_pos (by omega) (ev_pos (by omega) ?_))
    rw [hbt, show ((b.toNat : Int) - 65) % 256 = (b.toNat : Int) - 65 by omega]
    refine hnext _ ?_
    rw [hb]
    show _ = (if capB b = true then _ else _)
    rw [if_pos hc]
   | false =>
    have hf := symbolIndex_ev l (by omega) w
    rw [Lib.toList_data] at hf
    exact ev_neg (by simp) (ev_bind hf (ev_pos (by omega) (hnext _ (hq2 rfl).symm)))
  refine ev_succ ?_
  simp only [impl_readTerm.l0]
  rw [hg]
  refine ev_pos (by omega) (ev_pos (by omega) (ev_pos (by omega) ?_))
  by_cases h1 : (w.size : Int) = 1
  ·refine ev_pos h1 (ev_pos (by omega) ?_)
   obtain ⟨b, hb⟩ : ∃ b, w.data.toList = [b] := by
    cases hc : w.data.toList with
    | nil => rw [hc, List.length_nil] at hz; omega
    | cons b r =>
     cases r with
     | nil => exact ⟨b, rfl⟩
     | cons c r => rw [hc] at hz; simp at hz; omega
   have hbt : bt w 0 = (b.toNat : Int) := by
    have := bt_get w 0 (by rw [hb]; simp)
    simpa [hb] using this
   rw [hbt]
   have hno : ¬ capB b = true → nodeW (fdL l) w.data.toList = fdL l w.data.toList := by
    intro hc
    rw [hb]
    show (if capB b = true then _ else _) = _
    rw [if_neg hc]
   by_cases h65 : ((b.toNat : Int)) ≥ 65
   ·refine ev_pos h65 (hj1 _ (fun h => ⟨b, hb, decide_eq_true (by have := of_decide_eq_true h; omega)⟩) (fun h => hno (fun hc => by have h1 := of_decide_eq_true hc; have h2 := of_decide_eq_false h; omega)))
   ·exact ev_neg h65 (hj1 false (fun h => by cases h) (fun _ => hno (fun hc => by have h1 := of_decide_eq_true hc; omega)))
  ·refine ev_neg h1 (hj1 false (fun h => by cases h) (fun _ => ?_))
   unfold nodeW
   split
   ·rename_i b hb
    rw [hb] at hz; simp at hz; omega
   ·rfl
theorem readTerm_ev (l : List S90) (hs : sigF l = 0) (s : ByteArray) (hz : s.size ≤ 1048576) : Ev (fun k => impl_readTerm.f k l s) (readP l s) := by
 unfold impl_readTerm.f readP wordsP
 rw [← sepR_N]
 refine ev_bindq (a := Lib.goFieldsP sepR s) ?_ ?_
 ·unfold strings_FieldsFunc_impl_readTerm_1.f
  exact if_pos (by omega)
 have hlen := goFields_length sepR s
 have := readTerm_l0 l hs s (Lib.goFieldsP sepR s) (by omega) (Lib.goFieldsP sepR s).length 0 [] (by omega) (by simp)
 rw [List.drop_zero] at this
 refine ev_to this ?_
 cases readW (fdL l) ((Lib.goFieldsP sepR s).map (·.data.toList)) <;> rfl
theorem read_text {l : List S90} {t : List Int} (h : termF l t = 0) {s : ByteArray} (hs : (txtA l t 0).toList = s.toList) : readQ l s = t ∧ readP l s = (t, true) := by
 have hR := rightT_of h
 have hsg := sig_of h
 have hr := hR.sig
 obtain ⟨t1, t2, tn, tw⟩ := right_parts h
 have he : txtA l t 0 = s := bext (by rw [← Lib.toList_data, ← Lib.toList_data]; exact hs)
 have hsz := txtA_size hr hR.nodes t2 (a := 0) (by omega) hR.whole
 have htx : txtN (arL l) (nameL l) t t.length 0 = s := by rw [← he]; rfl
 obtain ⟨r1, r2⟩ := text_read (fd := fdL l) (nm := nameL l) (fun n hn => by unfold arL; rw [if_pos hn]) tw (fun n hn => node_word hr (tn n hn)) t.length (Nat.le_refl _)
 rw [htx] at r1 r2
 rw [he] at hsz
 constructor
 ·unfold readQ
  rw [if_neg (by omega), r1]
  simp only
  rw [if_pos (by rw [← termG_of hsg]; exact h), if_pos hs]
 ·unfold readP wordsP
  rw [r2]
  show finP l s t = _
  unfold finP
  rw [if_pos h, if_pos hs]
theorem read_cases (l : List S90) (hs : sigF l = 0) (s : ByteArray) : (∃ t, termF l t = 0 ∧ (txtA l t 0).toList = s.toList ∧ readQ l s = t ∧ readP l s = (t, true)) ∨ (readQ l s = [] ∧ readP l s = ([], false) ∧ ∀ t, termF l t = 0 → (txtA l t 0).toList ≠ s.toList) := by
 by_cases h : ∃ t, termF l t = 0 ∧ (txtA l t 0).toList = s.toList
 ·obtain ⟨t, h1, h2⟩ := h
  obtain ⟨r1, r2⟩ := read_text h1 h2
  exact .inl ⟨t, h1, h2, r1, r2⟩
 ·have hno : ∀ t, termF l t = 0 → (txtA l t 0).toList ≠ s.toList := fun t h1 h2 => h ⟨t, h1, h2⟩
  refine .inr ⟨?_, ?_, hno⟩
  ·unfold readQ
   split
   ·rfl
   ·split
    ·rename_i t _
     by_cases h0 : termG l t = 0
     ·rw [if_pos h0, if_neg (hno t (by rw [termG_of hs]; exact h0))]
     ·rw [if_neg h0]
    ·rfl
  ·unfold readP
   split
   ·rename_i t _
    unfold finP
    by_cases h0 : termF l t = 0
    ·rw [if_pos h0, if_neg (hno t h0)]
    ·rw [if_neg h0]
   ·rfl
def rtR (l : List S90) (s : ByteArray) : Int × List Int := if sigF l = 0 then (if (readP l s).2 = true then (0, (readP l s).1) else (5, [])) else (sigF l, [])
theorem rtR_length (l : List S90) (s : ByteArray) : (rtR l s).2.length ≤ 1000 := by
 unfold rtR
 by_cases hs : sigF l = 0
 ·rw [if_pos hs]
  rcases read_cases l hs s with ⟨t, h1, _, _, h4⟩ | ⟨_, h4, _⟩
  ·rw [h4]
   have := (rightT_of h1).len
   simp only [if_true]; omega
  ·rw [h4]; simp
 ·rw [if_neg hs]; simp
theorem ReadTerm_impl (l : List S90) (s : ByteArray) (hz : s.size ≤ 1048576) : Ev (fun k => impl_ReadTerm.f k l s) (rtR l s) := by
 unfold impl_ReadTerm.f rtR
 exact ev_bind (SignatureFault_impl l) (ev_ite (fun h => ev_bind (readTerm_ev l h s hz) (ev_ite (fun _ => ev_some _) (fun _ => ev_some _))) (fun h => ev_some _))
theorem ReadTerm_spec (l : List S90) (s : ByteArray) (hz : s.size ≤ 1048576) : Ev (fun k => spec_ReadTerm.f k l s) (rtR l s) := by
 unfold spec_ReadTerm.f rtR
 refine ev_bind (SignatureFault_spec l) (ev_ite (fun h => ev_bind (l4Read_ev l h s) ?_) (fun h => ev_some _))
 rcases read_cases l h s with ⟨t, h1, _, h3, h4⟩ | ⟨h3, h4, _⟩
 ·have := (rightT_of h1).len
  rw [h3, h4]
  exact ev_neg (by omega) (ev_to (ev_some _) (by simp))
 ·rw [h3, h4]
  exact ev_pos (by simp) (ev_to (ev_some _) (by simp))
end Go.Proofs.YtbdpnkpienpnaaaGreatDoor.Pure
set_option linter.unusedVariables false
namespace Go.Proofs.YtbdpnkpienpnaaaGreatDoor.Pure
open Go.RowKit Go.Proofs.YtbdpnkpienpnaaaGreatDoor.P Go.Proofs.YtbdpnkpienpnaaaGreatDoorW.PrintWords Go.Proofs.YtbdpnkpienpnaaaGreatDoorW.PrintLast Go.Proofs.YtbdpnkpienpnaaaGreatDoor.Base
def SmallT (t : List Int) : Prop := t.length ≤ 24 ∧ ∀ i, i < t.length → -12 ≤ rd t (i : Int) ∧ rd t (i : Int) ≤ 6
theorem smallT_of {l : List S90} {t : List Int} (h : RightT l t) : SmallT t := ⟨h.len.2, fun i hi => by
 have hn := h.nodes i hi
 have := h.sig.len
 unfold nodeB at hn
 rw [Bool.or_eq_true] at hn
 rcases hn with hn | hn
 ·have := symB_true hn; omega
 ·have := of_decide_eq_true hn; omega⟩
theorem termG_right {l : List S90} (hr : Right l) {t : List Int} (h : termG l t = 0) : RightT l t := by
 unfold termG at h
 by_cases h1 : t.length < 1 ∨ t.length > 24
 ·rw [if_pos h1] at h; cases h
 rw [if_neg h1] at h
 by_cases h2 : badN l t = true
 ·rw [if_pos h2] at h; cases h
 rw [if_neg h2] at h
 by_cases h3 : endN (arL l) t 1 0 = some t.length
 ·exact ⟨hr, by omega, nodes_of h2, h3⟩
 ·rw [if_neg h3] at h; cases h
end Go.Proofs.YtbdpnkpienpnaaaGreatDoor.Pure
set_option linter.unusedVariables false
namespace Go.Proofs.YtbdpnkpienpnaaaGreatDoor.Pure
open Go.RowKit Go.Proofs.YtbdpnkpienpnaaaGreatDoorW.PrintWords Go.Proofs.YtbdpnkpienpnaaaGreatDoor.Base
def putL : List Int → Int → List Int
 | [], n => [n]
 | x :: xs, n => if n ≤ x then (if x = n then x :: xs else n :: x :: xs) else x :: putL xs n
theorem mem_putL (n y : Int) : ∀ l : List Int, y ∈ putL l n ↔ y = n ∨ y ∈ l
 | [] => by simp [putL]
 | x :: xs => by
  unfold putL
  by_cases h : n ≤ x
  ·rw [if_pos h]
   by_cases e : x = n
   ·rw [if_pos e]; subst e; simp
   ·rw [if_neg e]; simp
  ·rw [if_neg h, List.mem_cons, mem_putL n y xs, List.mem_cons]
   constructor
   ·rintro (h | h | h)
    ·exact .inr (.inl h)
    ·exact .inl h
    ·exact .inr (.inr h)
   ·rintro (h | h | h)
    ·exact .inr (.inl h)
    ·exact .inl h
    ·exact .inr (.inr h)
theorem rise_putL (n : Int) : ∀ l : List Int, l.Pairwise (· < ·) → (putL l n).Pairwise (· < ·)
 | [], _ => by simp [putL]
 | x :: xs, h => by
  unfold putL
  rw [List.pairwise_cons] at h
  by_cases hn : n ≤ x
  ·rw [if_pos hn]
   by_cases e : x = n
   ·rw [if_pos e, List.pairwise_cons]; exact h
   ·rw [if_neg e, List.pairwise_cons, List.pairwise_cons]
    refine ⟨fun y hy => ?_, h⟩
    rcases List.mem_cons.1 hy with rfl | hy
    ·omega
    ·have := h.1 y hy; omega
  ·rw [if_neg hn, List.pairwise_cons]
   refine ⟨fun y hy => ?_, rise_putL n xs h.2⟩
   rcases (mem_putL n y xs).1 hy with rfl | hy
   ·omega
   ·exact h.1 y hy
theorem putL_length (n : Int) : ∀ l : List Int, (putL l n).length ≤ l.length + 1
 | [] => by simp [putL]
 | x :: xs => by
  unfold putL
  split
  ·split
   ·simp
   ·simp
  ·have := putL_length n xs
   simp only [List.length_cons]; omega
theorem rise_ext : ∀ a b : List Int, a.Pairwise (· < ·) → b.Pairwise (· < ·) → (∀ x, x ∈ a ↔ x ∈ b) → a = b
 | [], [], _, _, _ => rfl
 | [], y :: ys, _, _, h => by have := (h y).2 (by simp); simp at this
 | x :: xs, [], _, _, h => by have := (h x).1 (by simp); simp at this
 | x :: xs, y :: ys, ha, hb, h => by
  rw [List.pairwise_cons] at ha hb
  have e : x = y := by
   have h1 := (h x).1 (by simp)
   have h2 := (h y).2 (by simp)
   rcases List.mem_cons.1 h1 with h1 | h1
   ·exact h1
   rcases List.mem_cons.1 h2 with h2 | h2
   ·exact h2.symm
   have := ha.1 y h2
   have := hb.1 x h1
   omega
  subst e
  congr 1
  refine rise_ext xs ys ha.2 hb.2 (fun z => ?_)
  constructor
  ·intro hz
   have h1 := (h z).1 (by simp [hz])
   rcases List.mem_cons.1 h1 with h1 | h1
   ·have := ha.1 z hz; omega
   ·exact h1
  ·intro hz
   have h1 := (h z).2 (by simp [hz])
   rcases List.mem_cons.1 h1 with h1 | h1
   ·have := hb.1 z hz; omega
   ·exact h1
theorem compactUpTo_rise (d : Array Int) (hs : ∀ i j, i < j → j < d.size → d[i]! ≤ d[j]!) : ∀ m, m ≤ d.size → (Lib.compactUpTo d m).Pairwise (· < ·) ∧ ∀ x, x ∈ Lib.compactUpTo d m ↔ ∃ j, j < m ∧ d[j]! = x := by
 intro m
 induction m with
 | zero => intro _; simp [Lib.compactUpTo]
 | succ m ih =>
  intro hm
  obtain ⟨h1, h2⟩ := ih (by omega)
  rw [Lib.compactUpTo_succ]
  by_cases hk : m = 0 ∨ d[m]! ≠ d[m - 1]!
  ·have hkp : Lib.keeps d m = true := by
    rcases hk with rfl | hk
    ·exact Lib.keeps_lt_one d 0 (by omega)
    ·exact Lib.keeps_pos hk
   rw [if_pos hkp]
   refine ⟨List.pairwise_append.2 ⟨h1, by simp, fun a ha b hb => ?_⟩, fun x => ?_⟩
   ·rw [List.mem_singleton] at hb
    subst hb
    obtain ⟨j, hj, rfl⟩ := (h2 a).1 ha
    rcases hk with rfl | hk
    ·omega
    ·have e1 := hs (m - 1) m (by omega) (by omega)
     by_cases hjm : j = m - 1
     ·subst hjm; omega
     ·have e2 := hs j (m - 1) (by omega) (by omega); omega
   ·rw [List.mem_append, List.mem_singleton, h2]
    constructor
    ·rintro (⟨j, hj, e⟩ | e)
     ·exact ⟨j, by omega, e⟩
     ·exact ⟨m, by omega, e.symm⟩
    ·rintro ⟨j, hj, e⟩
     by_cases hjm : j = m
     ·subst hjm; exact .inr e.symm
     ·exact .inl ⟨j, by omega, e⟩
  ·have hm0 : 0 < m := by
    rcases Nat.eq_zero_or_pos m with h | h
    ·exact absurd (.inl h) hk
    ·exact h
   have he : d[m]! = d[m - 1]! := by
    by_cases h : d[m]! = d[m - 1]!
    ·exact h
    ·exact absurd (.inr h) hk
   rw [Lib.keeps_neg hm0 he]
   simp only [Bool.false_eq_true, if_false, List.append_nil]
   refine ⟨h1, fun x => ?_⟩
   rw [h2]
   constructor
   ·rintro ⟨j, hj, e⟩; exact ⟨j, by omega, e⟩
   ·rintro ⟨j, hj, e⟩
    by_cases hjm : j = m
    ·subst hjm; exact ⟨j - 1, by omega, by rw [← he]; exact e⟩
    ·exact ⟨j, by omega, e⟩
theorem compact_rise (zs : List Int) (hs : zs.Pairwise (· ≤ ·)) : (Lib.compact zs).Pairwise (· < ·) ∧ ∀ x, x ∈ Lib.compact zs ↔ x ∈ zs := by
 have hg : ∀ i (hi : i < zs.length), zs.toArray[i]! = zs[i] := fun i hi => by simp [getElem!_pos, hi]
 have h := compactUpTo_rise zs.toArray (fun i j hij hj => by
  have hj' : j < zs.length := by simpa using hj
  rw [hg i (by omega), hg j hj']
  exact List.pairwise_iff_getElem.1 hs i j (by omega) hj' hij) zs.length (by simp)
 refine ⟨h.1, fun x => ?_⟩
 rw [Lib.compact, h.2, List.mem_iff_getElem]
 constructor
 ·rintro ⟨j, hj, e⟩; exact ⟨j, hj, by rw [← hg j hj]; exact e⟩
 ·rintro ⟨j, hj, e⟩; exact ⟨j, hj, by rw [hg j hj]; exact e⟩
theorem sort_rise (zs : List Int) : (zs.mergeSort fun x y => decide (x ≤ y)).Pairwise (· ≤ ·) := by
 have h := List.pairwise_mergeSort (le := fun x y : Int => decide (x ≤ y)) (fun a b c h1 h2 => by simp at *; omega) (fun a b => by simp; omega) zs
 exact h.imp (fun h => of_decide_eq_true h)
theorem sorted_eq (zs r : List Int) (h1 : r.Pairwise (· < ·)) (h2 : ∀ x, x ∈ r ↔ x ∈ zs) : Lib.compact (zs.mergeSort fun x y => decide (x ≤ y)) = r := by
 obtain ⟨h3, h4⟩ := compact_rise _ (sort_rise zs)
 refine rise_ext _ _ h3 h1 (fun x => ?_)
 rw [h4, h2, List.mem_mergeSort]
def varsL (t : List Int) : List Int := t.foldl (fun a n => if n < 0 then putL a (-1 - n) else a) []
def varN (n : Int) : List Int := if n < 0 then [-1 - n] else []
theorem foldl_put (t : List Int) : ∀ a : List Int, a.Pairwise (· < ·) → (t.foldl (fun a n => if n < 0 then putL a (-1 - n) else a) a).Pairwise (· < ·) ∧ ∀ x, x ∈ t.foldl (fun a n => if n < 0 then putL a (-1 - n) else a) a ↔ x ∈ a ∨ x ∈ t.flatMap varN := by
 induction t with
 | nil => intro a ha; exact ⟨ha, fun x => by simp⟩
 | cons n t ih =>
  intro a ha
  rw [List.foldl_cons]
  by_cases hn : n < 0
  ·obtain ⟨h1, h2⟩ := ih (putL a (-1 - n)) (rise_putL _ _ ha)
   simp only [if_pos hn]
   refine ⟨h1, fun x => ?_⟩
   rw [h2, mem_putL, List.flatMap_cons, List.mem_append, varN, if_pos hn, List.mem_singleton]
   constructor
   ·rintro ((h | h) | h)
    ·exact .inr (.inl h)
    ·exact .inl h
    ·exact .inr (.inr h)
   ·rintro (h | h | h)
    ·exact .inl (.inr h)
    ·exact .inl (.inl h)
    ·exact .inr h
  ·obtain ⟨h1, h2⟩ := ih a ha
   simp only [if_neg hn]
   refine ⟨h1, fun x => ?_⟩
   rw [h2, List.flatMap_cons, List.mem_append, varN, if_neg hn]
   simp
theorem varsL_rise (t : List Int) : (varsL t).Pairwise (· < ·) := (foldl_put t [] List.Pairwise.nil).1
theorem mem_varsL (t : List Int) (x : Int) : x ∈ varsL t ↔ x ∈ t.flatMap varN := by
 have := (foldl_put t [] List.Pairwise.nil).2 x
 unfold varsL
 rw [this]
 simp
theorem mem_varN (t : List Int) (x : Int) : x ∈ t.flatMap varN ↔ ∃ n ∈ t, n < 0 ∧ x = -1 - n := by
 rw [List.mem_flatMap]
 constructor
 ·rintro ⟨n, hn, hx⟩
  unfold varN at hx
  by_cases h : n < 0
  ·rw [if_pos h, List.mem_singleton] at hx; exact ⟨n, hn, h, hx⟩
  ·rw [if_neg h] at hx; simp at hx
 ·rintro ⟨n, hn, h, hx⟩
  refine ⟨n, hn, ?_⟩
  unfold varN
  rw [if_pos h, List.mem_singleton]; exact hx
theorem varsL_sorted (t : List Int) : Lib.compact ((t.flatMap varN).mergeSort fun x y => decide (x ≤ y)) = varsL t :=
 sorted_eq _ _ (varsL_rise t) (mem_varsL t)
theorem flatVar_length (t : List Int) : (t.flatMap varN).length ≤ t.length := by
 induction t with
 | nil => simp
 | cons n t ih =>
  rw [List.flatMap_cons, List.length_append, List.length_cons]
  unfold varN
  split
  ·simp only [List.length_singleton]; unfold varN at ih; omega
  ·simp only [List.length_nil]; unfold varN at ih; omega
theorem varsL_length (t : List Int) : (varsL t).length ≤ t.length := by
 have h : ∀ (t a : List Int), (t.foldl (fun a n => if n < 0 then putL a (-1 - n) else a) a).length ≤ a.length + t.length := by
  intro t
  induction t with
  | nil => intro a; simp
  | cons n t ih =>
   intro a
   rw [List.foldl_cons]
   refine Nat.le_trans (ih _) ?_
   by_cases hn : n < 0
   ·have := putL_length (-1 - n) a
    simp only [if_pos hn, List.length_cons]; omega
   ·simp only [if_neg hn, List.length_cons]; omega
 have := h t []
 unfold varsL
 simpa using this
end Go.Proofs.YtbdpnkpienpnaaaGreatDoor.Pure
set_option linter.unusedVariables false
namespace Go.Proofs.YtbdpnkpienpnaaaGreatDoor.Pure
open Go.RowKit Go.Proofs.YtbdpnkpienpnaaaGreatDoor.P Go.Proofs.YtbdpnkpienpnaaaGreatDoorW.PrintWords Go.Proofs.YtbdpnkpienpnaaaGreatDoorW.PrintLast Go.Proofs.YtbdpnkpienpnaaaGreatDoor.Base
theorem rdV_get (xs : List (List Int)) (i : Nat) (h : i < xs.length) : rd_L6 xs (i : Int) = xs[i] := by
 unfold rd_L6; exact getD_get xs i _ h
theorem varsOf_l1 (ts : List (List Int)) (n : Nat) (i : Nat) (hn : ts.length ≤ 2) (t : List Int) (hs : SmallT t) (r : List Int) : ∀ (d j : Nat) (a : List Int), j + d = t.length → a.length ≤ 24 * i + j →  i < 2 →
  Ev (fun k => impl_varsOf.l0 k (a ++ (t.drop j).flatMap varN) ts (n : Int) ((i + 1 : Nat) : Int)) r → Ev (fun k => impl_varsOf.l1 k a ts (n : Int) (i : Int) t (t.length : Int) (j : Int)) r := by
 have hl := hs.1
 intro d
 induction d with
 | zero =>
  intro j a hj ha hi hr
  refine ev_succ ?_
  simp only [impl_varsOf.l1]
  rw [wrap_up (i := i) (by omega)]
  rw [List.drop_eq_nil_of_le (by omega), List.flatMap_nil, List.append_nil] at hr
  exact ev_neg (by omega) hr
 | succ d ih =>
  intro j a hj ha hi hr
  have hjl : j < t.length := by omega
  have hv := hs.2 j hjl
  refine ev_succ ?_
  simp only [impl_varsOf.l1]
  rw [rd_get t j hjl] at *
  rw [List.drop_eq_getElem_cons hjl, List.flatMap_cons] at hr
  refine ev_pos (by omega) (ev_pos (by omega) (ev_pos (by omega) ?_))
  rw [wrap_up (i := j) (by omega)]
  by_cases hneg : t[j] < 0
  ·rw [wrap_id (by omega) (by omega)]
   unfold varN at hr
   rw [if_pos hneg, ← List.append_assoc] at hr
   exact ev_pos hneg (ev_pos (by omega) (ih (j + 1) _ (by omega) (by rw [List.length_append, List.length_singleton]; omega) hi hr))
  ·unfold varN at hr
   rw [if_neg hneg, List.nil_append] at hr
   exact ev_neg hneg (ih (j + 1) _ (by omega) (by omega) hi hr)
theorem varsOf_l0 (ts : List (List Int)) (hn : ts.length ≤ 2) (hs : ∀ t ∈ ts, SmallT t) : ∀ (d i : Nat) (a : List Int), i + d = ts.length → a.length ≤ 24 * i →
  Ev (fun k => impl_varsOf.l0 k a ts (ts.length : Int) (i : Int)) (Lib.compact ((a ++ (ts.drop i).flatMap (fun t => t.flatMap varN)).mergeSort fun x y => decide (x ≤ y))) := by
 intro d
 induction d with
 | zero =>
  intro i a hi ha
  refine ev_succ ?_
  simp only [impl_varsOf.l0]
  rw [List.drop_eq_nil_of_le (by omega), List.flatMap_nil, List.append_nil]
  have hsl : (a.mergeSort fun x y => decide (x ≤ y)).length = a.length := List.length_mergeSort a
  refine ev_neg (by omega) (ev_bindq (a := a.mergeSort fun x y => decide (x ≤ y)) ?_ (ev_bindq (a := Lib.compact (a.mergeSort fun x y => decide (x ≤ y))) ?_ (ev_some _)))
  ·unfold slices_Sort_int64_int64.f
   exact if_pos (by omega)
  ·unfold slices_Compact_int64_int64.f
   exact if_pos ⟨by omega, Lib.compact_length_le _⟩
 | succ d ih =>
  intro i a hi ha
  have hil : i < ts.length := by omega
  have hst := hs _ (List.getElem_mem hil)
  refine ev_succ ?_
  simp only [impl_varsOf.l0]
  rw [rdV_get ts i hil]
  refine ev_pos (by omega) (ev_pos (by omega) (ev_pos (by omega) ?_))
  refine varsOf_l1 ts ts.length i hn ts[i] hst _ ts[i].length 0 a (by omega) (by omega) (by omega) ?_
  rw [List.drop_zero]
  have hfl := flatVar_length ts[i]
  have hl := hst.1
  refine ev_to (ih (i + 1) _ (by omega) (by rw [List.length_append]; omega)) ?_
  rw [List.drop_eq_getElem_cons hil, List.flatMap_cons, List.append_assoc]
theorem varsOf_ev (ts : List (List Int)) (hn : ts.length ≤ 2) (hs : ∀ t ∈ ts, SmallT t) : Ev (fun k => impl_varsOf.f k ts) (Lib.compact ((ts.flatMap (fun t => t.flatMap varN)).mergeSort fun x y => decide (x ≤ y))) := by
 unfold impl_varsOf.f
 exact varsOf_l0 ts hn hs ts.length 0 [] (by omega) (by simp)
theorem first_ev2 (a b : Int) : Ev (fun k => impl_firstCode.f k [a, b]) (if a = 0 then b else a) := by
 unfold impl_firstCode.f cmp_Or_int64.f
 refine ev_bind (a := if a = 0 then b else a) ?_ (ev_some _)
 refine ev_succ ?_
 simp only [cmp_Or_int64.l0]
 refine ev_pos (by simp) (ev_pos (by omega) (ev_pos (by simp) ?_))
 have e0 : rd [a, b] 0 = a := rfl
 rw [e0]
 refine ev_ite (fun h => ?_) (fun h => ev_some _)
 refine ev_succ ?_
 have e1 : wrap64 (0 + 1) = 1 := by rw [wrap_id (by omega) (by omega)]; rfl
 have e2 : rd [a, b] 1 = b := rfl
 simp only [cmp_Or_int64.l0, e1, e2]
 refine ev_pos (by simp) (ev_pos (by omega) (ev_pos (by simp) ?_))
 by_cases hb : b = 0
 ·refine ev_pos hb (ev_succ ?_)
  have e3 : wrap64 (1 + 1) = 2 := by rw [wrap_id (by omega) (by omega)]; rfl
  simp only [cmp_Or_int64.l0, e3]
  exact ev_neg (by simp) (ev_to (ev_some _) hb.symm)
 ·exact ev_neg hb (ev_some _)
def highN (t : List Int) : Bool := (firstN (fun j => decide (rd t (j : Int) < -6)) t.length 0).isSome
theorem highN_iff (t : List Int) : highN t = true ↔ ∃ n ∈ t, n < -6 := by
 unfold highN
 constructor
 ·intro h
  cases hf : firstN (fun j => decide (rd t (j : Int) < -6)) t.length 0 with
  | none => rw [hf] at h; cases h
  | some j =>
   obtain ⟨_, hj, hp, _⟩ := firstN_some _ _ _ hf
   have hj' : j < t.length := by omega
   have hp := of_decide_eq_true hp
   rw [rd_get t j hj'] at hp
   exact ⟨t[j], List.getElem_mem _, hp⟩
 ·rintro ⟨n, hn, hlt⟩
  obtain ⟨j, hj, rfl⟩ := List.mem_iff_getElem.1 hn
  cases hf : firstN (fun j => decide (rd t (j : Int) < -6)) t.length 0 with
  | some j => rfl
  | none =>
   have := (firstN_none _ 0).1 hf j (by omega) (by omega)
   rw [rd_get t j hj] at this
   exact absurd hlt (of_decide_eq_false this)
theorem l4Low_ev (t : List Int) (ht : t.length ≤ 1048576) : Ev (fun k => spec_l4Low.f k t) (!highN t) := by
 unfold spec_l4Low.f
 have h := loop_scan t.length (fun j => if decide (rd t (j : Int) < -6) = true then some false else none) true (fun k i => spec_l4Low.l0 k t i)
  (by simp only [spec_l4Low.l0]; exact ev_neg (by omega) (ev_some _))
  (fun i hi r hr => by
   simp only [spec_l4Low.l0]
   refine ev_pos (by omega) (ev_pos (by omega) ?_)
   rw [wrap_up (by omega)]
   by_cases h : rd t (i : Int) < -6
   ·exact ev_pos h (ev_to (ev_some _) (by simp [h]))
   ·exact ev_neg h (ev_to hr (by simp [h])))
  t.length 0 (by omega)
 rw [scanN_first (fun j => decide (rd t (j : Int) < -6)) (fun _ => false) true] at h
 refine ev_to h ?_
 unfold highN
 cases firstN (fun j => decide (rd t (j : Int) < -6)) t.length 0 <;> rfl
def equG (l : List S90) (a b : List Int) : Int :=
 if termG l a = 0 then (if termG l b = 0 then (if highN a = true ∨ highN b = true then 3 else 0) else termG l b) else termG l a
def equF (l : List S90) (a b : List Int) : Int := if sigF l = 0 then equG l a b else sigF l
theorem l4Fault_ev (l : List S90) (hr : Right l) (a b : List Int) (ha : a.length ≤ 1048576) (hb : b.length ≤ 1048576) : Ev (fun k => spec_l4Fault.f k [(⟨l⟩ : S26)] [(⟨a, b⟩ : S29)]) (equG l a b) := by
 have e0 : (rd_T29 [(⟨a, b⟩ : S29)] 0).f0 = a := rfl
 have e1 : (rd_T29 [(⟨a, b⟩ : S29)] 0).f1 = b := rfl
 unfold spec_l4Fault.f equG
 simp only [e0, e1]
 refine ev_pos (by simp) (ev_bind (l3Fault_ev l hr a ha) (ev_ite (fun h1 => ev_bind (l3Fault_ev l hr b hb) (ev_ite (fun h2 => ev_bind (l4Low_ev a ha) ?_) (fun h2 => ev_some _))) (fun h1 => ev_some _)))
 have hb' := l4Low_ev b hb
 cases h3 : highN a with
 | true => exact ev_to (ev_neg (by simp) (ev_some 3)) (by simp)
 | false =>
  refine ev_pos rfl (ev_bind hb' ?_)
  cases h4 : highN b with
  | true => exact ev_to (ev_neg (by simp) (ev_some 3)) (by simp)
  | false => exact ev_to (ev_pos rfl (ev_some 0)) (by simp)
theorem EquationFault_spec (l : List S90) (a b : List Int) (ha : a.length ≤ 1048576) (hb : b.length ≤ 1048576) : Ev (fun k => spec_EquationFault.f k l a b) (equF l a b) := by
 unfold spec_EquationFault.f equF
 exact ev_bind (SignatureFault_spec l) (ev_ite (fun h => ev_bind (l4Fault_ev l (right_of l h) a b ha hb) (ev_some _)) (fun h => ev_some _))
theorem high_vars (zs : List Int) (hz : zs.length ≤ 1048576) : Ev (fun k => slices_ContainsFunc_int64_int64_impl_EquationFault_1.f k zs) (decide (∃ v ∈ zs, v ≥ 6)) := by
 unfold slices_ContainsFunc_int64_int64_impl_EquationFault_1.f slices_IndexFunc_int64_int64_impl_EquationFault_1.f
 have h := loop_scan zs.length (fun j => if decide (rd zs (j : Int) ≥ 6) = true then some (j : Int) else none) (-1) (fun k i => slices_IndexFunc_int64_int64_impl_EquationFault_1.l0 k zs (zs.length : Int) i)
  (by simp only [slices_IndexFunc_int64_int64_impl_EquationFault_1.l0]; exact ev_neg (by omega) (ev_some _))
  (fun i hi r hr => by
   simp only [slices_IndexFunc_int64_int64_impl_EquationFault_1.l0]
   refine ev_pos (by omega) (ev_pos (by omega) (ev_pos (by omega) (ev_bindq (a := decide (rd zs (i : Int) ≥ 6)) rfl ?_)))
   rw [wrap_up (by omega)]
   by_cases h : decide (rd zs (i : Int) ≥ 6) = true
   ·rw [if_pos h]; exact ev_pos h (ev_some _)
   ·rw [if_neg h]; exact ev_neg h hr)
  zs.length 0 (by omega)
 rw [scanN_first (fun j => decide (rd zs (j : Int) ≥ 6)) (fun j => (j : Int)) (-1)] at h
 refine ev_bind h (ev_to (ev_some _) ?_)
 cases hf : firstN (fun j => decide (rd zs (j : Int) ≥ 6)) zs.length 0 with
 | none =>
  have hn := (firstN_none _ 0).1 hf
  have : ¬ ∃ v ∈ zs, v ≥ 6 := by
   rintro ⟨v, hv, h6⟩
   obtain ⟨j, hj, rfl⟩ := List.mem_iff_getElem.1 hv
   have := hn j (by omega) (by omega)
   rw [rd_get zs j hj] at this
   exact absurd h6 (of_decide_eq_false this)
  simp [this]
 | some j =>
  obtain ⟨_, hj, hp, _⟩ := firstN_some _ _ _ hf
  have hj' : j < zs.length := by omega
  have hp := of_decide_eq_true hp
  rw [rd_get zs j hj'] at hp
  have : ∃ v ∈ zs, v ≥ 6 := ⟨zs[j], List.getElem_mem _, hp⟩
  simp [this]
theorem EquationFault_impl (l : List S90) (a b : List Int) (ha : a.length ≤ 1048576) (hb : b.length ≤ 1048576) : Ev (fun k => impl_EquationFault.f k l a b) (equF l a b) := by
 unfold impl_EquationFault.f equF equG
 refine ev_bind (TermFault_impl l a ha) (ev_bind (TermFault_impl l b hb) (ev_bind (first_ev2 _ _) ?_))
 unfold termF
 by_cases hs : sigF l = 0
 ·rw [if_pos hs, if_pos hs, if_pos hs]
  have hr := right_of l hs
  by_cases h1 : termG l a = 0
  ·rw [if_pos h1, if_pos h1]
   by_cases h2 : termG l b = 0
   ·rw [if_pos h2]
    have sa := smallT_of (termG_right hr h1)
    have sb := smallT_of (termG_right hr h2)
    have hv := varsOf_ev [a, b] (by simp) (fun x hx => by
     rcases List.mem_cons.1 hx with rfl | hx
     ·exact sa
     ·rw [List.mem_singleton] at hx; subst hx; exact sb)
    rw [List.flatMap_cons, List.flatMap_cons, List.flatMap_nil, List.append_nil, ← List.flatMap_append, varsL_sorted] at hv
    have hvl := varsL_length (a ++ b)
    rw [List.length_append] at hvl
    refine ev_pos h2 (ev_bind hv (ev_bind (high_vars _ (by have := sa.1; have := sb.1; omega)) ?_))
    have e : (∃ v ∈ varsL (a ++ b), v ≥ 6) ↔ (highN a = true ∨ highN b = true) := by
     rw [highN_iff, highN_iff]
     constructor
     ·rintro ⟨v, hv, h6⟩
      rw [mem_varsL, mem_varN] at hv
      obtain ⟨n, hn, _, rfl⟩ := hv
      rcases List.mem_append.1 hn with hn | hn
      ·exact .inl ⟨n, hn, by omega⟩
      ·exact .inr ⟨n, hn, by omega⟩
     ·rintro (⟨n, hn, hlt⟩ | ⟨n, hn, hlt⟩)
      ·exact ⟨-1 - n, by rw [mem_varsL, mem_varN]; exact ⟨n, List.mem_append_left _ hn, by omega, rfl⟩, by omega⟩
      ·exact ⟨-1 - n, by rw [mem_varsL, mem_varN]; exact ⟨n, List.mem_append_right _ hn, by omega, rfl⟩, by omega⟩
    by_cases h3 : ∃ v ∈ varsL (a ++ b), v ≥ 6
    ·rw [if_pos (e.1 h3)]; exact ev_pos (decide_eq_true h3) (ev_some _)
    ·rw [if_neg (fun k => h3 (e.2 k))]; exact ev_neg (by simpa using h3) (ev_some _)
   ·rw [if_neg h2]; exact ev_neg h2 (ev_some _)
  ·rw [if_neg h1, if_neg h1]; exact ev_neg h1 (ev_some _)
 ·rw [if_neg hs, if_neg hs, if_neg hs]
  exact ev_neg hs (ev_some _)
end Go.Proofs.YtbdpnkpienpnaaaGreatDoor.Pure
set_option linter.unusedVariables false
namespace Go.Proofs.YtbdpnkpienpnaaaGreatDoor.Pure
open Go.RowKit Go.Proofs.YtbdpnkpienpnaaaGreatDoor.P Go.Proofs.YtbdpnkpienpnaaaGreatDoorW.PrintWords Go.Proofs.YtbdpnkpienpnaaaGreatDoorW.PrintLast Go.Proofs.YtbdpnkpienpnaaaGreatDoorW.PrintMore Go.Proofs.YtbdpnkpienpnaaaGreatDoor.Base
def sayA (l : List S90) (a b : List Int) : ByteArray := (txtA l a 0 ++ (⟨#[61]⟩ : ByteArray)) ++ txtA l b 0
theorem equF_zero {l : List S90} {a b : List Int} (h : equF l a b = 0) : RightT l a ∧ RightT l b := by
 unfold equF at h
 by_cases hs : sigF l = 0
 ·rw [if_pos hs] at h
  unfold equG at h
  by_cases h1 : termG l a = 0
  ·rw [if_pos h1] at h
   by_cases h2 : termG l b = 0
   ·exact ⟨rightT_of (by unfold termF; rw [if_pos hs]; exact h1), rightT_of (by unfold termF; rw [if_pos hs]; exact h2)⟩
   ·rw [if_neg h2] at h; exact absurd h h2
  ·rw [if_neg h1] at h; exact absurd h h1
 ·rw [if_neg hs] at h; exact absurd h hs
theorem say_sizes {l : List S90} {a b : List Int} (ra : RightT l a) (rb : RightT l b) : (txtA l a 0).size ≤ 144 ∧ (txtA l b 0).size ≤ 144 ∧ (txtA l a 0 ++ (⟨#[61]⟩ : ByteArray)).size ≤ 145 := by
 have h1 := txtA_size ra.sig ra.nodes ra.len.2 (a := 0) (by have := ra.len; omega) ra.whole
 have h2 := txtA_size rb.sig rb.nodes rb.len.2 (a := 0) (by have := rb.len; omega) rb.whole
 refine ⟨h1, h2, ?_⟩
 rw [Lib.size_eq, app_list, List.length_append, ← Lib.size_eq]
 show (txtA l a 0).size + 1 ≤ 145
 omega
theorem equationText_ev {l : List S90} {a b : List Int} (ra : RightT l a) (rb : RightT l b) : Ev (fun k => impl_equationText.f k l a b) (sayA l a b) := by
 have la := ra.len
 have lb := rb.len
 obtain ⟨s1, s2, s3⟩ := say_sizes ra rb
 unfold impl_equationText.f sayA
 exact ev_bind (textAt_ev l ra.sig a (by omega) ra.nodes a.length 0 (by omega) (by omega) ⟨_, ra.whole⟩) (ev_pos (by omega)
  (ev_bind (textAt_ev l rb.sig b (by omega) rb.nodes b.length 0 (by omega) (by omega) ⟨_, rb.whole⟩) (ev_pos (by omega) (ev_some _))))
def sayR (l : List S90) (a b : List Int) : Int × ByteArray := if equF l a b = 0 then (0, sayA l a b) else (equF l a b, (⟨#[]⟩ : ByteArray))
theorem EquationText_impl (l : List S90) (a b : List Int) (ha : a.length ≤ 1048576) (hb : b.length ≤ 1048576) : Ev (fun k => impl_EquationText.f k l a b) (sayR l a b) := by
 unfold impl_EquationText.f sayR
 exact ev_bind (EquationFault_impl l a b ha hb) (ev_ite (fun h => ev_bind (equationText_ev (equF_zero h).1 (equF_zero h).2) (ev_some _)) (fun h => ev_some _))
def cutD (s : ByteArray) : Nat → Nat → Nat → List ByteArray
 | 0, fr, i => [s.extract fr i]
 | d + 1, fr, i => if bt s (i : Int) = 61 then s.extract fr i :: cutD s d (i + 1) (i + 1) else cutD s d fr (i + 1)
theorem l1Cut_l0 (s : ByteArray) (hs : s.size ≤ 1048576) : ∀ (d fr i : Nat) (out : List ByteArray), i + d = s.size → fr ≤ i → out.length ≤ i →
  Ev (fun k => spec_l1Cut.l0 k s 61 out (fr : Int) (i : Int)) (out ++ cutD s d fr i) := by
 intro d
 induction d with
 | zero =>
  intro fr i out hi hf ho
  refine ev_succ ?_
  simp only [spec_l1Cut.l0]
  refine ev_pos (by omega) (ev_pos (by omega) (ev_pos (by omega) (ev_pos (by omega) (ev_pos (by omega) ?_))))
  rw [wrap_up (by omega)]
  refine ev_succ ?_
  simp only [spec_l1Cut.l0]
  exact ev_neg (by omega) (ev_to (ev_some _) (by simp [cutD]))
 | succ d ih =>
  intro fr i out hi hf ho
  refine ev_succ ?_
  simp only [spec_l1Cut.l0]
  refine ev_pos (by omega) (ev_neg (by omega) (ev_pos (by omega) (ev_pos (by omega) ?_)))
  rw [wrap_up (by omega)]
  by_cases h : bt s (i : Int) = 61
  ·refine ev_pos h (ev_pos (by omega) (ev_pos (by omega) (ev_pos (by omega) ?_)))
   have := ih (i + 1) (i + 1) (out ++ [s.extract fr i]) (by omega) (by omega) (by simp; omega)
   refine ev_to this ?_
   rw [cutD, if_pos h, List.append_assoc]; rfl
  ·refine ev_neg h ?_
   have := ih fr (i + 1) out (by omega) (by omega) (by omega)
   refine ev_to this ?_
   rw [cutD, if_neg h]
theorem cutD_pos (s : ByteArray) : ∀ d fr i, 1 ≤ (cutD s d fr i).length
 | 0, fr, i => by simp [cutD]
 | d + 1, fr, i => by
  rw [cutD]
  split
  ·simp
  ·exact cutD_pos s d _ _
theorem cutD_none (s : ByteArray) : ∀ (d fr i : Nat), (∀ j, i ≤ j → j < i + d → bt s (j : Int) ≠ 61) → cutD s d fr i = [s.extract fr (i + d)]
 | 0, fr, i, _ => rfl
 | d + 1, fr, i, h => by
  rw [cutD, if_neg (h i (by omega) (by omega)), cutD_none s d fr (i + 1) (fun j h1 h2 => h j (by omega) (by omega))]
  rw [show i + 1 + d = i + (d + 1) by omega]
theorem cutD_some (s : ByteArray) : ∀ (d fr i j : Nat), i ≤ j → j < i + d → bt s (j : Int) = 61 → (∀ q, i ≤ q → q < j → bt s (q : Int) ≠ 61) → cutD s d fr i = s.extract fr j :: cutD s (i + d - (j + 1)) (j + 1) (j + 1)
 | 0, fr, i, j, h1, h2, _, _ => by omega
 | d + 1, fr, i, j, h1, h2, h3, h4 => by
  by_cases hij : i = j
  ·subst hij
   rw [cutD, if_pos h3, show i + (d + 1) - (i + 1) = d by omega]
  ·rw [cutD, if_neg (h4 i (by omega) (by omega)), cutD_some s d fr (i + 1) j (by omega) (by omega) h3 (fun q h5 h6 => h4 q (by omega) h6), show i + 1 + d - (j + 1) = i + (d + 1) - (j + 1) by omega]
theorem cutD_two (s : ByteArray) : ∀ (d fr i j : Nat), i ≤ j → j < i + d → bt s (j : Int) = 61 → 2 ≤ (cutD s d fr i).length
 | 0, fr, i, j, h1, h2, _ => by omega
 | d + 1, fr, i, j, h1, h2, h3 => by
  rw [cutD]
  by_cases h : bt s (i : Int) = 61
  ·rw [if_pos h]
   have := cutD_pos s d (i + 1) (i + 1)
   simp only [List.length_cons]
   omega
  ·rw [if_neg h]
   have hij : i ≠ j := fun e => h (by rw [e]; exact h3)
   exact cutD_two s d fr (i + 1) j (by omega) (by omega) h3
theorem scanA_chars (fd : List UInt8 → Int) : ∀ (s cur : List UInt8) (r : List Int), scanA fd cur s = some r → (61 : UInt8) ∉ s
 | [], _, _, _ => by simp
 | b :: s, cur, r, h => by
  rw [scanA] at h
  by_cases hb : lowB b = true
  ·rw [if_pos hb] at h
   have := scanA_chars fd s _ _ h
   intro hm
   rcases List.mem_cons.1 hm with e | e
   ·subst e; revert hb; decide
   ·exact this e
  ·rw [if_neg hb] at h
   have key : ∃ r', (if sepB b = true then scanA fd [] s else if capB b = true then (scanA fd [] s).map (fun ns => (-1 - ((b.toNat : Int) - 65)) :: ns) else none) = some r' := by
    unfold flushW at h
    split at h
    ·exact ⟨_, h⟩
    ·split at h
     ·cases h
     ·obtain ⟨r', hr', _⟩ := Option.map_eq_some_iff.1 h
      exact ⟨r', hr'⟩
   obtain ⟨r', hr'⟩ := key
   have hs : ∃ q, scanA fd [] s = some q := by
    split at hr'
    ·exact ⟨_, hr'⟩
    ·split at hr'
     ·obtain ⟨q, hq, _⟩ := Option.map_eq_some_iff.1 hr'
      exact ⟨q, hq⟩
     ·cases hr'
   obtain ⟨q, hq⟩ := hs
   have := scanA_chars fd s _ _ hq
   intro hm
   rcases List.mem_cons.1 hm with e | e
   ·subst e
    have h1 : sepB 61 = false := by decide
    have h2 : capB 61 = false := by decide
    rw [h1, h2] at hr'
    simp at hr'
   ·exact this e
theorem text_plain {l : List S90} {t : List Int} (h : termF l t = 0) : (61 : UInt8) ∉ (txtA l t 0).data.toList := by
 have hR := rightT_of h
 obtain ⟨t1, t2, tn, tw⟩ := right_parts h
 have h1 := (text_read (fd := fdL l) (nm := nameL l) (fun n hn => by unfold arL; rw [if_pos hn]) tw (fun n hn => node_word hR.sig (tn n hn)) t.length (Nat.le_refl _)).1
 exact scanA_chars _ _ _ _ h1
def reqR (l : List S90) (s : ByteArray) : Int × List Int × List Int :=
 if sigF l = 0 then
  let c := Lib.cut s.data.toList [61]
  let x : ByteArray := ⟨c.1.toArray⟩
  let y : ByteArray := ⟨c.2.1.toArray⟩
  if c.2.2 = true ∧ (readP l x).2 = true ∧ (readP l y).2 = true then (if equF l (readP l x).1 (readP l y).1 = 0 then (0, (readP l x).1, (readP l y).1) else (5, [], [])) else (5, [], [])
 else (sigF l, [], [])
theorem readP_length (l : List S90) (hs : sigF l = 0) (s : ByteArray) : (readP l s).1.length ≤ 1000 := by
 rcases read_cases l hs s with ⟨t, h1, _, _, h4⟩ | ⟨_, h4, _⟩
 ·rw [h4]
  have := (rightT_of h1).len
  simp only; omega
 ·rw [h4]; simp
theorem readQ_P (l : List S90) (hs : sigF l = 0) (s : ByteArray) : readQ l s = (readP l s).1 := by
 rcases read_cases l hs s with ⟨t, _, _, h3, h4⟩ | ⟨h3, h4, _⟩ <;> rw [h3, h4]
theorem reqR_length (l : List S90) (s : ByteArray) : (reqR l s).2.1.length ≤ 1000 ∧ (reqR l s).2.2.length ≤ 1000 := by
 unfold reqR
 by_cases hs : sigF l = 0
 ·rw [if_pos hs]
  simp only
  split
  ·split
   ·exact ⟨readP_length l hs _, readP_length l hs _⟩
   ·simp
  ·simp
 ·rw [if_neg hs]; simp
theorem cut_sizes (s : List UInt8) : (Lib.cut s [61]).1.length ≤ s.length ∧ (Lib.cut s [61]).2.1.length ≤ s.length := by
 unfold Lib.cut
 split
 ·simp; omega
 ·simp
theorem ReadEquation_impl (l : List S90) (s : ByteArray) (hz : s.size ≤ 1048576) : Ev (fun k => impl_ReadEquation.f k l s) (reqR l s) := by
 unfold impl_ReadEquation.f reqR
 refine ev_bind (SignatureFault_impl l) (ev_ite (fun h => ?_) (fun h => ev_some _))
 have hc : strings_Cut.f s (⟨#[61]⟩ : ByteArray) = some (⟨(Lib.cut s.data.toList [61]).1.toArray⟩, ⟨(Lib.cut s.data.toList [61]).2.1.toArray⟩, (Lib.cut s.data.toList [61]).2.2) := by
  unfold strings_Cut.f
  rw [if_pos (by omega)]
 refine ev_bindq hc ?_
 have hsz := Lib.size_eq s
 have hcs := cut_sizes s.data.toList
 simp only
 generalize Lib.cut s.data.toList [61] = c at *
 obtain ⟨cx, cy, cf⟩ := c
 simp only at hcs ⊢
 have hx : (⟨cx.toArray⟩ : ByteArray).size ≤ 1048576 := by rw [Lib.size_eq]; simp; omega
 have hy : (⟨cy.toArray⟩ : ByteArray).size ≤ 1048576 := by rw [Lib.size_eq]; simp; omega
 refine ev_bind (readTerm_ev l h _ hx) (ev_bind (readTerm_ev l h _ hy) ?_)
 have lx := readP_length l h ⟨cx.toArray⟩
 have ly := readP_length l h ⟨cy.toArray⟩
 by_cases h1 : cf = true
 ·refine ev_pos h1 ?_
  by_cases h2 : (readP l ⟨cx.toArray⟩).2 = true
  ·refine ev_pos h2 ?_
   by_cases h3 : (readP l ⟨cy.toArray⟩).2 = true
   ·refine ev_pos h3 ?_
    rw [if_pos ⟨h1, h2, h3⟩]
    exact ev_bind (EquationFault_impl l _ _ (by omega) (by omega)) (ev_ite (fun _ => ev_some _) (fun _ => ev_some _))
   ·rw [if_neg (fun hh => h3 hh.2.2)]; exact ev_neg h3 (ev_some _)
  ·rw [if_neg (fun hh => h2 hh.2.1)]; exact ev_neg h2 (ev_some _)
 ·rw [if_neg (fun hh => h1 hh.1)]; exact ev_neg h1 (ev_some _)
theorem occ_one (s : List UInt8) (c : UInt8) (j : Nat) : Lib.occAt s [c] j = true ↔ s[j]? = some c := by
 have e : s[j]? = (s.drop j)[0]? := by simp
 rw [e]
 unfold Lib.occAt
 cases s.drop j with
 | nil => simp
 | cons b r =>
  simp only [List.isPrefixOf, Bool.and_true, beq_iff_eq, List.getElem?_cons_zero, Option.some.injEq]
  exact eq_comm
theorem bt_61 (s : ByteArray) (j : Nat) (hj : j < s.data.toList.length) : bt s (j : Int) = 61 ↔ s.data.toList[j]? = some 61 := by
 rw [bt_get s j hj, List.getElem?_eq_getElem hj]
 constructor
 ·intro h
  have h2 : (s.data.toList[j]).toNat = 61 := by omega
  rw [show s.data.toList[j] = 61 from UInt8.toNat_inj.1 h2]
 ·intro h
  rw [Option.some.inj h]; rfl
theorem ext_take (s : ByteArray) (j : Nat) (hj : j ≤ s.data.toList.length) : s.extract 0 j = ⟨(s.data.toList.take j).toArray⟩ := bext (by simp)
theorem ext_drop (s : ByteArray) (j : Nat) (hj : j ≤ s.data.toList.length) : s.extract j s.data.toList.length = ⟨(s.data.toList.drop j).toArray⟩ := bext (by
 simp
 rw [List.take_of_length_le (by simp)])
theorem equF_nil_left (l : List S90) (hs : sigF l = 0) (b : List Int) : equG l [] b ≠ 0 := by
 intro h
 have h' : equF l [] b = 0 := by unfold equF; rw [if_pos hs]; exact h
 have := (equF_zero h').1.len
 simp at this
theorem equF_nil_right (l : List S90) (hs : sigF l = 0) (a : List Int) : equG l a [] ≠ 0 := by
 intro h
 have h' : equF l a [] = 0 := by unfold equF; rw [if_pos hs]; exact h
 have := (equF_zero h').2.len
 simp at this
theorem ReadEquation_spec (l : List S90) (s : ByteArray) (hz : s.size ≤ 1048576) : Ev (fun k => spec_ReadEquation.f k l s) (reqR l s) := by
 unfold spec_ReadEquation.f reqR
 refine ev_bind (SignatureFault_spec l) (ev_ite (fun h => ?_) (fun h => ev_some _))
 have hsz := Lib.size_eq s
 have hcut : Ev (fun k => spec_l1Cut.f k s 61) (cutD s s.size 0 0) := by
  unfold spec_l1Cut.f
  have := l1Cut_l0 s hz s.size 0 0 [] (by omega) (Nat.le_refl _) (by simp)
  exact this
 have hG : ∀ a b, equF l a b = equG l a b := fun a b => by unfold equF; rw [if_pos h]
 simp only [hG]
 -- where the first '=' is
 rcases Lib.index_spec s.data.toList [61] with ⟨hi, hno⟩ | ⟨i, hi, hil, hocc, hfirst⟩
 ·have hc : Lib.cut s.data.toList [61] = (s.data.toList, [], false) := by
   unfold Lib.cut; rw [if_neg (by omega)]
  rw [hc]
  simp only [Bool.false_eq_true, false_and, if_false]
  by_cases hb : (s.size : Int) > 337
  ·exact ev_pos hb (ev_some _)
  refine ev_neg hb (ev_bind hcut ?_)
  have hp : cutD s s.size 0 0 = [s.extract 0 (0 + s.size)] := cutD_none s s.size 0 0 (fun j _ hj => by
   intro hb
   have := (bt_61 s j (by omega)).1 hb
   have := (occ_one s.data.toList 61 j).2 this
   rw [hno j (by omega)] at this; cases this)
  rw [hp]
  exact ev_neg (by simp) (ev_some _)
 ·have hib := (occ_one _ _ _).1 hocc
  have hil2 : i < s.data.toList.length := by
   rcases Nat.lt_or_ge i s.data.toList.length with h | h
   ·exact h
   ·rw [List.getElem?_eq_none h] at hib; cases hib
  have hc : Lib.cut s.data.toList [61] = (s.data.toList.take i, s.data.toList.drop (i + 1), true) := by
   unfold Lib.cut
   rw [hi, if_pos (by omega)]
   have e1 : ((i : Int)).toNat = i := by omega
   rw [e1]; rfl
  rw [hc]
  simp only [true_and]
  have hp := cutD_some s s.size 0 0 i (by omega) (by omega) ((bt_61 s i hil2).2 hib) (fun q _ hq => by
   intro hb
   have := (bt_61 s q (by omega)).1 hb
   have := (occ_one s.data.toList 61 q).2 this
   rw [hfirst q hq] at this; cases this)
  rw [ext_take s i (by omega)] at hp
  rw [show 0 + s.size - (i + 1) = s.size - (i + 1) by omega] at hp
  generalize hX : (⟨(s.data.toList.take i).toArray⟩ : ByteArray) = X at *
  generalize hY : (⟨(s.data.toList.drop (i + 1)).toArray⟩ : ByteArray) = Y at *
  have hXl : X.data.toList = s.data.toList.take i := by rw [← hX]
  have hYl : Y.data.toList = s.data.toList.drop (i + 1) := by rw [← hY]
  by_cases hbig : (s.size : Int) > 337
  ·refine ev_pos hbig ?_
   refine ev_to (ev_some _) ?_
   rw [if_neg]
   rintro ⟨h1, h2⟩
   rcases read_cases l h X with ⟨t, r1, r2, _, _⟩ | ⟨_, r4, _⟩
   ·rcases read_cases l h Y with ⟨u, q1, q2, _, _⟩ | ⟨_, q4, _⟩
    ·have s1 := txtA_size (rightT_of r1).sig (rightT_of r1).nodes (right_parts r1).2.1 (a := 0) (by have := (right_parts r1).1; omega) (rightT_of r1).whole
     have s2 := txtA_size (rightT_of q1).sig (rightT_of q1).nodes (right_parts q1).2.1 (a := 0) (by have := (right_parts q1).1; omega) (rightT_of q1).whole
     have e1 : txtA l t 0 = X := bext (by rw [← Lib.toList_data, ← Lib.toList_data]; exact r2)
     have e2 : txtA l u 0 = Y := bext (by rw [← Lib.toList_data, ← Lib.toList_data]; exact q2)
     rw [e1, Lib.size_eq, hXl, List.length_take] at s1
     rw [e2, Lib.size_eq, hYl, List.length_drop] at s2
     omega
    ·rw [q4] at h2; cases h2
   ·rw [r4] at h1; cases h1
  refine ev_neg hbig (ev_bind hcut ?_)
  by_cases hmore : ∃ j, i + 1 ≤ j ∧ j < s.size ∧ bt s (j : Int) = 61
  ·-- a second '='
   obtain ⟨j0, hj0⟩ := hmore
   have hlen : 3 ≤ (cutD s s.size 0 0).length := by
    rw [hp]
    have := cutD_two s (s.size - (i + 1)) (i + 1) (i + 1) j0 hj0.1 (by omega) hj0.2.2
    simp only [List.length_cons]
    omega
   refine ev_neg (by omega) (ev_to (ev_some _) ?_)
   rw [if_neg]
   rintro ⟨_, h2⟩
   rcases read_cases l h Y with ⟨u, q1, q2, _, _⟩ | ⟨_, q4, _⟩
   ·have e2 : txtA l u 0 = Y := bext (by rw [← Lib.toList_data, ← Lib.toList_data]; exact q2)
    have hno := text_plain q1
    rw [e2, hYl] at hno
    apply hno
    have hj := (bt_61 s j0 (by omega)).1 hj0.2.2
    refine List.mem_iff_getElem?.2 ⟨j0 - (i + 1), ?_⟩
    rw [List.getElem?_drop, show i + 1 + (j0 - (i + 1)) = j0 by omega]
    exact hj
   ·rw [q4] at h2; cases h2
  ·have hp2 : cutD s (s.size - (i + 1)) (i + 1) (i + 1) = [Y] := by
    rw [cutD_none s (s.size - (i + 1)) (i + 1) (i + 1) (fun j h1 h2 hb => hmore ⟨j, h1, by omega, hb⟩), show i + 1 + (s.size - (i + 1)) = s.data.toList.length by omega, ext_drop s (i + 1) (by omega), hY]
   rw [hp, hp2]
   have g0 : rdOf ByteArray.empty [X, Y] 0 = X := rfl
   have g1 : rdOf ByteArray.empty [X, Y] 1 = Y := rfl
   rw [g0, g1]
   refine ev_pos (by simp) (ev_pos (by simp) (ev_bind (l4Read_ev l h X) (ev_pos (by simp) (ev_bind (l4Read_ev l h Y) ?_))))
   rw [readQ_P l h X, readQ_P l h Y]
   have lx := readP_length l h X
   have ly := readP_length l h Y
   refine ev_bind (l4Fault_ev l (right_of l h) _ _ (by omega) (by omega)) ?_
   rcases read_cases l h X with ⟨t, _, _, _, r4⟩ | ⟨_, r4, _⟩
   ·rcases read_cases l h Y with ⟨u, _, _, _, q4⟩ | ⟨_, q4, _⟩
    ·rw [r4, q4]
     simp only [and_self, if_true]
     exact ev_ite (fun _ => ev_some _) (fun _ => ev_some _)
    ·rw [q4]
     refine ev_neg (equF_nil_right l h _) (ev_to (ev_some _) ?_)
     simp
   ·rw [r4]
    refine ev_neg (equF_nil_left l h _) (ev_to (ev_some _) ?_)
    simp
end Go.Proofs.YtbdpnkpienpnaaaGreatDoor.Pure
set_option linter.unusedVariables false
namespace Go.Proofs.YtbdpnkpienpnaaaGreatDoor.Pure
open Go.RowKit Go.Proofs.YtbdpnkpienpnaaaGreatDoor.P Go.Proofs.YtbdpnkpienpnaaaGreatDoorW.PrintWords Go.Proofs.YtbdpnkpienpnaaaGreatDoorW.PrintLast Go.Proofs.YtbdpnkpienpnaaaGreatDoor.Base
theorem cut_say {A B : List UInt8} (h : (61 : UInt8) ∉ A) : Lib.cut (A ++ 61 :: B) [61] = (A, B, true) := by
 have hget : (A ++ 61 :: B)[A.length]? = some 61 := by rw [List.getElem?_append_right (Nat.le_refl _), Nat.sub_self]; rfl
 rcases Lib.index_spec (A ++ 61 :: B) [61] with ⟨hi, hno⟩ | ⟨i, hi, hil, hocc, hfirst⟩
 ·have h1 := (occ_one _ 61 A.length).2 hget
  rw [hno A.length (by simp)] at h1; cases h1
 ·have hib := (occ_one _ _ _).1 hocc
  have hiA : i = A.length := by
   rcases Nat.lt_trichotomy i A.length with hlt | he | hgt
   ·rw [List.getElem?_append_left hlt] at hib
    exact absurd (List.mem_of_getElem? hib) h
   ·exact he
   ·have h1 := (occ_one _ 61 A.length).2 hget
    rw [hfirst A.length hgt] at h1; cases h1
  unfold Lib.cut
  rw [hi, if_pos (by omega)]
  have e1 : ((i : Int)).toNat = i := by omega
  rw [e1, hiA]
  refine Prod.ext ?_ (Prod.ext ?_ rfl)
  ·show (A ++ 61 :: B).take A.length = A
   rw [List.take_left']
   rfl
  ·show (A ++ 61 :: B).drop (A.length + 1) = B
   rw [← List.drop_drop, List.drop_left' rfl]; rfl
theorem read_own {l : List S90} {t : List Int} (h : termF l t = 0) : readP l (txtA l t 0) = (t, true) := (read_text h rfl).2
theorem rt_own {l : List S90} {t : List Int} (h : termF l t = 0) : rtR l (txtA l t 0) = (0, t) := by
 unfold rtR
 rw [if_pos (sig_of h), read_own h, if_pos rfl]
theorem rt_text {l : List S90} {s : ByteArray} (h : (rtR l s).1 = 0) : textR l (rtR l s).2 = (0, s) := by
 unfold rtR at h ⊢
 by_cases hs : sigF l = 0
 ·rw [if_pos hs] at h ⊢
  rcases read_cases l hs s with ⟨t, h1, h2, _, h4⟩ | ⟨_, h4, _⟩
  ·rw [h4, if_pos rfl]
   unfold textR
   simp only
   rw [if_pos h1, show txtA l t 0 = s from bext (by rw [← Lib.toList_data, ← Lib.toList_data]; exact h2)]
  ·rw [h4, if_neg (by simp)] at h; cases h
 ·rw [if_neg hs] at h; exact absurd h hs
theorem equF_left {l : List S90} {a b : List Int} (h : equF l a b = 0) : termF l a = 0 := by
 unfold equF at h
 by_cases hs : sigF l = 0
 ·rw [if_pos hs] at h
  unfold equG at h
  by_cases h1 : termG l a = 0
  ·unfold termF; rw [if_pos hs]; exact h1
  ·rw [if_neg h1] at h; exact absurd h h1
 ·rw [if_neg hs] at h; exact absurd h hs
theorem req_own {l : List S90} {a b : List Int} (h : equF l a b = 0) : reqR l (sayA l a b) = (0, a, b) := by
 have ha := equF_left h
 have hb : termF l b = 0 := by
  have hs := sig_of ha
  unfold equF at h
  rw [if_pos hs] at h
  unfold equG at h
  have h1 : termG l a = 0 := by rw [← termG_of hs]; exact ha
  rw [if_pos h1] at h
  by_cases h2 : termG l b = 0
  ·unfold termF; rw [if_pos hs]; exact h2
  ·rw [if_neg h2] at h; exact absurd h h2
 have hs := sig_of ha
 unfold reqR
 rw [if_pos hs]
 have hd : (sayA l a b).data.toList = (txtA l a 0).data.toList ++ 61 :: (txtA l b 0).data.toList := by
  unfold sayA
  rw [app_list, app_list, List.append_assoc]; rfl
 rw [hd, cut_say (text_plain ha)]
 have e1 : (⟨(txtA l a 0).data.toList.toArray⟩ : ByteArray) = txtA l a 0 := bext (by simp)
 have e2 : (⟨(txtA l b 0).data.toList.toArray⟩ : ByteArray) = txtA l b 0 := bext (by simp)
 simp only
 rw [e1, e2, read_own ha, read_own hb, if_pos (by simp), if_pos h]
end Go.Proofs.YtbdpnkpienpnaaaGreatDoor.Pure
set_option linter.unusedVariables false
namespace Go.Proofs.YtbdpnkpienpnaaaGreatDoor.Pure
open Go.RowKit Go.Proofs.YtbdpnkpienpnaaaGreatDoorW.PrintWords Go.Proofs.YtbdpnkpienpnaaaGreatDoorW.PrintLast Go.Proofs.YtbdpnkpienpnaaaGreatDoor.Base
def Byte (x : Int) : Prop := 0 ≤ x ∧ x ≤ 255
theorem rd_byte {xs : List Int} (hx : ∀ x ∈ xs, Byte x) (i : Int) (h0 : 0 ≤ i) (h1 : i < xs.length) : Byte (rd xs i) := by
 have := hx _ (rd_mem xs i.toNat (by omega))
 rwa [Int.toNat_of_nonneg h0] at this
end Go.Proofs.YtbdpnkpienpnaaaGreatDoor.Pure
set_option linter.unusedVariables false
namespace Go.Proofs.YtbdpnkpienpnaaaGreatDoor.Pure
open Go.RowKit Go.Proofs.YtbdpnkpienpnaaaGreatDoor.P Go.Proofs.YtbdpnkpienpnaaaGreatDoorW.PrintWords Go.Proofs.YtbdpnkpienpnaaaGreatDoorW.PrintLast Go.Proofs.YtbdpnkpienpnaaaGreatDoor.Base
theorem tmod_in {x n : Int} (hx : 0 ≤ x) (hn : 1 ≤ n) : 0 ≤ Int.tmod x n ∧ Int.tmod x n < n := by
 rw [Int.tmod_eq_emod_of_nonneg hx]
 exact ⟨Int.emod_nonneg _ (by omega), Int.emod_lt_of_pos _ (by omega)⟩
structure Code (c : List Int) : Prop where
 bytes : ∀ x ∈ c, Byte x
 len : c.length ≤ 2000000
theorem l1Next_ex {c : List Int} (hc : Code c) {a n : Int} (ha : 0 ≤ a) (ha' : a ≤ 1000000000000) (hn : n ≤ 1000000) :
  ∃ v, spec_l1Next.f c a n = some (v, a + 1) ∧ (n < 1 → v = 0) ∧ (1 ≤ n → 0 ≤ v ∧ v < n) := by
 unfold spec_l1Next.f
 have e1 : wrap64 (a + 1) = a + 1 := wrap_id (by omega) (by omega)
 have e2 : wrap64 (a + 1 - 1) = a := by rw [wrap_id (by omega) (by omega)]; omega
 simp only [e1, e2]
 by_cases h1 : n < 1
 ·rw [if_pos h1]
  exact ⟨0, rfl, fun _ => rfl, fun h => by omega⟩
 rw [if_neg h1]
 have hl := hc.len
 by_cases h2 : (c.length : Int) = 0
 ·rw [if_pos h2, if_neg (by omega), wrap_id (x := a * 7) (by omega) (by omega)]
  exact ⟨_, rfl, fun h => by omega, fun h => tmod_in (by omega) h⟩
 rw [if_neg h2]
 have hp : 0 < (c.length : Int) := by omega
 obtain ⟨m0, m1⟩ := tmod_in (x := a) (n := (c.length : Int)) ha (by omega)
 have hb := rd_byte hc.bytes _ m0 m1
 have hq : 0 ≤ Int.tdiv a (c.length : Int) ∧ Int.tdiv a (c.length : Int) ≤ a := by
  rw [Int.tdiv_eq_ediv_of_nonneg ha]
  exact ⟨Int.ediv_nonneg ha (by omega), Int.ediv_le_self _ ha⟩
 rw [if_pos m0, if_pos m1]
 generalize rd c (Int.tmod a (c.length : Int)) = b at *
 generalize Int.tdiv a (c.length : Int) = q at *
 unfold Byte at hb
 have w1 : wrap64 b = b := wrap_id (by omega) (by omega)
 have w2 : wrap64 q = q := wrap_id (by omega) (by omega)
 have w3 : wrap64 (q * 37) = q * 37 := wrap_id (by omega) (by omega)
 have w4 : wrap64 (b + q * 37) = b + q * 37 := wrap_id (by omega) (by omega)
 by_cases h3 : n > 200
 ·rw [if_pos h3]
  obtain ⟨k0, k1⟩ := tmod_in (x := a + 1) (n := (c.length : Int)) (by omega) (by omega)
  have hd := rd_byte hc.bytes _ k0 k1
  rw [if_pos k0, if_pos k1, if_neg (by omega)]
  generalize rd c (Int.tmod (a + 1) (c.length : Int)) = d at *
  unfold Byte at hd
  have w5 : wrap64 d = d := wrap_id (by omega) (by omega)
  have w6 : wrap64 (d * 13) = d * 13 := wrap_id (by omega) (by omega)
  have w7 : wrap64 ((b + q * 37) * 251) = (b + q * 37) * 251 := wrap_id (by omega) (by omega)
  have w8 : wrap64 ((b + q * 37) * 251 + d * 13) = (b + q * 37) * 251 + d * 13 := wrap_id (by omega) (by omega)
  have w9 : wrap64 ((b + q * 37) * 251 + d * 13 + a) = (b + q * 37) * 251 + d * 13 + a := wrap_id (by omega) (by omega)
  simp only [w1, w2, w3, w4, w5, w6, w7, w8, w9]
  exact ⟨_, rfl, fun h => by omega, fun h => tmod_in (by omega) h⟩
 ·rw [if_neg h3, if_neg (by omega)]
  simp only [w1, w2, w3, w4]
  exact ⟨_, rfl, fun h => by omega, fun h => tmod_in (by omega) h⟩
theorem l1Chance_ex {c : List Int} (hc : Code c) {a n : Int} (ha : 0 ≤ a) (ha' : a ≤ 1000000000000) (hn : n ≤ 1000000) :
  ∃ b, spec_l1Chance.f c a n = some (b, a + 1) := by
 obtain ⟨v, hv, _⟩ := l1Next_ex hc ha ha' hn
 exact ⟨v == 0, by unfold spec_l1Chance.f; rw [hv]; rfl⟩
theorem l1Pick_ex {c : List Int} (hc : Code c) {a : Int} (ha : 0 ≤ a) (ha' : a ≤ 1000000000000) (l : List Int) (hl : 0 < l.length) (hl' : l.length ≤ 1000000) :
  ∃ v, spec_l1Pick.f c a l = some (v, a + 1) ∧ v ∈ l := by
 obtain ⟨v, hv, _, h⟩ := l1Next_ex (n := (l.length : Int)) hc ha ha' (by omega)
 obtain ⟨h0, h1⟩ := h (by omega)
 refine ⟨rd l v, ?_, ?_⟩
 ·unfold spec_l1Pick.f
  rw [hv]
  simp only [Option.bind_some]
  rw [if_pos h0, if_pos h1]
 ·have := rd_mem l v.toNat (by omega)
  rwa [Int.toNat_of_nonneg h0] at this
theorem l2Sig_j1 (v : Int) (f : Bool) (c : List Int) (a : Int) (n1 : ByteArray) (i1 : Int) (n2 : ByteArray) (i2 : Int) (n3 : ByteArray) (i3 : Int) (n4 : ByteArray) (i4 : Int) (n5 : ByteArray) (i5 : Int) (n6 : ByteArray) (i6 : Int) :
  ∃ g, Ev (fun k => spec_l2Sig.j1 k v f c a n1 i1 n2 i2 n3 i3 n4 i4 n5 i5 n6 i6) (g, a) ∧ 1 ≤ g.length ∧ g.length ≤ 6 := by
 cases f with
 | true =>
  refine ⟨[(⟨n5, i5⟩ : S90), (⟨n4, i4⟩ : S90), (⟨(⟨#[97, 100, 100]⟩ : ByteArray), 2⟩ : S90), (⟨n6, i6⟩ : S90)], ev_succ ?_, by simp, by simp⟩
  simp only [spec_l2Sig.j1]
  exact ev_pos (by simp) (ev_some _)
 | false =>
  by_cases h5 : v = 5
  ·refine ⟨[(⟨n5, i5⟩ : S90), (⟨(⟨#[102]⟩ : ByteArray), 1⟩ : S90), (⟨(⟨#[103]⟩ : ByteArray), 1⟩ : S90)], ev_succ ?_, by simp, by simp⟩
   simp only [spec_l2Sig.j1]
   exact ev_neg (by simp) (ev_pos h5 (ev_some _))
  by_cases h6 : v = 6
  ·refine ⟨[(⟨n5, i5⟩ : S90), (⟨n6, i6⟩ : S90), (⟨n1, i1⟩ : S90), (⟨n3, i3⟩ : S90), (⟨n2, i2⟩ : S90), (⟨n4, i4⟩ : S90)], ev_succ ?_, by simp, by simp⟩
   simp only [spec_l2Sig.j1]
   exact ev_neg (by simp) (ev_neg h5 (ev_pos h6 (ev_some _)))
  ·refine ⟨[(⟨n5, i5⟩ : S90)], ev_succ ?_, by simp, by simp⟩
   simp only [spec_l2Sig.j1]
   exact ev_neg (by simp) (ev_neg h5 (ev_neg h6 (ev_some _)))
theorem l2Sig_j0 (v : Int) (f : Bool) (c : List Int) (a : Int) (n1 : ByteArray) (i1 : Int) (n2 : ByteArray) (i2 : Int) (n3 : ByteArray) (i3 : Int) (n4 : ByteArray) (i4 : Int) (n5 : ByteArray) (i5 : Int) (n6 : ByteArray) (i6 : Int) :
  ∃ g, Ev (fun k => spec_l2Sig.j0 k v f c a n1 i1 n2 i2 n3 i3 n4 i4 n5 i5 n6 i6) (g, a) ∧ 1 ≤ g.length ∧ g.length ≤ 6 := by
 cases f with
 | true =>
  refine ⟨[(⟨n1, i1⟩ : S90), (⟨n2, i2⟩ : S90), (⟨n3, i3⟩ : S90), (⟨n5, i5⟩ : S90)], ev_succ ?_, by simp, by simp⟩
  simp only [spec_l2Sig.j0]
  exact ev_pos (by simp) (ev_some _)
 | false =>
  by_cases h3 : v = 3
  ·obtain ⟨g, hg, hl⟩ := l2Sig_j1 v (v == 3) c a n1 i1 n2 i2 n3 i3 n4 i4 n5 i5 n6 i6
   refine ⟨g, ev_succ ?_, hl⟩
   simp only [spec_l2Sig.j0]
   exact ev_neg (by simp) (ev_pos h3 hg)
  ·obtain ⟨g, hg, hl⟩ := l2Sig_j1 v (v == 4) c a n1 i1 n2 i2 n3 i3 n4 i4 n5 i5 n6 i6
   refine ⟨g, ev_succ ?_, hl⟩
   simp only [spec_l2Sig.j0]
   exact ev_neg (by simp) (ev_neg h3 hg)
theorem l2Sig_ex {c : List Int} (hc : Code c) {a : Int} (ha : 0 ≤ a) (ha' : a ≤ 1000000) : ∃ g, Ev (fun k => spec_l2Sig.f k c a) (g, a + 1) ∧ 1 ≤ g.length ∧ g.length ≤ 6 := by
 obtain ⟨v, hv, _, h⟩ := l1Next_ex hc (a := a) (n := 8) ha (by omega) (by omega)
 unfold spec_l2Sig.f
 by_cases h0 : v = 0
 ·obtain ⟨g, hg, hl⟩ := l2Sig_j0 v (v == 0) c (a + 1) (⟨#[101]⟩ : ByteArray) 0 (⟨#[105]⟩ : ByteArray) 1 (⟨#[109]⟩ : ByteArray) 2 (⟨#[115, 117, 99]⟩ : ByteArray) 1 (⟨#[97]⟩ : ByteArray) 0 (⟨#[98]⟩ : ByteArray) 0
  exact ⟨g, ev_bindq hv (ev_pos h0 hg), hl⟩
 by_cases h1 : v = 1
 ·obtain ⟨g, hg, hl⟩ := l2Sig_j0 v (v == 1) c (a + 1) (⟨#[101]⟩ : ByteArray) 0 (⟨#[105]⟩ : ByteArray) 1 (⟨#[109]⟩ : ByteArray) 2 (⟨#[115, 117, 99]⟩ : ByteArray) 1 (⟨#[97]⟩ : ByteArray) 0 (⟨#[98]⟩ : ByteArray) 0
  exact ⟨g, ev_bindq hv (ev_neg h0 (ev_pos h1 hg)), hl⟩
 ·obtain ⟨g, hg, hl⟩ := l2Sig_j0 v (v == 2) c (a + 1) (⟨#[101]⟩ : ByteArray) 0 (⟨#[105]⟩ : ByteArray) 1 (⟨#[109]⟩ : ByteArray) 2 (⟨#[115, 117, 99]⟩ : ByteArray) 1 (⟨#[97]⟩ : ByteArray) 0 (⟨#[98]⟩ : ByteArray) 0
  exact ⟨g, ev_bindq hv (ev_neg h0 (ev_neg h1 hg)), hl⟩
theorem l2Bent_l0 (c : List Int) (a : Int) (n : Nat) (hn : n ≤ 10) : ∀ (d i : Nat) (g : List S90), i + d = n → g.length = n → ∃ g', Ev (fun k => spec_l2Bent.l0 k (n : Int) (i : Int) c a g) (g', a) ∧ g'.length = n := by
 intro d
 induction d with
 | zero =>
  intro i g hi hg
  refine ⟨g, ev_succ ?_, hg⟩
  simp only [spec_l2Bent.l0]
  exact ev_neg (by omega) (ev_some _)
 | succ d ih =>
  intro i g hi hg
  obtain ⟨g', h, hl⟩ := ih (i + 1) (g.set ((i : Int)).toNat (⟨(rd_T90 g (i : Int)).f0, 1⟩ : S90)) (by omega) (by rw [List.length_set]; exact hg)
  refine ⟨g', ev_succ ?_, hl⟩
  simp only [spec_l2Bent.l0]
  refine ev_pos (by omega) (ev_pos (by omega) (ev_pos (by omega) ?_))
  rw [wrap_up (by omega)]
  exact h
theorem l2Bent_l1 (c : List Int) (a : Int) : ∀ (d : Nat) (g : List S90), g.length + d = 7 → ∃ g', Ev (fun k => spec_l2Bent.l1 k c a g) (g', a) ∧ g'.length ≤ 7 := by
 intro d
 induction d with
 | zero =>
  intro g hg
  refine ⟨g, ev_succ ?_, by omega⟩
  simp only [spec_l2Bent.l1]
  exact ev_neg (by omega) (ev_some _)
 | succ d ih =>
  intro g hg
  obtain ⟨g', h, hl⟩ := ih (g ++ [(⟨(⟨#[122]⟩ : ByteArray), 0⟩ : S90)]) (by simp; omega)
  refine ⟨g', ev_succ ?_, hl⟩
  simp only [spec_l2Bent.l1]
  exact ev_pos (by omega) (ev_pos (by omega) h)
theorem l2Bent_ex {c : List Int} (hc : Code c) {a : Int} (ha : 0 ≤ a) (ha' : a ≤ 100000) : ∃ g b, Ev (fun k => spec_l2Bent.f k c a) (g, b) ∧ g.length ≤ 7 ∧ a ≤ b ∧ b ≤ a + 10 := by
 obtain ⟨g, hg, g1, g6⟩ := l2Sig_ex hc ha (by omega)
 obtain ⟨q, hq⟩ := l1Chance_ex hc (a := a + 1) (n := 9) (by omega) (by omega) (by omega)
 unfold spec_l2Bent.f
 cases q with
 | false => exact ⟨g, _, ev_bind hg (ev_bindq hq (ev_neg (by simp) (ev_some _))), by omega, by omega, by omega⟩
 | true =>
  obtain ⟨v, hv, _, h⟩ := l1Next_ex hc (a := a + 1 + 1) (n := 7) (by omega) (by omega) (by omega)
  by_cases h0 : v = 0
  ·exact ⟨[], _, ev_bind hg (ev_bindq hq (ev_pos rfl (ev_bindq hv (ev_pos h0 (ev_some _))))), by simp, by omega, by omega⟩
  have hw : wrap64 ((g.length : Int) - 1) = (g.length : Int) - 1 := wrap_id (by omega) (by omega)
  by_cases h1 : v = 1
  ·refine ⟨g.set (wrap64 ((g.length : Int) - 1)).toNat (⟨(⟨#[97, 98, 99, 100]⟩ : ByteArray), (rd_T90 g (wrap64 ((g.length : Int) - 1))).f1⟩ : S90), a + 1 + 1 + 1, ev_bind hg (ev_bindq hq (ev_pos rfl (ev_bindq hv (ev_neg h0 (ev_pos h1 ?_))))), by rw [List.length_set]; omega, by omega, by omega⟩
   simp only
   exact ev_pos (by omega) (ev_pos (by omega) (ev_some _))
  obtain ⟨i, hi, _, hb⟩ := l1Next_ex hc (a := a + 1 + 1 + 1) (n := (g.length : Int)) (by omega) (by omega) (by omega)
  obtain ⟨i0, i1⟩ := hb (by omega)
  by_cases h2 : v = 2
  ·refine ⟨g.set (i : Int).toNat (⟨(⟨#[97, 66]⟩ : ByteArray), (rd_T90 g i).f1⟩ : S90), a + 1 + 1 + 1 + 1, ev_bind hg (ev_bindq hq (ev_pos rfl (ev_bindq hv (ev_neg h0 (ev_neg h1 (ev_pos h2 (ev_bindq hi ?_))))))), by rw [List.length_set]; omega, by omega, by omega⟩
   simp only
   exact ev_pos i0 (ev_pos i1 (ev_some _))
  by_cases h3 : v = 3
  ·obtain ⟨u, hu, _⟩ := l1Pick_ex hc (a := a + 1 + 1 + 1 + 1) (by omega) (by omega) [3, (-1)] (by simp) (by simp)
   refine ⟨g.set (i : Int).toNat (⟨(rd_T90 g i).f0, u⟩ : S90), a + 1 + 1 + 1 + 1 + 1, ev_bind hg (ev_bindq hq (ev_pos rfl (ev_bindq hv (ev_neg h0 (ev_neg h1 (ev_neg h2 (ev_pos h3 (ev_bindq hi (ev_bindq hu ?_))))))))), by rw [List.length_set]; omega, by omega, by omega⟩
   simp only
   exact ev_pos i0 (ev_pos i1 (ev_some _))
  by_cases h4 : v = 4
  ·refine ⟨g ++ [(⟨(rd_T90 g 0).f0, (rd_T90 g 0).f1⟩ : S90)], a + 1 + 1 + 1, ev_bind hg (ev_bindq hq (ev_pos rfl (ev_bindq hv (ev_neg h0 (ev_neg h1 (ev_neg h2 (ev_neg h3 (ev_pos h4 ?_)))))))), by simp; omega, by omega, by omega⟩
   simp only
   exact ev_pos (by omega) (ev_pos (by omega) (ev_some _))
  by_cases h5 : v = 5
  ·obtain ⟨g', hg', hl⟩ := l2Bent_l0 c (a + 1 + 1 + 1) g.length (by omega) g.length 0 g (by omega) rfl
   exact ⟨g', _, ev_bind hg (ev_bindq hq (ev_pos rfl (ev_bindq hv (ev_neg h0 (ev_neg h1 (ev_neg h2 (ev_neg h3 (ev_neg h4 (ev_pos h5 hg'))))))))), by omega, by omega, by omega⟩
  ·obtain ⟨g', hg', hl⟩ := l2Bent_l1 c (a + 1 + 1 + 1) (7 - g.length) g (by omega)
   exact ⟨g', _, ev_bind hg (ev_bindq hq (ev_pos rfl (ev_bindq hv (ev_neg h0 (ev_neg h1 (ev_neg h2 (ev_neg h3 (ev_neg h4 (ev_neg h5 hg'))))))))), hl, by omega, by omega⟩
theorem zero_of (l : List S90) (h : sigF l = 0) : ∃ z : Nat, z < l.length ∧ (rd_T90 l (z : Int)).f1 = 0 := by
 unfold sigF at h
 by_cases h1 : l.length < 1 ∨ l.length > 6
 ·rw [if_pos h1] at h; omega
 rw [if_neg h1] at h
 rcases scanN_cases (symFault l) (scanN (dupFault l) (if zeroB l = true then 0 else 4) l.length 0) l.length 0 with ⟨h2, h3⟩ | ⟨j, _, _, h3⟩
 ·rw [h3] at h
  rcases scanN_cases (dupFault l) (if zeroB l = true then 0 else 4) l.length 0 with ⟨h4, h5⟩ | ⟨j, _, _, h5⟩
  ·rw [h5] at h
   by_cases hz : zeroB l = true
   ·unfold zeroB at hz
    cases hf : firstN (fun j => (rd_T90 l (j : Int)).f1 == 0) l.length 0 with
    | none => rw [hf] at hz; cases hz
    | some j =>
     obtain ⟨_, hj, hp, _⟩ := firstN_some _ _ _ hf
     exact ⟨j, by omega, by simpa using hp⟩
   ·rw [if_neg hz] at h; omega
  ·rw [h] at h5
   unfold dupFault at h5
   by_cases hd : dupB l j = true
   ·rw [if_pos hd] at h5; cases h5
   ·rw [if_neg hd] at h5; cases h5
 ·rw [h] at h3
  unfold symFault at h3
  by_cases hn : nameB (rd_T90 l (j : Int)).f0 = true
  ·rw [if_pos hn] at h3
   by_cases ha : 0 ≤ (rd_T90 l (j : Int)).f1 ∧ (rd_T90 l (j : Int)).f1 ≤ 2
   ·rw [if_pos ha] at h3; cases h3
   ·rw [if_neg ha] at h3; cases h3
  ·rw [if_neg hn] at h3; cases h3
theorem rdSig0 (l : List S90) : (rd_T26 [(⟨l⟩ : S26)] 0).f0 = l := rfl
theorem l3Draw_l0 {l : List S90} (hl : 1 ≤ l.length ∧ l.length ≤ 6) (m v : Int) (c : List Int) (a : Int) : ∀ (d i n e : Nat), i + d = l.length → n < l.length → e < d → (rd_T90 l (((n + e) % l.length : Nat) : Int)).f1 < m →
  ∃ n' : Nat, n' < l.length ∧ (rd_T90 l (n' : Int)).f1 < m ∧ ∀ r, Ev (fun k => spec_l3Draw.j2 k [(⟨l⟩ : S26)] m v (l.length : Int) (n' : Int) c a) r → Ev (fun k => spec_l3Draw.l0 k [(⟨l⟩ : S26)] m v (l.length : Int) (n : Int) (i : Int) c a) r := by
 intro d
 induction d with
 | zero => intro i n e hi hn he; omega
 | succ d ih =>
  intro i n e hi hn he hlt
  by_cases h : (rd_T90 l (n : Int)).f1 ≥ m
  ·have he0 : e ≠ 0 := by
    intro e0
    subst e0
    rw [Nat.add_zero, Nat.mod_eq_of_lt hn] at hlt
    omega
   obtain ⟨n', h1, h2, h3⟩ := ih (i + 1) ((n + 1) % l.length) (e - 1) (by omega) (Nat.mod_lt _ (by omega)) (by omega) (by
    rw [Nat.mod_add_mod, show n + 1 + (e - 1) = n + e by omega]; exact hlt)
   refine ⟨n', h1, h2, fun r hr => ?_⟩
   have hq := h3 r hr
   refine ev_succ ?_
   simp only [spec_l3Draw.l0, rdSig0]
   refine ev_pos (by omega) (ev_pos (by simp) (ev_pos (by omega) (ev_pos (by omega) (ev_pos h (ev_neg (by omega) ?_)))))
   rw [wrap_up (i := n) (by omega), wrap_up (i := i) (by omega), show Int.tmod ((n + 1 : Nat) : Int) (l.length : Int) = (((n + 1) % l.length : Nat) : Int) by rw [Int.tmod_eq_emod_of_nonneg (by omega)]; omega]
   exact hq
  ·refine ⟨n, hn, by omega, fun r hr => ev_succ ?_⟩
   simp only [spec_l3Draw.l0, rdSig0]
   exact ev_pos (by omega) (ev_pos (by simp) (ev_pos (by omega) (ev_pos (by omega) (ev_neg h hr))))
theorem l3Draw_j2 {l : List S90} (hl : 1 ≤ l.length ∧ l.length ≤ 6) (m v : Int) (c : List Int) (a : Int) (n : Nat) (hn : n < l.length) (hlt : (rd_T90 l (n : Int)).f1 < m) (r : List Int × Int)
  (hr : Ev (fun k => spec_l3Draw.j4 k [(⟨l⟩ : S26)] m v (n : Int) c a) r) : Ev (fun k => spec_l3Draw.j2 k [(⟨l⟩ : S26)] m v (l.length : Int) (n : Int) c a) r := by
 refine ev_succ ?_
 simp only [spec_l3Draw.j2]
 by_cases h : m < 2
 ·refine ev_pos h (ev_succ ?_)
  simp only [spec_l3Draw.l1, rdSig0]
  exact ev_pos (by omega) (ev_pos (by simp) (ev_pos (by omega) (ev_pos (by omega) (ev_neg (by omega) hr))))
 ·exact ev_neg h hr
theorem l3Draw_ex {c : List Int} (hc : Code c) {l : List S90} (hr : Right l) (hz : ∃ z : Nat, z < l.length ∧ (rd_T90 l (z : Int)).f1 = 0) (v : Int) (hv : v ≤ 1000) : ∀ (m : Nat), 1 ≤ m → m ≤ 1000 → ∀ a : Int, 0 ≤ a → a + 3 * m ≤ 1000000 →
  ∃ t b, Ev (fun k => spec_l3Draw.f k c a [(⟨l⟩ : S26)] (m : Int) v) (t, b) ∧ 1 ≤ t.length ∧ t.length ≤ m ∧ a ≤ b ∧ b ≤ a + 3 * t.length := by
 intro m
 induction m using Nat.strongRecOn with
 | _ m ih =>
  intro m1 m2 a a0 a1
  have hl := hr.len
  -- behind the choice of the first node
  have hj4 : ∀ (n : Nat) (b : Int), n < l.length → (rd_T90 l (n : Int)).f1 < (m : Int) → a ≤ b → b ≤ a + 3 → ∃ t b', Ev (fun k => spec_l3Draw.j4 k [(⟨l⟩ : S26)] (m : Int) v (n : Int) c b) (t, b') ∧ 1 ≤ t.length ∧ t.length ≤ m ∧ b ≤ b' ∧ b' + 3 ≤ b + 3 * t.length := by
   intro n b hn hlt hab hb
   obtain ⟨r0, r1⟩ := hr.arities n hn
   by_cases h1 : (rd_T90 l (n : Int)).f1 = 1
   ·obtain ⟨t, b', ht, l1, l2, b0, b1⟩ := ih (m - 1) (by omega) (by omega) (by omega) b (by omega) (by omega)
    refine ⟨[(n : Int)] ++ t, b', ev_succ ?_, by simp, by simp; omega, by omega, by simp; omega⟩
    simp only [spec_l3Draw.j4, rdSig0, Option.bind_some]
    refine ev_pos (by simp) (ev_pos (by omega) (ev_pos (by omega) (ev_pos h1 ?_)))
    rw [wrap_id (x := (m : Int) - 1) (by omega) (by omega), show (m : Int) - 1 = ((m - 1 : Nat) : Int) by omega]
    exact ev_bind ht (ev_pos (by simp; omega) (ev_some _))
   by_cases h2 : (rd_T90 l (n : Int)).f1 = 2
   ·obtain ⟨t, b', ht, l1, l2, b0, b1⟩ := ih (m - 2) (by omega) (by omega) (by omega) b (by omega) (by omega)
    obtain ⟨u, b'', hu, k1, k2, d0, d1⟩ := ih (m - 1 - t.length) (by omega) (by omega) (by omega) b' (by omega) (by omega)
    refine ⟨([(n : Int)] ++ t) ++ u, b'', ev_succ ?_, by simp only [List.length_append, List.length_singleton]; omega, by simp only [List.length_append, List.length_singleton]; omega, by omega, by simp only [List.length_append, List.length_singleton]; omega⟩
    simp only [spec_l3Draw.j4, rdSig0, Option.bind_some]
    refine ev_pos (by simp) (ev_pos (by omega) (ev_pos (by omega) (ev_neg h1 (ev_pos h2 ?_))))
    rw [wrap_id (x := (m : Int) - 2) (by omega) (by omega), show (m : Int) - 2 = ((m - 2 : Nat) : Int) by omega, wrap_id (x := (m : Int) - 1) (by omega) (by omega)]
    refine ev_bind ht (ev_pos (by simp; omega) ?_)
    simp only
    rw [wrap_id (x := (m : Int) - 1 - (t.length : Int)) (by omega) (by omega), show (m : Int) - 1 - (t.length : Int) = ((m - 1 - t.length : Nat) : Int) by omega]
    exact ev_bind hu (ev_pos (by simp; omega) (ev_some _))
   ·refine ⟨[(n : Int)], b, ev_succ ?_, by simp, by simp; omega, by omega, by simp⟩
    simp only [spec_l3Draw.j4, rdSig0, Option.bind_some]
    exact ev_pos (by simp) (ev_pos (by omega) (ev_pos (by omega) (ev_neg h1 (ev_neg h2 (ev_some _)))))
  have hj0 : ∀ (q : Bool) (b : Int), a ≤ b → b ≤ a + 2 → ∃ t b', Ev (fun k => spec_l3Draw.j0 k [(⟨l⟩ : S26)] (m : Int) v q c b) (t, b') ∧ 1 ≤ t.length ∧ t.length ≤ m ∧ b ≤ b' ∧ b' + 2 ≤ b + 3 * t.length := by
   intro q b hab hb
   cases q with
   | true =>
    obtain ⟨x, hx, _⟩ := l1Next_ex hc (a := b) (n := v) (by omega) (by omega) (by omega)
    refine ⟨[wrap64 ((-1) - x)], b + 1, ev_succ ?_, by simp, by simp; omega, by omega, by simp; omega⟩
    simp only [spec_l3Draw.j0]
    exact ev_pos (by simp) (ev_bindq hx (ev_some _))
   | false =>
    obtain ⟨x, hx, _, hb2⟩ := l1Next_ex hc (a := b) (n := (l.length : Int)) (by omega) (by omega) (by omega)
    obtain ⟨x0, x1⟩ := hb2 (by omega)
    obtain ⟨n, rfl⟩ := Int.eq_ofNat_of_zero_le x0
    obtain ⟨z, hz1, hz2⟩ := hz
    have hmod : (n + (z + l.length - n) % l.length) % l.length = z := by
     rw [Nat.add_mod_mod, show n + (z + l.length - n) = z + l.length by omega, Nat.add_mod_right, Nat.mod_eq_of_lt hz1]
    obtain ⟨n', h1, h2, h3⟩ := l3Draw_l0 hl (m : Int) v c (b + 1) l.length 0 n ((z + l.length - n) % l.length) (by omega) (by omega) (Nat.mod_lt _ (by omega)) (by rw [hmod]; omega)
    obtain ⟨t, b', ht, l1, l2, b0, b1⟩ := hj4 n' (b + 1) h1 h2 (by omega) (by omega)
    refine ⟨t, b', ev_succ ?_, l1, l2, by omega, by omega⟩
    simp only [spec_l3Draw.j0, rdSig0]
    exact ev_neg (by simp) (ev_pos (by simp) (ev_bindq hx (h3 _ (l3Draw_j2 hl (m : Int) v c (b + 1) n' h1 h2 _ ht))))
  by_cases h1 : v > 0
  ·by_cases h2 : (m : Int) < 2
   ·obtain ⟨q, hq⟩ := l1Chance_ex hc (a := a) (n := 2) a0 (by omega) (by omega)
    cases q with
    | true =>
     obtain ⟨t, b', ht, l1, l2, b0, b1⟩ := hj0 true (a + 1) (by omega) (by omega)
     refine ⟨t, b', ev_succ ?_, l1, l2, by omega, by omega⟩
     simp only [spec_l3Draw.f]
     exact ev_pos h1 (ev_pos h2 (ev_bindq hq (ev_pos rfl ht)))
    | false =>
     obtain ⟨q2, hq2⟩ := l1Chance_ex hc (a := a + 1) (n := 4) (by omega) (by omega) (by omega)
     obtain ⟨t, b', ht, l1, l2, b0, b1⟩ := hj0 q2 (a + 1 + 1) (by omega) (by omega)
     refine ⟨t, b', ev_succ ?_, l1, l2, by omega, by omega⟩
     simp only [spec_l3Draw.f]
     exact ev_pos h1 (ev_pos h2 (ev_bindq hq (ev_neg (by simp) (ev_bindq hq2 ht))))
   ·obtain ⟨q2, hq2⟩ := l1Chance_ex hc (a := a) (n := 4) (by omega) (by omega) (by omega)
    obtain ⟨t, b', ht, l1, l2, b0, b1⟩ := hj0 q2 (a + 1) (by omega) (by omega)
    refine ⟨t, b', ev_succ ?_, l1, l2, by omega, by omega⟩
    simp only [spec_l3Draw.f]
    exact ev_pos h1 (ev_neg h2 (ev_bindq hq2 ht))
  ·obtain ⟨t, b', ht, l1, l2, b0, b1⟩ := hj0 false a (by omega) (by omega)
   refine ⟨t, b', ev_succ ?_, l1, l2, by omega, by omega⟩
   simp only [spec_l3Draw.f]
   exact ev_neg h1 ht
theorem l3Bent_l0 {c : List Int} (hc : Code c) : ∀ (d i : Nat) (x : List Int) (a : Int), i + d = 25 → x.length ≤ i → 0 ≤ a → a + 2 * d ≤ 1000000 → ∃ t b, Ev (fun k => spec_l3BentTerm.l0 k x (i : Int) c a) (t, b) ∧ t.length ≤ 25 ∧ a ≤ b ∧ b ≤ a + 2 * d + 1 := by
 intro d
 induction d with
 | zero =>
  intro i x a hi hx h0 h1
  obtain ⟨u, hu, hm⟩ := l1Pick_ex hc (a := a) h0 (by omega) [24, 25] (by simp) (by simp)
  refine ⟨x, a + 1, ev_succ ?_, by omega, by omega, by omega⟩
  simp only [spec_l3BentTerm.l0]
  have : u = 24 ∨ u = 25 := by simpa using hm
  exact ev_bindq hu (ev_neg (by simp only; omega) (ev_some _))
 | succ d ih =>
  intro i x a hi hx h0 h1
  obtain ⟨u, hu, hm⟩ := l1Pick_ex hc (a := a) h0 (by omega) [24, 25] (by simp) (by simp)
  by_cases h : (i : Int) < u
  ·obtain ⟨y, hy, _⟩ := l1Pick_ex hc (a := a + 1) (by omega) (by omega) [1, 2, 0] (by simp) (by simp)
   obtain ⟨t, b, ht, l1, b0, b1⟩ := ih (i + 1) (x ++ [y]) (a + 1 + 1) (by omega) (by simp; omega) (by omega) (by omega)
   refine ⟨t, b, ev_succ ?_, l1, by omega, by omega⟩
   simp only [spec_l3BentTerm.l0]
   refine ev_bindq hu (ev_pos h (ev_bindq hy (ev_pos (by omega) ?_)))
   rw [wrap_up (by omega)]
   exact ht
  ·refine ⟨x, a + 1, ev_succ ?_, by omega, by omega, by omega⟩
   simp only [spec_l3BentTerm.l0]
   exact ev_bindq hu (ev_neg h (ev_some _))
theorem l3Bent_ex {c : List Int} (hc : Code c) (l : List S90) (hl : l.length ≤ 7) (m : Nat) (m1 : 1 ≤ m) (m2 : m ≤ 100) (v : Int) (hv : v ≤ 1000) {a : Int} (a0 : 0 ≤ a) (a1 : a ≤ 10000) :
  ∃ t b, Ev (fun k => spec_l3BentTerm.f k c a [(⟨l⟩ : S26)] (m : Int) v) (t, b) ∧ t.length ≤ 110 ∧ a ≤ b ∧ b ≤ a + 400 := by
 have htrue : ∃ t b, Ev (fun k => spec_l3BentTerm.j0 k [(⟨l⟩ : S26)] (m : Int) v true c a) (t, b) ∧ t.length ≤ 110 ∧ a ≤ b ∧ b ≤ a + 400 := by
  refine ⟨[0], a, ev_succ ?_, by simp, by omega, by omega⟩
  simp only [spec_l3BentTerm.j0]
  exact ev_pos (by simp) (ev_some _)
 unfold spec_l3BentTerm.f
 simp only [rdSig0]
 by_cases h1 : (l.length : Int) < 1
 ·obtain ⟨t, b, ht, h⟩ := htrue
  exact ⟨t, b, ev_pos (by simp) (ev_pos h1 ht), h⟩
 have hS := SignatureFault_spec l
 by_cases hs : sigF l = 0
 ·have hr := right_of l hs
  have hz := zero_of l hs
  rw [hs] at hS
  obtain ⟨t, b, ht, l1, l2, b0, b1⟩ := l3Draw_ex hc hr hz v hv m m1 (by omega) a a0 (by omega)
  obtain ⟨q, hq⟩ := l1Chance_ex hc (a := b) (n := 11) (by omega) (by omega) (by omega)
  have key : ∃ t' b', Ev (fun k => spec_l3BentTerm.j0 k [(⟨l⟩ : S26)] (m : Int) v false c a) (t', b') ∧ t'.length ≤ 110 ∧ a ≤ b' ∧ b' ≤ a + 400 := by
   cases q with
   | false =>
    refine ⟨t, b + 1, ev_succ ?_, by omega, by omega, by omega⟩
    simp only [spec_l3BentTerm.j0]
    exact ev_neg (by simp) (ev_bind ht (ev_bindq hq (ev_neg (by simp) (ev_some _))))
   | true =>
    obtain ⟨x, hx, _, hb⟩ := l1Next_ex hc (a := b + 1) (n := 4) (by omega) (by omega) (by omega)
    obtain ⟨x0, x1⟩ := hb (by omega)
    have hw : wrap64 ((t.length : Int) - 1) = (t.length : Int) - 1 := wrap_id (by omega) (by omega)
    by_cases e0 : x = 0
    ·refine ⟨t.take ((t.length : Int) - 1).toNat, b + 1 + 1, ev_succ ?_, by rw [List.length_take]; omega, by omega, by omega⟩
     simp only [spec_l3BentTerm.j0]
     refine ev_neg (by simp) (ev_bind ht (ev_bindq hq (ev_pos rfl (ev_bindq hx (ev_pos e0 ?_)))))
     simp only [hw]
     exact ev_pos (by omega) (ev_pos (by omega) (ev_some _))
    by_cases e1 : x = 1
    ·refine ⟨t ++ [0], b + 1 + 1, ev_succ ?_, by simp; omega, by omega, by omega⟩
     simp only [spec_l3BentTerm.j0]
     exact ev_neg (by simp) (ev_bind ht (ev_bindq hq (ev_pos rfl (ev_bindq hx (ev_neg e0 (ev_pos e1 (ev_pos (by simp only; omega) (ev_some _))))))))
    by_cases e2 : x = 2
    ·obtain ⟨i, hi, _, hbi⟩ := l1Next_ex hc (a := b + 1 + 1) (n := (t.length : Int)) (by omega) (by omega) (by omega)
     obtain ⟨i0, i1⟩ := hbi (by omega)
     obtain ⟨y, hy, _⟩ := l1Pick_ex hc (a := b + 1 + 1 + 1) (by omega) (by omega) [(l.length : Int), (-13), (-12)] (by simp) (by simp)
     refine ⟨t.set i.toNat y, b + 1 + 1 + 1 + 1, ev_succ ?_, by rw [List.length_set]; omega, by omega, by omega⟩
     simp only [spec_l3BentTerm.j0, rdSig0]
     exact ev_neg (by simp) (ev_bind ht (ev_bindq hq (ev_pos rfl (ev_bindq hx (ev_neg e0 (ev_neg e1 (ev_pos e2 (ev_bindq hi (ev_pos (by simp) (ev_bindq hy (ev_pos i0 (ev_pos i1 (ev_some _)))))))))))))
    ·obtain ⟨u, b', hu, u1, b2, b3⟩ := l3Bent_l0 hc 25 0 [] (b + 1 + 1) (by omega) (by simp) (by omega) (by omega)
     refine ⟨u, b', ev_succ ?_, by omega, by omega, by omega⟩
     simp only [spec_l3BentTerm.j0]
     exact ev_neg (by simp) (ev_bind ht (ev_bindq hq (ev_pos rfl (ev_bindq hx (ev_neg e0 (ev_neg e1 (ev_neg e2 hu)))))))
  obtain ⟨t', b', ht', h⟩ := key
  exact ⟨t', b', ev_pos (by simp) (ev_neg h1 (ev_bind hS ht')), h⟩
 ·obtain ⟨t, b, ht, h⟩ := htrue
  refine ⟨t, b, ev_pos (by simp) (ev_neg h1 (ev_bind hS ?_)), h⟩
  have : (sigF l != 0) = true := by simpa using hs
  rw [this]
  exact ht
theorem l3One_ex {c : List Int} (hc : Code c) : ∃ g t b, Ev (fun k => spec_l3One.f k c) (g, t, c, b) ∧ g.length ≤ 7 ∧ t.length ≤ 110 ∧ 0 ≤ b ∧ b ≤ 1000 := by
 unfold spec_l3One.f spec_l1Source.f
 obtain ⟨g, b, hg, gl, b0, b1⟩ := l2Bent_ex hc (a := 0) (by omega) (by omega)
 obtain ⟨m, hm, hmm⟩ := l1Pick_ex hc (a := b) (by omega) (by omega) [3, 6, 10, 16, 24] (by simp) (by simp)
 obtain ⟨v, hv, hvm⟩ := l1Pick_ex hc (a := b + 1) (by omega) (by omega) [0, 3, 6, 12] (by simp) (by simp)
 have hm' : m = 3 ∨ m = 6 ∨ m = 10 ∨ m = 16 ∨ m = 24 := by simpa using hmm
 have hv' : v = 0 ∨ v = 3 ∨ v = 6 ∨ v = 12 := by simpa using hvm
 obtain ⟨n, rfl⟩ := Int.eq_ofNat_of_zero_le (show 0 ≤ m by omega)
 obtain ⟨t, d, ht, tl, d0, d1⟩ := l3Bent_ex hc g gl n (by omega) (by omega) v (by omega) (a := b + 1 + 1) (by omega) (by omega)
 exact ⟨g, t, d, ev_bindq rfl (ev_bind hg (ev_bindq hm (ev_bindq hv (ev_bind ht (ev_some _))))), gl, tl, by omega, by omega⟩
theorem put_size (x : ByteArray) (i y : Int) : (spec_l4Spoil.put x i y).size = x.size := by
 show ((x.data.toList.set _ _).toArray).size = x.data.size
 simp
theorem spoil_ex {c : List Int} (hc : Code c) (t : ByteArray) (ht : t.size ≤ 1000) {a : Int} (a0 : 0 ≤ a) (a1 : a ≤ 10000) : ∃ u b, Ev (fun k => spec_l4Spoil.f k c a t) (u, b) ∧ u.size ≤ 2001 := by
 unfold spec_l4Spoil.f
 by_cases h : (t.size : Int) < 1
 ·refine ⟨t, a, ev_pos h (ev_succ ?_), by omega⟩
  simp only [spec_l4Spoil.j0]
  exact ev_pos (by simp) (ev_some _)
 obtain ⟨q, hq⟩ := l1Chance_ex hc (a := a) (n := 4) a0 (by omega) (by omega)
 cases q with
 | false =>
  refine ⟨t, a + 1, ev_neg h (ev_bindq hq (ev_succ ?_)), by omega⟩
  simp only [spec_l4Spoil.j0]
  exact ev_pos (by simp) (ev_some _)
 | true =>
  obtain ⟨n, hn, _, hnb⟩ := l1Next_ex hc (a := a + 1) (n := (t.size : Int)) (by omega) (by omega) (by omega)
  obtain ⟨n0, n1⟩ := hnb (by omega)
  obtain ⟨m, hm, _, _⟩ := l1Next_ex hc (a := a + 1 + 1) (n := 3) (by omega) (by omega) (by omega)
  have hx : ∀ i j, (t.extract i j).size ≤ t.size := fun i j => by rw [ByteArray.size_extract]; omega
  by_cases e0 : m = 0
  ·obtain ⟨y, hy, _⟩ := l1Pick_ex hc (a := a + 1 + 1 + 1) (by omega) (by omega) [40, 41, 44, 61, 65, 76, 77, 97, 32] (by simp) (by simp)
   refine ⟨spec_l4Spoil.put t n y, a + 1 + 1 + 1 + 1, ev_neg h (ev_bindq hq (ev_succ ?_)), by rw [put_size]; omega⟩
   simp only [spec_l4Spoil.j0]
   exact ev_neg (by simp) (ev_bindq hn (ev_bindq hm (ev_pos e0 (ev_bindq hy (ev_pos n0 (ev_pos n1 (ev_some _)))))))
  ·by_cases e1 : m = 1
   ·refine ⟨t.extract 0 n.toNat, a + 1 + 1 + 1, ev_neg h (ev_bindq hq (ev_succ ?_)), by have := hx 0 n.toNat; omega⟩
    simp only [spec_l4Spoil.j0]
    exact ev_neg (by simp) (ev_bindq hn (ev_bindq hm (ev_neg e0 (ev_pos e1 (ev_pos n0 (ev_pos (by simp only; omega) (ev_some _)))))))
   ·obtain ⟨y, hy, _⟩ := l1Pick_ex hc (a := a + 1 + 1 + 1) (by omega) (by omega) [40, 41, 44, 61, 66, 101, 32] (by simp) (by simp)
    have x0 := hx 0 n.toNat
    have x1 := hx n.toNat t.size
    have x2 : (strOfNums [y % 256]).size = 1 := by rw [strOfNums_size]; rfl
    refine ⟨(t.extract 0 n.toNat ++ strOfNums [y % 256]) ++ t.extract n.toNat t.size, a + 1 + 1 + 1 + 1, ev_neg h (ev_bindq hq (ev_succ ?_)), by rw [ByteArray.size_append, ByteArray.size_append]; omega⟩
    simp only [spec_l4Spoil.j0]
    exact ev_neg (by simp) (ev_bindq hn (ev_bindq hm (ev_neg e0 (ev_neg e1 (ev_pos n0 (ev_pos (by simp only; omega) (ev_bindq hy (ev_bindq rfl (ev_pos (by simp only; omega) (ev_pos (by simp only [ByteArray.size_append]; omega) (ev_some _)))))))))))
theorem l4Pool_l0 {c : List Int} (hc : Code c) {l : List S90} (hr : Right l) (hz : ∃ z : Nat, z < l.length ∧ (rd_T90 l (z : Int)).f1 = 0) (xs : List ByteArray) (hn : xs.length ≤ 100) (h0 : 0 < xs.length) (hx : ∀ j, (rdOf ByteArray.empty xs j).size ≤ 1048576) (n : Int) (n0 : 0 ≤ n) (n1 : n < 1000) {a : Int} (a0 : 0 ≤ a) (a1 : a ≤ 10000) :
  ∀ (d i : Nat), i + d = xs.length → ∃ u v b, Ev (fun k => spec_l4Pool.l0 k [(⟨l⟩ : S26)] xs (xs.length : Int) n (i : Int) c a) (u, v, b) ∧ u.length ≤ 1000 ∧ v.length ≤ 1000 ∧ a ≤ b ∧ b ≤ a + 30 := by
 intro d
 induction d with
 | zero =>
  intro i hi
  obtain ⟨u, b, hu, u1, u2, b0, b1⟩ := l3Draw_ex hc hr hz 2 (by omega) 4 (by omega) (by omega) a a0 (by omega)
  obtain ⟨v, e, hv, v1, v2, e0, e1⟩ := l3Draw_ex hc hr hz 2 (by omega) 2 (by omega) (by omega) b (by omega) (by omega)
  refine ⟨u, v, e, ev_succ ?_, by omega, by omega, by omega, by omega⟩
  simp only [spec_l4Pool.l0]
  exact ev_neg (by omega) (ev_bind hu (ev_bind hv (ev_some _)))
 | succ d ih =>
  intro i hi
  obtain ⟨u, v, b, hu, u1, v1, b0, b1⟩ := ih (i + 1) (by omega)
  obtain ⟨m0, m1⟩ := tmod_in (x := n + (i : Int)) (n := (xs.length : Int)) (by omega) (by omega)
  have hw : wrap64 (n + (i : Int)) = n + (i : Int) := wrap_id (by omega) (by omega)
  have hR := ReadEquation_spec l (rdOf ByteArray.empty xs (Int.tmod (n + (i : Int)) (xs.length : Int))) (hx _)
  have hL := reqR_length l (rdOf ByteArray.empty xs (Int.tmod (n + (i : Int)) (xs.length : Int)))
  by_cases h : (reqR l (rdOf ByteArray.empty xs (Int.tmod (n + (i : Int)) (xs.length : Int)))).1 = 0
  ·refine ⟨_, _, a, ev_succ ?_, hL.1, hL.2, by omega, by omega⟩
   simp only [spec_l4Pool.l0, rdSig0]
   rw [hw]
   exact ev_pos (by omega) (ev_pos (by simp) (ev_neg (by omega) (ev_pos m0 (ev_pos m1 (ev_bind hR (ev_pos h (ev_some _)))))))
  ·refine ⟨u, v, b, ev_succ ?_, u1, v1, b0, b1⟩
   simp only [spec_l4Pool.l0, rdSig0]
   rw [hw, wrap_up (by omega)]
   exact ev_pos (by omega) (ev_pos (by simp) (ev_neg (by omega) (ev_pos m0 (ev_pos m1 (ev_bind hR (ev_neg h hu))))))
theorem l4Pool_ex {c : List Int} (hc : Code c) {l : List S90} (hr : Right l) (hz : ∃ z : Nat, z < l.length ∧ (rd_T90 l (z : Int)).f1 = 0) {a : Int} (a0 : 0 ≤ a) (a1 : a ≤ 9000) :
  ∃ u v b, Ev (fun k => spec_l4Pool.f k c a [(⟨l⟩ : S26)]) (u, v, b) ∧ u.length ≤ 1000 ∧ v.length ≤ 1000 ∧ a ≤ b ∧ b ≤ a + 40 := by
 have key : ∀ xs : List ByteArray, xs.length = 18 → (∀ x ∈ xs, x.size ≤ 100) → ∃ u v b, Ev (fun k => (some xs).bind fun y810 => ((spec_l1Next.f c a (y810.length : Int)).bind fun bt813 => (spec_l4Pool.l0 k [(⟨l⟩ : S26)] y810 (y810.length : Int) bt813.1 0 c bt813.2))) (u, v, b) ∧ u.length ≤ 1000 ∧ v.length ≤ 1000 ∧ a ≤ b ∧ b ≤ a + 40 := by
  intro xs hl hs
  obtain ⟨n, hn, _, hb⟩ := l1Next_ex hc (a := a) (n := (xs.length : Int)) a0 (by omega) (by omega)
  obtain ⟨n0, n1⟩ := hb (by omega)
  have hx : ∀ j, (rdOf ByteArray.empty xs j).size ≤ 1048576 := by
   intro j
   unfold rdOf
   rw [List.getD_eq_getElem?_getD]
   cases hq : xs[j.toNat]? with
   | none => simp [ByteArray.size]
   | some x =>
    have := hs x (List.mem_of_getElem? hq)
    simp only [Option.getD_some]; omega
  obtain ⟨u, v, b, hu, u1, v1, b0, b1⟩ := l4Pool_l0 hc hr hz xs (by omega) (by omega) hx n n0 (by omega) (a := a + 1) (by omega) (by omega) xs.length 0 (by omega)
  exact ⟨u, v, b, ev_bindq rfl (ev_bindq hn hu), u1, v1, by omega, by omega⟩
 unfold spec_l4Pool.f
 exact key _ rfl (by
  intro x hx
  simp only [List.mem_cons, List.not_mem_nil, or_false] at hx
  rcases hx with rfl | rfl | rfl | rfl | rfl | rfl | rfl | rfl | rfl | rfl | rfl | rfl | rfl | rfl | rfl | rfl | rfl | rfl <;> decide)
theorem l4Draw_ex {c : List Int} (hc : Code c) {l : List S90} (hr : Right l) (hz : ∃ z : Nat, z < l.length ∧ (rd_T90 l (z : Int)).f1 = 0) {a : Int} (a0 : 0 ≤ a) (a1 : a ≤ 5000) :
  ∃ u v b, Ev (fun k => spec_l4Draw.f k c a [(⟨l⟩ : S26)]) (u, v, b) ∧ u.length ≤ 1000 ∧ v.length ≤ 1000 ∧ a ≤ b ∧ b ≤ a + 200 := by
 unfold spec_l4Draw.f
 obtain ⟨q, hq⟩ := l1Chance_ex hc (a := a) (n := 4) a0 (by omega) (by omega)
 cases q with
 | true =>
  obtain ⟨m, hm, hmm⟩ := l1Pick_ex hc (a := a + 1) (by omega) (by omega) [4, 7, 9] (by simp) (by simp)
  have hm' : m = 4 ∨ m = 7 ∨ m = 9 := by simpa using hmm
  obtain ⟨m, rfl⟩ := Int.eq_ofNat_of_zero_le (show 0 ≤ m by omega)
  obtain ⟨u, b, hu, u1, u2, b0, b1⟩ := l3Draw_ex hc hr hz 3 (by omega) m (by omega) (by omega) (a + 1 + 1) (by omega) (by omega)
  obtain ⟨n, hn, hnn⟩ := l1Pick_ex hc (a := b) (by omega) (by omega) [1, 3, 5] (by simp) (by simp)
  have hn' : n = 1 ∨ n = 3 ∨ n = 5 := by simpa using hnn
  obtain ⟨n, rfl⟩ := Int.eq_ofNat_of_zero_le (show 0 ≤ n by omega)
  obtain ⟨v, e, hv, v1, v2, e0, e1⟩ := l3Draw_ex hc hr hz 3 (by omega) n (by omega) (by omega) (b + 1) (by omega) (by omega)
  exact ⟨u, v, e, ev_bindq hq (ev_pos rfl (ev_bindq hm (ev_bind hu (ev_bindq hn (ev_bind hv (ev_some _)))))), by omega, by omega, by omega, by omega⟩
 | false =>
  obtain ⟨u, v, b, hu, u1, v1, b0, b1⟩ := l4Pool_ex hc hr hz (a := a + 1) (by omega) (by omega)
  exact ⟨u, v, b, ev_bindq hq (ev_neg (by simp) (ev_bind hu (ev_some _))), u1, v1, by omega, by omega⟩
theorem l4Bent_ex {c : List Int} (hc : Code c) (l : List S90) (hl : l.length ≤ 7) {a : Int} (a0 : 0 ≤ a) (a1 : a ≤ 1000) :
  ∃ u v b, Ev (fun k => spec_l4BentEquation.f k c a [(⟨l⟩ : S26)]) (u, v, b) ∧ u.length ≤ 1000 ∧ v.length ≤ 1000 ∧ a ≤ b ∧ b ≤ a + 1000 := by
 unfold spec_l4BentEquation.f
 simp only [rdSig0]
 by_cases hs : sigF l = 0
 ·have hr := right_of l hs
  have hz := zero_of l hs
  have hS := SignatureFault_spec l
  rw [hs] at hS
  obtain ⟨q, hq⟩ := l1Chance_ex hc (a := a) (n := 6) a0 (by omega) (by omega)
  cases q with
  | true =>
   obtain ⟨u, b, hu, u1, b0, b1⟩ := l3Bent_ex hc l hl 9 (by omega) (by omega) 7 (by omega) (a := a + 1) (by omega) (by omega)
   obtain ⟨v, e, hv, v1, e0, e1⟩ := l3Bent_ex hc l hl 5 (by omega) (by omega) 12 (by omega) (a := b) (by omega) (by omega)
   exact ⟨u, v, e, ev_pos (by simp) (ev_bind hS (ev_pos rfl (ev_bindq hq (ev_pos rfl (ev_bind hu (ev_bind hv (ev_some _))))))), by omega, by omega, by omega, by omega⟩
  | false =>
   obtain ⟨u, v, b, hu, u1, v1, b0, b1⟩ := l4Draw_ex hc hr hz (a := a + 1) (by omega) (by omega)
   exact ⟨u, v, b, ev_pos (by simp) (ev_bind hS (ev_pos rfl (ev_bindq hq (ev_neg (by simp) (ev_bind hu (ev_some _)))))), u1, v1, by omega, by omega⟩
 ·have hS := SignatureFault_spec l
  exact ⟨[0], [0], a, ev_pos (by simp) (ev_bind hS (ev_neg hs (ev_some _))), by simp, by simp, by omega, by omega⟩
theorem lwNums_l0 (a b : List Int) (hab : a.length = b.length) (hl : a.length ≤ 9223372036854775807) : ∀ (d i : Nat), i + d = a.length → Ev (fun k => laws_lwNums.l0 k a b (i : Int)) (decide (a.drop i = b.drop i)) := by
 intro d
 induction d with
 | zero =>
  intro i hi
  refine ev_succ ?_
  simp only [laws_lwNums.l0]
  refine ev_neg (by omega) ?_
  rw [List.drop_eq_nil_of_le (by omega), List.drop_eq_nil_of_le (by omega)]
  exact ev_some _
 | succ d ih =>
  intro i hi
  refine ev_succ ?_
  simp only [laws_lwNums.l0]
  refine ev_pos (by omega) (ev_pos (by omega) (ev_pos (by omega) ?_))
  rw [rd_drop a i (by omega), rd_drop b i (by omega)]
  by_cases h : rd a (i : Int) = rd b (i : Int)
  ·refine ev_pos h ?_
   rw [wrap_up (by omega)]
   refine ev_to (ih (i + 1) (by omega)) ?_
   simp [h]
  ·refine ev_neg h ?_
   refine ev_to (ev_some _) ?_
   simp [h]
theorem lwNums_ev (a b : List Int) (hl : a.length ≤ 9223372036854775807) : Ev (fun k => laws_lwNums.f k a b) (decide (a = b)) := by
 unfold laws_lwNums.f
 by_cases h : a.length = b.length
 ·refine ev_pos (by omega) ?_
  exact lwNums_l0 a b h hl a.length 0 (by omega)
 ·refine ev_neg (by omega) ?_
  refine ev_to (ev_some _) ?_
  have : ¬ a = b := fun e => h (by rw [e])
  simp [this]
theorem lwNums_same (a : List Int) (hl : a.length ≤ 9223372036854775807) : Ev (fun k => laws_lwNums.f k a a) true := ev_to (lwNums_ev a a hl) (by simp)
theorem DrawReadTerm_ex {c : List Int} (hc : Code c) : ∃ g s, Ev (fun k => spec_DrawReadTerm.f k c) (g, s) ∧ s.size ≤ 2001 := by
 unfold spec_DrawReadTerm.f
 obtain ⟨g, t, b, h, gl, tl, b0, b1⟩ := l3One_ex hc
 have hT := TermText_spec g t (by omega)
 have hs : (textR g t).2.size ≤ 1000 := by
  unfold textR
  by_cases h : termF g t = 0
  ·rw [if_pos h]
   have hR := rightT_of h
   obtain ⟨t1, t2, _, _⟩ := right_parts h
   have := txtA_size hR.sig hR.nodes t2 (a := 0) (by omega) hR.whole
   simp only; omega
  ·rw [if_neg h]
   show (ByteArray.mk #[]).size ≤ 1000
   decide
 obtain ⟨u, d, hu, us⟩ := spoil_ex hc (textR g t).2 hs (a := b) b0 (by omega)
 exact ⟨g, u, ev_bind h (ev_bind hT (ev_bind hu (ev_some _))), us⟩
theorem DrawEquation_ex {c : List Int} (hc : Code c) : ∃ g a b, Ev (fun k => spec_DrawEquationText.f k c) (g, a, b) ∧ a.length ≤ 1000 ∧ b.length ≤ 1000 := by
 unfold spec_DrawEquationText.f spec_DrawEquationFault.f spec_l4One.f spec_l1Source.f
 obtain ⟨g, b, hg, gl, b0, b1⟩ := l2Bent_ex hc (a := 0) (by omega) (by omega)
 obtain ⟨u, v, d, h, ul, vl, d0, d1⟩ := l4Bent_ex hc g gl (a := b) (by omega) (by omega)
 exact ⟨g, u, v, ev_bind (ev_bind (ev_bindq rfl (ev_bind hg (ev_bind h (ev_some _)))) (ev_some _)) (ev_some _), ul, vl⟩
theorem FnTexts (c : List Int) (hc0 : c.length ≤ maxLen ∧ ∀ x ∈ c, (Lit.int .u8 x).wf = true) : ∃ k, laws_FnTexts.f k c = some true := by
 obtain ⟨hm, hw⟩ := hc0
 refine ev_ex (g := fun k => laws_FnTexts.f k c) ?_
 unfold laws_FnTexts.f laws_lwBig.f
 by_cases hbig : (c.length : Int) > 1048576
 ·exact ev_bindq rfl (ev_pos (by simpa using hbig) (ev_some _))
 have hc : Code c := ⟨fun x hx => wf_u8 (hw x hx), by omega⟩
 refine ev_bindq rfl (ev_neg (by simpa using hbig) ?_)
 obtain ⟨l, s, hD, sl⟩ := DrawReadTerm_ex hc
 obtain ⟨g, a, b, hE, al, bl⟩ := DrawEquation_ex hc
 have h1 := ReadTerm_impl l s (by omega)
 have h2 := ReadTerm_spec l s (by omega)
 have h3 := EquationText_impl g a b (by omega) (by omega)
 have h4 := EquationFault_spec g a b (by omega) (by omega)
 have h5 := EquationFault_impl g a b (by omega) (by omega)
 have e5 : (sayR g a b).1 = equF g a b := by
  unfold sayR
  by_cases h : equF g a b = 0
  ·rw [if_pos h, h]
  ·rw [if_neg h]
 refine ev_bind hD (ev_bind h1 (ev_bind hE (ev_bind h3 (ev_bind h2 (ev_pos rfl (ev_bind h4 (ev_pos e5 (ev_bind h5 (ev_succ ?_)))))))))
 simp only [laws_FnTexts.j0, e5]
 refine ev_neg (by simp) ?_
 -- behind the term's text
 have key : Ev (fun k => laws_FnTexts.j1 k false g a b (equF g a b) (sayR g a b).2) true := by
  refine ev_succ ?_
  simp only [laws_FnTexts.j1]
  refine ev_neg (by simp) ?_
  by_cases h : equF g a b = 0
  ·obtain ⟨ra, rb⟩ := equF_zero h
   have hs : (sayR g a b).2 = sayA g a b := by unfold sayR; rw [if_pos h]
   obtain ⟨z1, z2, z3⟩ := say_sizes ra rb
   have hz : (sayA g a b).size ≤ 1048576 := by unfold sayA; rw [ByteArray.size_append]; omega
   have ta : termF g a = 0 := equF_left h
   have k1 := ReadEquation_impl g (sayA g a b) hz
   rw [req_own h] at k1
   have k2 := TermText_impl g a (by omega)
   have ex : textR g a = (0, txtA g a 0) := by unfold textR; rw [if_pos ta]
   rw [ex] at k2
   have k3 := ReadTerm_impl g (txtA g a 0) (by omega)
   rw [rt_own ta] at k3
   rw [hs]
   exact ev_pos h (ev_bind k1 (ev_bind k2 (ev_bind k3 (ev_pos rfl (ev_bind (lwNums_same a (by omega)) (ev_pos rfl (ev_bind (lwNums_same b (by omega)) (ev_pos rfl (ev_bind (lwNums_same a (by omega)) (ev_some _))))))))))
  ·exact ev_neg h (ev_some _)
 by_cases hr : (rtR l s).1 = 0
 ·have ht := rt_text hr
  have hl := rtR_length l s
  have k1 := TermText_impl l (rtR l s).2 (by omega)
  rw [ht] at k1
  refine ev_pos hr (ev_bind k1 ?_)
  simp only [beq_self_eq_true, Bool.not_true, Bool.or_self]
  exact key
 ·exact ev_neg hr key
end Go.Proofs.YtbdpnkpienpnaaaGreatDoor.Pure
