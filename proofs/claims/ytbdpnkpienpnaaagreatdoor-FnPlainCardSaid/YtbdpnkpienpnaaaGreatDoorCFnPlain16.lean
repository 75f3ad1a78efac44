/- A part of the proof of the law FnPlain. -/
import Derived.Lib.Slices
import Derived.Lib.SlicesCompact
import Derived.Lib.RowBridge
import Derived.Lib.Bytes
import Derived.Laws.StructEq
import Derived.Test.YtbdpnkpienpnaaaGreatDoorCFnPlain0
import Derived.Test.YtbdpnkpienpnaaaGreatDoorCFnPlain1
import Derived.Test.YtbdpnkpienpnaaaGreatDoorCFnPlain2
import Derived.Test.YtbdpnkpienpnaaaGreatDoorCFnPlain3
import Derived.Test.YtbdpnkpienpnaaaGreatDoorCFnPlain4
import Derived.Test.YtbdpnkpienpnaaaGreatDoorCFnPlain5
import Derived.Test.YtbdpnkpienpnaaaGreatDoorCFnPlain6
import Derived.Test.YtbdpnkpienpnaaaGreatDoorCFnPlain7
import Derived.Test.YtbdpnkpienpnaaaGreatDoorCFnPlain8
import Derived.Test.YtbdpnkpienpnaaaGreatDoorCFnPlain9
import Derived.Test.YtbdpnkpienpnaaaGreatDoorCFnPlain10
import Derived.Test.YtbdpnkpienpnaaaGreatDoorCFnPlain11
import Derived.Test.YtbdpnkpienpnaaaGreatDoorCFnPlain12
import Derived.Test.YtbdpnkpienpnaaaGreatDoorCFnPlain13
import Derived.Test.YtbdpnkpienpnaaaGreatDoorCFnPlain14
import Derived.Test.YtbdpnkpienpnaaaGreatDoorCFnPlain15
set_option linter.unusedVariables false
namespace Go.Proofs.YtbdpnkpienpnaaaGreatDoor.Pure
open Go.RowKit Go.Proofs.YtbdpnkpienpnaaaGreatDoor.P Go.Proofs.YtbdpnkpienpnaaaGreatDoorW.PrintWords Go.Proofs.YtbdpnkpienpnaaaGreatDoorW.PrintLast Go.Proofs.YtbdpnkpienpnaaaGreatDoor.Base
theorem bt_get (s : ByteArray) (i : Nat) (h : i < s.data.toList.length) : bt s (i : Int) = ((s.data.toList[i]).toNat : Int) := by
 have hs : i < s.size := by rw [Lib.size_eq]; exact h
 unfold bt
 rw [dif_pos (by simpa using hs)]
 rfl
theorem l2Name_l0 (s : ByteArray) (hl : s.size ≤ 3) : ∀ (d i : Nat), i + d = s.size → Ev (fun k => spec_l2Name.l0 k s (i : Int)) ((s.data.toList.drop i).all Aj6) := by
 have hz := Lib.size_eq s
 intro d
 induction d with
 | zero =>
  intro i hi
  refine Ac6 ?_
  simp only [spec_l2Name.l0]
  refine Ab2 (by omega) (Ag0 (Aa9 _) ?_)
  rw [List.drop_eq_nil_of_le (by omega)]; rfl
 | succ d ih =>
  intro i hi
  have hi' : i < s.data.toList.length := by omega
  refine Ac6 ?_
  simp only [spec_l2Name.l0]
  refine Aa5 (by omega) (Aa5 (by omega) ?_)
  rw [bt_get s i hi', List.drop_eq_getElem_cons hi', Ae0 (by omega)]
  generalize s.data.toList[i] = b
  by_cases h1 : (b.toNat : Int) < 97
  ·refine Aa5 h1 (Ag0 (Aa9 _) ?_)
   have : Aj6 b = false := by unfold Aj6; simp; omega
   simp [this]
  refine Ab2 h1 ?_
  by_cases h2 : (b.toNat : Int) > 122
  ·refine Aa5 h2 (Ag0 (Aa9 _) ?_)
   have : Aj6 b = false := by unfold Aj6; simp; omega
   simp [this]
  refine Ab2 h2 (Ag0 (ih (i + 1) (by omega)) ?_)
  have : Aj6 b = true := by unfold Aj6; simp; omega
  simp [this]
theorem l2Name_ev (s : ByteArray) : Ev (fun k => spec_l2Name.f k s) (Aq0 s) := by
 unfold spec_l2Name.f Aq0
 by_cases h1 : (s.size : Int) < 1
 ·refine Aa5 h1 (Ac6 ?_)
  simp only [spec_l2Name.j0]
  exact Aa5 (by simp) (Ag0 (Aa9 _) (by simp; omega))
 refine Ab2 h1 (Ac6 ?_)
 simp only [spec_l2Name.j0]
 by_cases h2 : (s.size : Int) > 3
 ·exact Aa5 (by simpa using h2) (Ag0 (Aa9 _) (by simp; omega))
 refine Ab2 (by simpa using h2) (Ag0 (l2Name_l0 s (by omega) s.size 0 (by omega)) ?_)
 have : decide (1 ≤ s.size ∧ s.size ≤ 3) = true := by simp; omega
 rw [this]; rfl
theorem isName_eq (s : ByteArray) : impl_isName.f s = some (Aq0 s) := by
 unfold impl_isName.f Aq0
 by_cases h1 : (s.size : Int) ≥ 1
 ·rw [if_pos h1]
  by_cases h2 : (s.size : Int) ≤ 3
  ·rw [if_pos h2]
   have ht : strings_Trim.f s abc = some ⟨(Lib.trimS s.data.toList abc.data.toList).toArray⟩ := by
    unfold strings_Trim.f
    exact if_pos ⟨by omega, by decide, by decide +kernel⟩
   refine bind_eq ht ?_
   have : decide (1 ≤ s.size ∧ s.size ≤ 3) = true := by simp; omega
   rw [this, Lib.toList_data]
   simp only [Bool.true_and]
   rw [← trim_abc]
  ·rw [if_neg h2]
   have : decide (1 ≤ s.size ∧ s.size ≤ 3) = false := by simp; omega
   rw [this]; rfl
 ·rw [if_neg h1]
  have : decide (1 ≤ s.size ∧ s.size ≤ 3) = false := by simp; omega
  rw [this]; rfl
def Ah1 (l : List S90) (i : Nat) : List UInt8 := (Aa7 l (i : Int)).f0.toList
def Ai5 (l : List S90) (i : Nat) : Option Int :=
 if Aq0 (Aa7 l (i : Int)).f0 = true then (if 0 ≤ (Aa7 l (i : Int)).f1 ∧ (Aa7 l (i : Int)).f1 ≤ 2 then none else some 3) else some 5
def Ax3 (l : List S90) (i : Nat) : Bool := (Ag1 (fun j => Ah1 l i == Ah1 l j) i 0).isSome
def Ag5 (l : List S90) (i : Nat) : Option Int := if Ax3 l i = true then some 6 else none
def Am8 (l : List S90) : Bool := (Ag1 (fun j => (Aa7 l (j : Int)).f1 == 0) l.length 0).isSome
def As4 (l : List S90) : Int :=
 if l.length < 1 ∨ l.length > 6 then 2 else Am1 (Ai5 l) (Am1 (Ag5 l) (if Am8 l = true then 0 else 4) l.length 0) l.length 0
theorem Ap1 (a b c : Int) : impl_within.f a b c = some (decide (b ≤ a ∧ a ≤ c)) := by
 unfold impl_within.f
 by_cases h : a ≥ b
 ·rw [if_pos h]
  by_cases h' : a ≤ c
  ·simp [h']; omega
  ·simp [h']
 ·rw [if_neg h]
  simp; omega
theorem Au9 (a b c : Int) : spec_l1In.f a b c = some (decide (b ≤ a ∧ a ≤ c)) := by
 unfold spec_l1In.f
 by_cases h : a ≥ b
 ·rw [if_pos h]
  by_cases h' : a ≤ c
  ·simp [h']; omega
  ·simp [h']
 ·rw [if_neg h]
  simp; omega
theorem Sig_l3 (l : List S90) (hl : l.length ≤ 6) : Ev (fun k => spec_SignatureFault.l3 k (l.length : Int) 0 l) (if Am8 l = true then 0 else 4) := by
 have h := Ag6 l.length (fun j => if ((Aa7 l (j : Int)).f1 == 0) = true then some 0 else none) 4 (fun k i => spec_SignatureFault.l3 k (l.length : Int) i l)
  (by simp only [spec_SignatureFault.l3]; exact Ab2 (by omega) (Aa9 _))
  (fun i hi r hr => by
   simp only [spec_SignatureFault.l3]
   refine Aa5 (by omega) (Aa5 (by omega) (Aa5 (by omega) ?_))
   rw [Ae0 (by omega)]
   by_cases h : (Aa7 l (i : Int)).f1 = 0
   ·refine Aa5 h (Ag0 (Aa9 _) (by simp [h]))
   ·refine Ab2 h (Ag0 hr (by simp [h])))
  l.length 0 (by omega)
 refine Ag0 h ?_
 rw [Ai7 (fun j => (Aa7 l (j : Int)).f1 == 0) (fun _ => (0 : Int)) 4]
 unfold Am8
 cases Ag1 (fun j => (Aa7 l (j : Int)).f1 == 0) l.length 0 <;> rfl
theorem Sig_l2 (l : List S90) (hl : l.length ≤ 6) (i : Nat) (hi : i < l.length) (r : Int) (hr : Ev (fun k => spec_SignatureFault.l1 k (l.length : Int) ((i + 1 : Nat) : Int) l) r) :
  Ev (fun k => spec_SignatureFault.l2 k (l.length : Int) (i : Int) 0 l) ((Ag5 l i).getD r) := by
 have h := Ag6 i (fun j => if (Ah1 l i == Ah1 l j) = true then some 6 else none) r (fun k j => spec_SignatureFault.l2 k (l.length : Int) (i : Int) j l)
  (by simp only [spec_SignatureFault.l2]; refine Ab2 (by omega) ?_; rw [Ae0 (by omega)]; exact hr)
  (fun j hj r hr => by
   simp only [spec_SignatureFault.l2]
   refine Aa5 (by omega) (Aa5 (by omega) (Aa5 (by omega) (Aa5 (by omega) (Aa5 (by omega) ?_))))
   rw [Ae0 (by omega)]
   by_cases h : Ah1 l i = Ah1 l j
   ·refine Aa5 h (Ag0 (Aa9 _) (by simp [h]))
   ·refine Ab2 h (Ag0 hr (by simp [h])))
  i 0 (by omega)
 refine Ag0 h ?_
 rw [Ai7 (fun j => Ah1 l i == Ah1 l j) (fun _ => (6 : Int)) r]
 unfold Ag5 Ax3
 cases Ag1 (fun j => Ah1 l i == Ah1 l j) i 0 <;> rfl
theorem Sig_l1 (l : List S90) (hl : l.length ≤ 6) : Ev (fun k => spec_SignatureFault.l1 k (l.length : Int) 0 l) (Am1 (Ag5 l) (if Am8 l = true then 0 else 4) l.length 0) :=
 Ag6 l.length (Ag5 l) (if Am8 l = true then 0 else 4) (fun k i => spec_SignatureFault.l1 k (l.length : Int) i l)
  (by simp only [spec_SignatureFault.l1]; exact Ab2 (by omega) (Sig_l3 l hl))
  (fun i hi r hr => by
   simp only [spec_SignatureFault.l1]
   exact Aa5 (by omega) (Sig_l2 l hl i hi r hr))
  l.length 0 (by omega)
theorem Sig_l0 (l : List S90) (hl : l.length ≤ 6) : Ev (fun k => spec_SignatureFault.l0 k (l.length : Int) 0 l) (Am1 (Ai5 l) (Am1 (Ag5 l) (if Am8 l = true then 0 else 4) l.length 0) l.length 0) :=
 Ag6 l.length (Ai5 l) _ (fun k i => spec_SignatureFault.l0 k (l.length : Int) i l)
  (by simp only [spec_SignatureFault.l0]; exact Ab2 (by omega) (Sig_l1 l hl))
  (fun i hi r hr => by
   simp only [spec_SignatureFault.l0]
   refine Aa5 (by omega) (Aa5 (by omega) (Aa5 (by omega) (Ac5 (l2Name_ev _) ?_)))
   unfold Ai5
   by_cases h : Aq0 (Aa7 l (i : Int)).f0 = true
   ·refine Aa5 h (Ab9 (Au9 _ _ _) ?_)
    rw [if_pos h, Ae0 (by omega)]
    by_cases h' : 0 ≤ (Aa7 l (i : Int)).f1 ∧ (Aa7 l (i : Int)).f1 ≤ 2
    ·rw [if_pos h']
     exact Aa5 (by simpa using h') hr
    ·rw [if_neg h']
     exact Ab2 (by simpa using h') (Aa9 _)
   ·rw [if_neg h]
    exact Ab2 h (Aa9 _))
  l.length 0 (by omega)
theorem SignatureFault_spec (l : List S90) : Ev (fun k => spec_SignatureFault.f k l) (As4 l) := by
 unfold spec_SignatureFault.f As4
 by_cases h1 : (l.length : Int) < 1
 ·rw [if_pos (.inl (by omega))]
  refine Aa5 h1 (Ac6 ?_)
  simp only [spec_SignatureFault.j0]
  exact Aa5 (by simp) (Aa9 _)
 refine Ab2 h1 (Ac6 ?_)
 simp only [spec_SignatureFault.j0]
 by_cases h2 : (l.length : Int) > 6
 ·rw [if_pos (.inr (by omega))]
  exact Aa5 (by simpa using h2) (Aa9 _)
 ·rw [if_neg (by omega)]
  exact Ab2 (by simpa using h2) (Sig_l0 l (by omega))
theorem symbolIndex_ev (l : List S90) (hl : l.length ≤ 1048576) (s : ByteArray) : Ev (fun k => impl_symbolIndex.f k l s) (An2 (fun j => Ah1 l j == s.toList) l.length) := by
 unfold impl_symbolIndex.f
 refine Ac5 (a := An2 (fun j => Ah1 l j == s.toList) l.length) ?_ (Aa9 _)
 unfold slices_IndexFunc_impl_Symbol_impl_Symbol_impl_symbolIndex_1.f
 have h := Ag6 l.length (fun j => if (Ah1 l j == s.toList) = true then some (j : Int) else none) (-1) (fun k i => slices_IndexFunc_impl_Symbol_impl_Symbol_impl_symbolIndex_1.l0 k l (l.length : Int) i [s])
  (by simp only [slices_IndexFunc_impl_Symbol_impl_Symbol_impl_symbolIndex_1.l0]; exact Ab2 (by omega) (Aa9 _))
  (fun i hi r hr => by
   simp only [slices_IndexFunc_impl_Symbol_impl_Symbol_impl_symbolIndex_1.l0]
   refine Aa5 (by omega) (Aa5 (by omega) (Aa5 (by omega) (Ab9 (a := Ah1 l i == s.toList) ?_ ?_)))
   ·unfold impl_symbolIndex_1_with.f
    rw [if_pos (by simp)]
    rfl
   ·rw [Ae0 (by omega)]
    by_cases h : (Ah1 l i == s.toList) = true
    ·rw [if_pos h]; exact Aa5 h (Aa9 _)
    ·rw [if_neg h]; exact Ab2 h hr)
  l.length 0 (by omega)
 rw [An7 (fun j => Ah1 l j == s.toList)] at h
 exact h
theorem dup_place (l : List S90) (i : Nat) (hi : i < l.length) : An2 (fun j => Ah1 l j == (Aa7 l (i : Int)).f0.toList) l.length = (i : Int) ↔ Ax3 l i = false := by
 unfold Ax3
 have hn : (Ag1 (fun j => Ah1 l i == Ah1 l j) i 0).isSome = false ↔ ∀ j, j < i → (Ah1 l i == Ah1 l j) = false := by
  rw [Option.isSome_eq_false_iff, Option.isNone_iff_eq_none, Ai8]
  exact ⟨fun h j hj => h j (by omega) (by omega), fun h j _ hj => h j (by omega)⟩
 rw [hn]
 rcases placeN_cases (fun j => Ah1 l j == (Aa7 l (i : Int)).f0.toList) l.length with ⟨h1, h2⟩ | ⟨j, hj, h1, h2, h3⟩
 ·have := h2 i hi
  simp [Ah1] at this
 ·rw [h1]
  constructor
  ·intro e
   obtain rfl : j = i := by omega
   intro m hm
   have := h3 m hm
   simp only [beq_eq_false_iff_ne, ne_eq] at this ⊢
   exact fun e => this e.symm
  ·intro h
   have hji : ¬ j < i := fun hlt => by
    have := h j hlt
    simp only [beq_eq_false_iff_ne, ne_eq] at this
    exact this (by simpa [Ah1] using (eq_comm.1 (beq_iff_eq.1 h2)))
   have hij : ¬ i < j := fun hlt => by
    have := h3 i hlt
    simp [Ah1] at this
   omega
theorem ISig_last (l : List S90) (hl : l.length ≤ 6) : Ev (fun k => slices_ContainsFunc_impl_Symbol_impl_Symbol_impl_SignatureFault_1.f k l) (Am8 l) := by
 unfold slices_ContainsFunc_impl_Symbol_impl_Symbol_impl_SignatureFault_1.f slices_IndexFunc_impl_Symbol_impl_Symbol_impl_SignatureFault_1.f
 have h := Ag6 l.length (fun j => if ((Aa7 l (j : Int)).f1 == 0) = true then some (j : Int) else none) (-1) (fun k i => slices_IndexFunc_impl_Symbol_impl_Symbol_impl_SignatureFault_1.l0 k l (l.length : Int) i)
  (by simp only [slices_IndexFunc_impl_Symbol_impl_Symbol_impl_SignatureFault_1.l0]; exact Ab2 (by omega) (Aa9 _))
  (fun i hi r hr => by
   simp only [slices_IndexFunc_impl_Symbol_impl_Symbol_impl_SignatureFault_1.l0]
   refine Aa5 (by omega) (Aa5 (by omega) (Aa5 (by omega) (Ab9 rfl ?_)))
   rw [Ae0 (by omega)]
   by_cases h : ((Aa7 l (i : Int)).f1 == 0) = true
   ·rw [if_pos h]; exact Aa5 h (Aa9 _)
   ·rw [if_neg h]; exact Ab2 h hr)
  l.length 0 (by omega)
 rw [Ai7 (fun j => (Aa7 l (j : Int)).f1 == 0) (fun j => (j : Int)) (-1)] at h
 refine Ac5 h (Ag0 (Aa9 _) ?_)
 unfold Am8
 cases Ag1 (fun j => (Aa7 l (j : Int)).f1 == 0) l.length 0 with
 | none => rfl
 | some j => simp
theorem ISig_l1 (l : List S90) (hl : l.length ≤ 6) : Ev (fun k => impl_SignatureFault.l1 k l (l.length : Int) 0 l) (Am1 (Ag5 l) (if Am8 l = true then 0 else 4) l.length 0) :=
 Ag6 l.length (Ag5 l) (if Am8 l = true then 0 else 4) (fun k i => impl_SignatureFault.l1 k l (l.length : Int) i l)
  (by
   simp only [impl_SignatureFault.l1]
   refine Ab2 (by omega) (Ac5 (ISig_last l hl) ?_)
   by_cases h : Am8 l = true
   ·exact Ag0 (Aa5 h (Aa9 _)) (if_pos h).symm
   ·exact Ag0 (Ab2 h (Aa9 _)) (if_neg h).symm)
  (fun i hi r hr => by
   simp only [impl_SignatureFault.l1]
   refine Aa5 (by omega) (Aa5 (by omega) (Aa5 (by omega) (Ac5 (symbolIndex_ev l (by omega) _) ?_)))
   have hd := dup_place l i hi
   rw [Ae0 (by omega)]
   unfold Ag5
   by_cases h : Ax3 l i = true
   ·rw [if_pos h]
    exact Ab2 (fun e => by rw [hd.1 e] at h; cases h) (Aa9 _)
   ·rw [if_neg h]
    exact Aa5 (hd.2 (Bool.eq_false_iff.2 h)) hr)
  l.length 0 (by omega)
theorem SignatureFault_impl (l : List S90) : Ev (fun k => impl_SignatureFault.f k l) (As4 l) := by
 unfold impl_SignatureFault.f As4
 by_cases h1 : (l.length : Int) < 1
 ·rw [if_pos (.inl (by omega))]
  refine Aa5 h1 (Ac6 ?_)
  simp only [impl_SignatureFault.j0]
  exact Aa5 (by simp) (Aa9 _)
 refine Ab2 h1 (Ac6 ?_)
 simp only [impl_SignatureFault.j0]
 by_cases h2 : (l.length : Int) > 6
 ·rw [if_pos (.inr (by omega))]
  exact Aa5 (by simpa using h2) (Aa9 _)
 rw [if_neg (by omega)]
 refine Ab2 (by simpa using h2) ?_
 exact Ag6 l.length (Ai5 l) _ (fun k i => impl_SignatureFault.l0 k l (l.length : Int) i l)
  (by simp only [impl_SignatureFault.l0]; exact Ab2 (by omega) (ISig_l1 l (by omega)))
  (fun i hi r hr => by
   simp only [impl_SignatureFault.l0]
   refine Aa5 (by omega) (Aa5 (by omega) (Aa5 (by omega) (Ab9 (isName_eq _) ?_)))
   unfold Ai5
   by_cases h : Aq0 (Aa7 l (i : Int)).f0 = true
   ·refine Aa5 h (Ab9 (Ap1 _ _ _) ?_)
    rw [if_pos h, Ae0 (by omega)]
    by_cases h' : 0 ≤ (Aa7 l (i : Int)).f1 ∧ (Aa7 l (i : Int)).f1 ≤ 2
    ·rw [if_pos h']
     exact Aa5 (by simpa using h') hr
    ·rw [if_neg h']
     exact Ab2 (by simpa using h') (Aa9 _)
   ·rw [if_neg h]
    exact Ab2 h (Aa9 _))
  l.length 0 (by omega)
structure Right (l : List S90) : Prop where
 len : 1 ≤ l.length ∧ l.length ≤ 6
 names : ∀ i, i < l.length → Aq0 (Aa7 l (i : Int)).f0 = true
 arities : ∀ i, i < l.length → 0 ≤ (Aa7 l (i : Int)).f1 ∧ (Aa7 l (i : Int)).f1 ≤ 2
 apart : ∀ i, i < l.length → Ax3 l i = false
theorem Ao1 (l : List S90) (h : As4 l = 0) : Right l := by
 unfold As4 at h
 by_cases h1 : l.length < 1 ∨ l.length > 6
 ·rw [if_pos h1] at h; omega
 rw [if_neg h1] at h
 have hlen : 1 ≤ l.length ∧ l.length ≤ 6 := by omega
 rcases scanN_cases (Ai5 l) (Am1 (Ag5 l) (if Am8 l = true then 0 else 4) l.length 0) l.length 0 with ⟨h2, h3⟩ | ⟨j, _, _, h3⟩
 ·rw [h3] at h
  rcases scanN_cases (Ag5 l) (if Am8 l = true then 0 else 4) l.length 0 with ⟨h4, h5⟩ | ⟨j, _, _, h5⟩
  ·refine ⟨hlen, fun i hi => ?_, fun i hi => ?_, fun i hi => ?_⟩
   ·have := h2 i (by omega) (by omega)
    unfold Ai5 at this
    by_cases hn : Aq0 (Aa7 l (i : Int)).f0 = true
    ·exact hn
    ·rw [if_neg hn] at this; cases this
   ·have := h2 i (by omega) (by omega)
    unfold Ai5 at this
    by_cases hn : Aq0 (Aa7 l (i : Int)).f0 = true
    ·rw [if_pos hn] at this
     by_cases ha : 0 ≤ (Aa7 l (i : Int)).f1 ∧ (Aa7 l (i : Int)).f1 ≤ 2
     ·exact ha
     ·rw [if_neg ha] at this; cases this
    ·rw [if_neg hn] at this; cases this
   ·have := h4 i (by omega) (by omega)
    unfold Ag5 at this
    by_cases hd : Ax3 l i = true
    ·rw [if_pos hd] at this; cases this
    ·exact Bool.eq_false_iff.2 hd
  ·rw [h] at h5
   unfold Ag5 at h5
   by_cases hd : Ax3 l j = true
   ·rw [if_pos hd] at h5; cases h5
   ·rw [if_neg hd] at h5; cases h5
 ·rw [h] at h3
  unfold Ai5 at h3
  by_cases hn : Aq0 (Aa7 l (j : Int)).f0 = true
  ·rw [if_pos hn] at h3
   by_cases ha : 0 ≤ (Aa7 l (j : Int)).f1 ∧ (Aa7 l (j : Int)).f1 ≤ 2
   ·rw [if_pos ha] at h3; cases h3
   ·rw [if_neg ha] at h3; cases h3
  ·rw [if_neg hn] at h3; cases h3
end Go.Proofs.YtbdpnkpienpnaaaGreatDoor.Pure
set_option linter.unusedVariables false
namespace Go.Proofs.YtbdpnkpienpnaaaGreatDoor.Pure
open Go.RowKit Go.Proofs.YtbdpnkpienpnaaaGreatDoor.P Go.Proofs.YtbdpnkpienpnaaaGreatDoorW.PrintWords Go.Proofs.YtbdpnkpienpnaaaGreatDoorW.PrintLast Go.Proofs.YtbdpnkpienpnaaaGreatDoor.Base
def Ax4 (l : List S90) (n : Int) : Bool := decide (0 ≤ n ∧ n ≤ (l.length : Int) - 1)
theorem l2Symbol_eq (l : List S90) (hl : l.length ≤ 1048576) (n : Int) : spec_l2Symbol.f [(⟨l⟩ : S26)] n = some (Ax4 l n) := by
 unfold spec_l2Symbol.f
 rw [if_pos (by simp)]
 show (spec_l1In.f n 0 (wrap64 ((l.length : Int) - 1))).bind _ = _
 rw [Au9, Ad7 (by omega) (by omega)]
 rfl
theorem isSymbol_eq (l : List S90) (hl : l.length ≤ 1048576) (n : Int) : impl_isSymbol.f l n = some (Ax4 l n) := by
 unfold impl_isSymbol.f
 rw [Ap1, Ad7 (by omega) (by omega)]
 rfl
theorem Ao0 {l : List S90} {n : Int} (h : Ax4 l n = true) : 0 ≤ n ∧ n < (l.length : Int) := by
 unfold Ax4 at h
 have := of_decide_eq_true h
 omega
end Go.Proofs.YtbdpnkpienpnaaaGreatDoor.Pure
set_option linter.unusedVariables false
namespace Go.Proofs.YtbdpnkpienpnaaaGreatDoor.Pure
open Go.RowKit Go.Proofs.YtbdpnkpienpnaaaGreatDoor.P Go.Proofs.YtbdpnkpienpnaaaGreatDoorW.PrintWords Go.Proofs.YtbdpnkpienpnaaaGreatDoorW.PrintLast Go.Proofs.YtbdpnkpienpnaaaGreatDoor.Base
theorem slicesIndex_ev (o : List Int) (ho : o.length ≤ 9000000000000000000) (v : Int) : Ev (fun k => slices_Index_int64_int64.f k o v) (An2 (fun j => v == rd o (j : Int)) o.length) := by
 unfold slices_Index_int64_int64.f
 have h := Ag6 o.length (fun j => if (v == rd o (j : Int)) = true then some (j : Int) else none) (-1) (fun k i => slices_Index_int64_int64.l0 k o v (o.length : Int) i)
  (by simp only [slices_Index_int64_int64.l0]; exact Ab2 (by omega) (Aa9 _))
  (fun i hi r hr => by
   simp only [slices_Index_int64_int64.l0]
   refine Aa5 (by omega) (Aa5 (by omega) (Aa5 (by omega) ?_))
   rw [Ae0 (by omega)]
   by_cases h : v = rd o (i : Int)
   ·exact Aa5 h (Ag0 (Aa9 _) (by simp [h]))
   ·exact Ab2 h (Ag0 hr (by simp [h])))
  o.length 0 (by omega)
 rw [An7 (fun j => v == rd o (j : Int))] at h
 exact h
end Go.Proofs.YtbdpnkpienpnaaaGreatDoor.Pure
set_option linter.unusedVariables false
namespace Go.Proofs.YtbdpnkpienpnaaaGreatDoor.Pure
open Go.RowKit Go.Proofs.YtbdpnkpienpnaaaGreatDoorW.PrintWords Go.Proofs.YtbdpnkpienpnaaaGreatDoor.Base
def Al4 (ar : Int → Nat) : Nat → List Int → Option (List Int)
 | 0, t => some t
 | _ + 1, [] => none
 | k + 1, n :: t => Al4 ar (k + ar n) t
theorem Aj7 (ar : Int → Nat) (t : List Int) : Al4 ar 0 t = some t := by cases t <;> rfl
theorem Ar0 (ar : Int → Nat) (m : Nat) : ∀ (t : List Int) (k : Nat), Al4 ar (k + m) t = (Al4 ar k t).bind (Al4 ar m)
 | t, 0 => by rw [Aj7, Nat.zero_add]; rfl
 | [], k + 1 => by rw [show k + 1 + m = (k + m) + 1 by omega]; rfl
 | n :: t, k + 1 => by
  rw [show k + 1 + m = (k + m) + 1 by omega]
  show Al4 ar (k + m + ar n) t = (Al4 ar (k + ar n) t).bind (Al4 ar m)
  rw [show k + m + ar n = k + ar n + m by omega]
  exact Ar0 ar m t (k + ar n)
theorem Aj8 (ar : Int → Nat) (n : Int) (t : List Int) (k : Nat) : Al4 ar (k + 1) (n :: t) = Al4 ar (k + ar n) t := rfl
theorem skipN_suffix (ar : Int → Nat) : ∀ (t : List Int) (k : Nat) (u : List Int), Al4 ar k t = some u → ∃ d, u = t.drop d ∧ d ≤ t.length ∧ k ≤ d
 | t, 0, u, h => by
  rw [Aj7] at h
  obtain rfl := Option.some.inj h
  exact ⟨0, by simp, by omega, by omega⟩
 | [], k + 1, u, h => by cases h
 | n :: t, k + 1, u, h => by
  obtain ⟨d, e, hd, hk⟩ := skipN_suffix ar t (k + ar n) u h
  exact ⟨d + 1, by rw [e]; rfl, by simp; omega, by omega⟩
def Am4 (ar : Int → Nat) (term : List Int) (k at_ : Nat) : Option Nat := (Al4 ar k (term.drop at_)).map fun u => term.length - u.length
theorem Aq5 {ar : Int → Nat} {term : List Int} {k at_ e : Nat} (hat : at_ ≤ term.length) (h : Am4 ar term k at_ = some e) : Al4 ar k (term.drop at_) = some (term.drop e) ∧ at_ + k ≤ e ∧ e ≤ term.length := by
 unfold Am4 at h
 cases hs : Al4 ar k (term.drop at_) with
 | none => rw [hs] at h; cases h
 | some u =>
  rw [hs] at h
  obtain ⟨d, e1, hd, hk⟩ := skipN_suffix ar _ _ _ hs
  rw [List.length_drop] at hd
  have he : term.length - u.length = e := Option.some.inj h
  have hul : u.length = term.length - (at_ + d) := by rw [e1, List.drop_drop, List.length_drop]
  have hed : e = at_ + d := by omega
  refine ⟨?_, by omega, by omega⟩
  rw [e1, List.drop_drop, hed]
theorem Ao3 (ar : Int → Nat) (term : List Int) (at_ : Nat) (hat : at_ ≤ term.length) : Am4 ar term 0 at_ = some at_ := by
 unfold Am4
 rw [Aj7]
 simp only [Option.map_some, List.length_drop]
 congr 1; omega
theorem endN_out (ar : Int → Nat) (term : List Int) (k at_ : Nat) (hk : 0 < k) (hat : term.length ≤ at_) : Am4 ar term k at_ = none := by
 unfold Am4
 obtain ⟨m, rfl⟩ : ∃ m, k = m + 1 := ⟨k - 1, by omega⟩
 rw [List.drop_eq_nil_of_le hat]; rfl
theorem endN_step (ar : Int → Nat) (term : List Int) (k at_ : Nat) (hat : at_ < term.length) : Am4 ar term (k + 1) at_ = Am4 ar term (k + ar term[at_]) (at_ + 1) := by
 unfold Am4
 rw [List.drop_eq_getElem_cons hat, Aj8]
theorem endN_add (ar : Int → Nat) (term : List Int) (k m at_ : Nat) (hat : at_ ≤ term.length) : Am4 ar term (k + m) at_ = (Am4 ar term k at_).bind fun e => Am4 ar term m e := by
 cases h : Am4 ar term k at_ with
 | none =>
  unfold Am4 at h ⊢
  rw [Ar0]
  cases hs : Al4 ar k (term.drop at_) with
  | none => rfl
  | some u => rw [hs] at h; cases h
 | some e =>
  obtain ⟨hs, _, _⟩ := Aq5 hat h
  simp only [Option.bind_some]
  unfold Am4
  rw [Ar0, hs]
  rfl
end Go.Proofs.YtbdpnkpienpnaaaGreatDoor.Pure
set_option linter.unusedVariables false
namespace Go.Proofs.YtbdpnkpienpnaaaGreatDoor.Pure
open Go.RowKit Go.Proofs.YtbdpnkpienpnaaaGreatDoorW.PrintWords Go.Proofs.YtbdpnkpienpnaaaGreatDoor.Base
def Whole (ar : Int → Nat) (t : List Int) : Prop := Al4 ar 1 t = some []
theorem whole_iff {ar : Int → Nat} {t : List Int} : Am4 ar t 1 0 = some t.length ↔ Whole ar t := by
 constructor
 ·intro h
  obtain ⟨h1, _, _⟩ := Aq5 (by omega) h
  rw [List.drop_zero, List.drop_length] at h1
  exact h1
 ·intro h
  unfold Am4
  rw [List.drop_zero, h]
  simp
end Go.Proofs.YtbdpnkpienpnaaaGreatDoor.Pure
set_option linter.unusedVariables false
namespace Go.Proofs.YtbdpnkpienpnaaaGreatDoor.Pure
open Go.RowKit Go.Proofs.YtbdpnkpienpnaaaGreatDoor.P Go.Proofs.YtbdpnkpienpnaaaGreatDoorW.PrintWords Go.Proofs.YtbdpnkpienpnaaaGreatDoorW.PrintLast Go.Proofs.YtbdpnkpienpnaaaGreatDoor.Base
def Ai1 (l : List S90) (n : Int) : Bool := Ax4 l n || decide (-12 ≤ n ∧ n ≤ -1)
def arL (l : List S90) (n : Int) : Nat := if n < 0 then 0 else (Aa7 l n).f1.toNat
theorem Aq9 (l : List S90) (hl : l.length ≤ 6) (n : Int) : spec_l3Node.f [(⟨l⟩ : S26)] n = some (Ai1 l n) := by
 unfold spec_l3Node.f Ai1
 rw [l2Symbol_eq l (by omega)]
 simp only [Option.bind_some]
 by_cases h : Ax4 l n = true
 ·rw [if_pos h, h]; rfl
 ·rw [if_neg h, Au9, Bool.eq_false_iff.2 h]; rfl
theorem isNode_eq (l : List S90) (hl : l.length ≤ 6) (n : Int) : impl_isNode.f l n = some (Ai1 l n) := by
 unfold impl_isNode.f Ai1
 rw [isSymbol_eq l (by omega)]
 simp only [Option.bind_some]
 by_cases h : Ax4 l n = true
 ·rw [if_pos h, h]; rfl
 ·rw [if_neg h, Ap1, Bool.eq_false_iff.2 h]; rfl
def Au6 (l : List S90) (t : List Int) : Prop := ∀ i, i < t.length → Ai1 l (rd t (i : Int)) = true
theorem As2 {l : List S90} {n : Int} (h : Ai1 l n = true) (h0 : ¬ n < 0) : 0 ≤ n ∧ n < (l.length : Int) := by
 unfold Ai1 at h
 rw [Bool.or_eq_true] at h
 rcases h with h | h
 ·exact Ao0 h
 ·have := of_decide_eq_true h; omega
theorem At3 {l : List S90} (hr : Right l) {n : Int} (h : Ai1 l n = true) (h0 : ¬ n < 0) : (Aa7 l n).f1 = (arL l n : Int) ∧ arL l n ≤ 2 := by
 obtain ⟨a, b⟩ := As2 h h0
 have := hr.arities n.toNat (by omega)
 rw [Int.toNat_of_nonneg a] at this
 unfold arL
 rw [if_neg h0]
 omega
theorem arL_le {l : List S90} (hr : Right l) {n : Int} (h : Ai1 l n = true) : arL l n ≤ 2 := by
 by_cases h0 : n < 0
 ·unfold arL; rw [if_pos h0]; omega
 ·exact (At3 hr h h0).2
def Ax8 (o : Option Nat) : Int := match o with
 | some e => (e : Int)
 | none => -1
theorem l3End_loop (l : List S90) (hr : Right l) (t : List Int) (ht : t.length ≤ 1048576) (hn : Au6 l t) (at_ : Nat) (hat : at_ < t.length) (h0 : ¬ rd t (at_ : Int) < 0)
  (ih : ∀ e, at_ < e → e ≤ t.length → Ev (fun k => spec_l3End.f k [(⟨l⟩ : S26)] t (e : Int)) (Ax8 (Am4 (arL l) t 1 e))) :
  ∀ (m i e : Nat), i + m = arL l (rd t (at_ : Int)) → at_ < e → e ≤ t.length → Ev (fun k => spec_l3End.l0 k [(⟨l⟩ : S26)] t (at_ : Int) (e : Int) (i : Int)) (Ax8 (Am4 (arL l) t m e)) := by
 obtain ⟨s0, s1⟩ := As2 (hn at_ hat) h0
 obtain ⟨ha, ha2⟩ := At3 hr (hn at_ hat) h0
 have e0 : (Ac3 [(⟨l⟩ : S26)] 0).f0 = l := rfl
 intro m
 induction m with
 | zero =>
  intro i e hi he hel
  refine Ac6 ?_
  simp only [spec_l3End.l0, e0]
  refine Aa5 (by simp) (Aa5 (by omega) (Aa5 (by omega) (Aa5 s0 (Aa5 s1 ?_))))
  rw [ha, Ao3 _ _ _ hel]
  exact Ab2 (by omega) (Aa9 _)
 | succ m ihm =>
  intro i e hi he hel
  refine Ac6 ?_
  simp only [spec_l3End.l0, e0]
  refine Aa5 (by simp) (Aa5 (by omega) (Aa5 (by omega) (Aa5 s0 (Aa5 s1 ?_))))
  rw [ha]
  refine Aa5 (by omega) (Ac5 (ih e he hel) ?_)
  rw [show m + 1 = 1 + m by omega, endN_add _ _ 1 m e hel]
  cases hE : Am4 (arL l) t 1 e with
  | none => exact Aa5 (by simp [Ax8]) (Aa9 _)
  | some e' =>
   obtain ⟨_, h1, h2⟩ := Aq5 hel hE
   refine Ab2 (by simp [Ax8]) ?_
   rw [Ae0 (by omega)]
   simp only [Option.bind_some]
   exact ihm (i + 1) e' (by omega) (by omega) h2
theorem l3End_ev (l : List S90) (hr : Right l) (t : List Int) (ht : t.length ≤ 1048576) (hn : Au6 l t) : ∀ (d at_ : Nat), at_ + d = t.length → Ev (fun k => spec_l3End.f k [(⟨l⟩ : S26)] t (at_ : Int)) (Ax8 (Am4 (arL l) t 1 at_)) := by
 intro d
 induction d using Nat.strongRecOn with
 | _ d ih =>
  intro at_ hd
  refine Ac6 ?_
  simp only [spec_l3End.f]
  by_cases hat : t.length ≤ at_
  ·rw [endN_out _ _ _ _ (by omega) hat]
   exact Aa5 (by omega) (Aa9 _)
  have hat' : at_ < t.length := by omega
  refine Ab2 (by omega) (Aa5 (by omega) (Aa5 (by omega) ?_))
  rw [endN_step _ _ 0 _ hat', ← Aj5 t at_ hat', Nat.zero_add, Ae0 (by omega)]
  by_cases h0 : rd t (at_ : Int) < 0
  ·refine Aa5 h0 ?_
   have : arL l (rd t (at_ : Int)) = 0 := by unfold arL; rw [if_pos h0]
   rw [this, Ao3 _ _ _ (by omega)]
   exact Aa9 _
  ·refine Ab2 h0 ?_
   exact l3End_loop l hr t ht hn at_ hat' h0 (fun e he hel => ih (t.length - e) (by omega) e (by omega)) _ 0 (at_ + 1) (by omega) (by omega) (by omega)
def Ay3 (n : Nat) (o : Option Nat) : Int := match o with
 | some e => (e : Int)
 | none => (n : Int) + 1
theorem arityOf_eq (l : List S90) (hr : Right l) (n : Int) (h : Ai1 l n = true) : impl_arityOf.f l n = some (arL l n : Int) := by
 unfold impl_arityOf.f
 by_cases h0 : n < 0
 ·rw [if_pos h0]; unfold arL; rw [if_pos h0]; rfl
 ·obtain ⟨s0, s1⟩ := As2 h h0
  rw [if_neg h0, if_pos s0, if_pos s1, (At3 hr h h0).1]
theorem endOf_l0 (l : List S90) (hr : Right l) (t : List Int) (ht : t.length ≤ 1048576) (hn : Au6 l t) : ∀ (d at_ o : Nat), at_ + d = t.length → o ≤ 2 * at_ + 1 → Ev (fun k => impl_endOf.l0 k t (at_ : Int) (o : Int) l) (Ay3 t.length (Am4 (arL l) t o at_)) := by
 intro d
 induction d with
 | zero =>
  intro at_ o hd ho
  refine Ac6 ?_
  simp only [impl_endOf.l0]
  cases o with
  | zero =>
   rw [Ao3 _ _ _ (by omega)]
   exact Ab2 (by omega) (Aa9 _)
  | succ o =>
   rw [endN_out _ _ _ _ (by omega) (by omega)]
   refine Aa5 (by omega) (Aa5 (by omega) ?_)
   rw [Ae0 (by omega)]
   exact Ag0 (Aa9 _) (by simp [Ay3])
 | succ d ih =>
  intro at_ o hd ho
  refine Ac6 ?_
  simp only [impl_endOf.l0]
  cases o with
  | zero =>
   rw [Ao3 _ _ _ (by omega)]
   exact Ab2 (by omega) (Aa9 _)
  | succ o =>
   have hat : at_ < t.length := by omega
   refine Aa5 (by omega) (Ab2 (by omega) (Aa5 (by omega) (Aa5 (by omega) (Ab9 (arityOf_eq l hr _ (hn at_ hat)) ?_))))
   have ha := arL_le hr (hn at_ hat)
   rw [endN_step _ _ o _ hat, ← Aj5 t at_ hat, Ae0 (by omega)]
   generalize arL l (rd t (at_ : Int)) = a at *
   rw [Ad7 (x := (a : Int) - 1) (by omega) (by omega), Ad7 (by omega) (by omega), show ((o + 1 : Nat) : Int) + ((a : Int) - 1) = ((o + a : Nat) : Int) by omega]
   exact ih (at_ + 1) (o + a) (by omega) (by omega)
theorem endOf_ev (l : List S90) (hr : Right l) (t : List Int) (ht : t.length ≤ 1048576) (hn : Au6 l t) (at_ : Nat) (hat : at_ ≤ t.length) : Ev (fun k => impl_endOf.f k l t (at_ : Int)) (Ay3 t.length (Am4 (arL l) t 1 at_)) := by
 unfold impl_endOf.f
 exact endOf_l0 l hr t ht hn (t.length - at_) at_ 1 (by omega) (by omega)
def Au0 (l : List S90) (t : List Int) : Bool := (Ag1 (fun j => !Ai1 l (rd t (j : Int))) t.length 0).isSome
theorem Aq2 {l : List S90} {t : List Int} (h : ¬ Au0 l t = true) : Au6 l t := by
 unfold Au0 at h
 have h1 : Ag1 (fun j => !Ai1 l (rd t (j : Int))) t.length 0 = none := by
  cases hf : Ag1 (fun j => !Ai1 l (rd t (j : Int))) t.length 0 with
  | none => rfl
  | some j => rw [hf] at h; exact absurd rfl h
 intro i hi
 have := (Ai8 t.length 0).1 h1 i (by omega) (by omega)
 simpa using this
def Al6 (l : List S90) (t : List Int) : Int :=
 if t.length < 1 ∨ t.length > 24 then 2 else if Au0 l t = true then 3 else if Am4 (arL l) t 1 0 = some t.length then 0 else 1
def Ag8 (l : List S90) (t : List Int) : Int := if As4 l = 0 then Al6 l t else As4 l
theorem l3Fault_ev (l : List S90) (hr : Right l) (t : List Int) (ht : t.length ≤ 1048576) : Ev (fun k => spec_l3Fault.f k [(⟨l⟩ : S26)] t) (Al6 l t) := by
 have hl := hr.len
 unfold spec_l3Fault.f Al6
 by_cases h1 : (t.length : Int) < 1
 ·rw [if_pos (.inl (by omega))]
  refine Aa5 h1 (Ac6 ?_)
  simp only [spec_l3Fault.j0]
  exact Aa5 (by simp) (Aa9 _)
 refine Ab2 h1 (Ac6 ?_)
 simp only [spec_l3Fault.j0]
 by_cases h2 : (t.length : Int) > 24
 ·rw [if_pos (.inr (by omega))]
  exact Aa5 (by simpa using h2) (Aa9 _)
 rw [if_neg (by omega)]
 refine Ab2 (by simpa using h2) ?_
 by_cases hb : Au0 l t = true
 ·rw [if_pos hb]
  unfold Au0 at hb
  cases hf : Ag1 (fun j => !Ai1 l (rd t (j : Int))) t.length 0 with
  | none => rw [hf] at hb; cases hb
  | some j =>
   obtain ⟨_, hj, hp, hall⟩ := Ah6 _ _ _ hf
   have key : ∀ d i, i + d = j → Ev (fun k => spec_l3Fault.l0 k [(⟨l⟩ : S26)] t (i : Int)) 3 := by
    intro d
    induction d with
    | zero =>
     intro i hi
     obtain rfl : i = j := by omega
     refine Ac6 ?_
     simp only [spec_l3Fault.l0]
     refine Aa5 (by omega) (Aa5 (by omega) (Ab9 (Aq9 l (by omega) _) ?_))
     exact Ab2 (by simpa using hp) (Aa9 _)
    | succ d ih =>
     intro i hi
     refine Ac6 ?_
     simp only [spec_l3Fault.l0]
     refine Aa5 (by omega) (Aa5 (by omega) (Ab9 (Aq9 l (by omega) _) ?_))
     have := hall i (by omega) (by omega)
     rw [Ae0 (by omega)]
     exact Aa5 (by simpa using this) (ih (i + 1) (by omega))
   exact key j 0 (by omega)
 ·rw [if_neg hb]
  have hn := Aq2 hb
  have h := Ag6 t.length (fun j => if (!Ai1 l (rd t (j : Int))) = true then some 3 else none) (if Am4 (arL l) t 1 0 = some t.length then 0 else 1) (fun k i => spec_l3Fault.l0 k [(⟨l⟩ : S26)] t i)
   (by
    simp only [spec_l3Fault.l0]
    refine Ab2 (by omega) (Ac5 (l3End_ev l hr t ht hn t.length 0 (by omega)) ?_)
    by_cases he : Am4 (arL l) t 1 0 = some t.length
    ·rw [he]; exact Aa5 rfl (Ag0 (Aa9 _) (if_pos rfl).symm)
    ·refine Ab2 ?_ (Ag0 (Aa9 _) (if_neg he).symm)
     cases hE : Am4 (arL l) t 1 0 with
     | none => simp [Ax8] <;> omega
     | some e =>
      intro k
      have : e = t.length := by simp only [Ax8] at k; omega
      exact he (by rw [hE, this]))
   (fun i hi r hr => by
    simp only [spec_l3Fault.l0]
    refine Aa5 (by omega) (Aa5 (by omega) (Ab9 (Aq9 l (by omega) _) ?_))
    rw [Ae0 (by omega), hn i hi]
    exact Aa5 rfl (Ag0 hr (by simp)))
   t.length 0 (by omega)
  refine Ag0 h ?_
  exact scanN_none t.length 0 (fun j _ hj => by simp [hn j (by omega)])
theorem TermFault_spec (l : List S90) (t : List Int) (ht : t.length ≤ 1048576) : Ev (fun k => spec_TermFault.f k l t) (Ag8 l t) := by
 unfold spec_TermFault.f Ag8
 exact Ac5 (SignatureFault_spec l) (Ar6 (fun h => Ac5 (l3Fault_ev l (Ao1 l h) t ht) (Aa9 _)) (fun h => Aa9 _))
theorem Term_bad (l : List S90) (hl : l.length ≤ 6) (t : List Int) (ht : t.length ≤ 1048576) :
  Ev (fun k => slices_ContainsFunc_int64_int64_impl_TermFault_1.f k t [(⟨l⟩ : S26)]) (Au0 l t) := by
 unfold slices_ContainsFunc_int64_int64_impl_TermFault_1.f slices_IndexFunc_int64_int64_impl_TermFault_1.f
 have h := Ag6 t.length (fun j => if (!Ai1 l (rd t (j : Int))) = true then some (j : Int) else none) (-1) (fun k i => slices_IndexFunc_int64_int64_impl_TermFault_1.l0 k t (t.length : Int) i [(⟨l⟩ : S26)])
  (by simp only [slices_IndexFunc_int64_int64_impl_TermFault_1.l0]; exact Ab2 (by omega) (Aa9 _))
  (fun i hi r hr => by
   simp only [slices_IndexFunc_int64_int64_impl_TermFault_1.l0]
   refine Aa5 (by omega) (Aa5 (by omega) (Aa5 (by omega) (Ab9 (a := !Ai1 l (rd t (i : Int))) ?_ ?_)))
   ·unfold impl_TermFault_1_with.f
    rw [if_pos (by simp)]
    exact bind_eq (isNode_eq l (by omega) _) rfl
   ·rw [Ae0 (by omega)]
    by_cases h : (!Ai1 l (rd t (i : Int))) = true
    ·rw [if_pos h]; exact Aa5 h (Aa9 _)
    ·rw [if_neg h]; exact Ab2 h hr)
  t.length 0 (by omega)
 rw [Ai7 (fun j => !Ai1 l (rd t (j : Int))) (fun j => (j : Int)) (-1)] at h
 refine Ac5 h (Ag0 (Aa9 _) ?_)
 unfold Au0
 cases Ag1 (fun j => !Ai1 l (rd t (j : Int))) t.length 0 with
 | none => rfl
 | some j => simp
theorem Ai4 (l : List S90) (t : List Int) (ht : t.length ≤ 1048576) : Ev (fun k => impl_TermFault.f k l t) (Ag8 l t) := by
 unfold impl_TermFault.f Ag8
 refine Ac5 (SignatureFault_impl l) (Ar6 (fun h => ?_) (fun h => Aa9 _))
 have hr := Ao1 l h
 have hl := hr.len
 unfold Al6
 by_cases h1 : (t.length : Int) < 1
 ·rw [if_pos (.inl (by omega))]
  refine Aa5 h1 (Ac6 ?_)
  simp only [impl_TermFault.j0]
  exact Aa5 (by simp) (Aa9 _)
 refine Ab2 h1 (Ac6 ?_)
 simp only [impl_TermFault.j0]
 by_cases h2 : (t.length : Int) > 24
 ·rw [if_pos (.inr (by omega))]
  exact Aa5 (by simpa using h2) (Aa9 _)
 rw [if_neg (by omega)]
 refine Ab2 (by simpa using h2) (Ac5 (Term_bad l (by omega) t ht) (Ar6 (fun hb => Aa9 _) (fun hb => ?_)))
 have hn := Aq2 hb
 refine Ac5 (endOf_ev l hr t ht hn 0 (by omega)) ?_
 by_cases he : Am4 (arL l) t 1 0 = some t.length
 ·rw [he]; exact Aa5 rfl (Ag0 (Aa9 _) (if_pos rfl).symm)
 ·refine Ab2 ?_ (Ag0 (Aa9 _) (if_neg he).symm)
  cases hE : Am4 (arL l) t 1 0 with
  | none => simp [Ay3] <;> omega
  | some e =>
   intro k
   have : e = t.length := by simp only [Ay3] at k; omega
   exact he (by rw [hE, this])
structure RightT (l : List S90) (t : List Int) : Prop where
 sig : Right l
 len : 1 ≤ t.length ∧ t.length ≤ 24
 nodes : Au6 l t
 whole : Am4 (arL l) t 1 0 = some t.length
theorem Ao4 {l : List S90} {t : List Int} (h : Ag8 l t = 0) : RightT l t := by
 unfold Ag8 at h
 by_cases hs : As4 l = 0
 ·rw [if_pos hs] at h
  unfold Al6 at h
  by_cases h1 : t.length < 1 ∨ t.length > 24
  ·rw [if_pos h1] at h; cases h
  rw [if_neg h1] at h
  by_cases h2 : Au0 l t = true
  ·rw [if_pos h2] at h; cases h
  rw [if_neg h2] at h
  by_cases h3 : Am4 (arL l) t 1 0 = some t.length
  ·exact ⟨Ao1 l hs, by omega, Aq2 h2, h3⟩
  ·rw [if_neg h3] at h; cases h
 ·rw [if_neg hs] at h; exact absurd h hs
end Go.Proofs.YtbdpnkpienpnaaaGreatDoor.Pure
set_option linter.unusedVariables false
namespace Go.Proofs.YtbdpnkpienpnaaaGreatDoor.Pure
open Go.RowKit Go.Proofs.YtbdpnkpienpnaaaGreatDoor.P Go.Proofs.YtbdpnkpienpnaaaGreatDoorW.PrintWords Go.Proofs.YtbdpnkpienpnaaaGreatDoorW.PrintLast Go.Proofs.YtbdpnkpienpnaaaGreatDoor.Base
theorem nodes_iff {l : List S90} {t : List Int} : Au6 l t ↔ ∀ n ∈ t, Ai1 l n = true := by
 constructor
 ·intro h n hn
  obtain ⟨j, hj, rfl⟩ := List.mem_iff_getElem.1 hn
  have := h j hj
  rwa [Aj5 t j hj] at this
 ·intro h i hi
  exact h _ (Av8 t i hi)
theorem Au3 {l : List S90} {t : List Int} (h : Ag8 l t = 0) : As4 l = 0 := by
 unfold Ag8 at h
 by_cases hs : As4 l = 0
 ·exact hs
 ·rw [if_neg hs] at h; exact absurd h hs
theorem termF_mk {l : List S90} (h : As4 l = 0) {u : List Int} (h1 : 1 ≤ u.length) (h2 : u.length ≤ 24) (hn : ∀ n ∈ u, Ai1 l n = true) (hw : Whole (arL l) u) : Ag8 l u = 0 := by
 unfold Ag8
 rw [if_pos h]
 unfold Al6
 have hb : ¬ Au0 l u = true := by
  intro hb
  unfold Au0 at hb
  cases hf : Ag1 (fun j => !Ai1 l (rd u (j : Int))) u.length 0 with
  | none => rw [hf] at hb; cases hb
  | some j =>
   obtain ⟨_, hj, hp, _⟩ := Ah6 _ _ _ hf
   have := hn _ (Av8 u j (by omega))
   rw [this] at hp; cases hp
 rw [if_neg (by omega), if_neg hb, if_pos (whole_iff.2 hw)]
theorem Ah4 {l : List S90} {t : List Int} (h : Ag8 l t = 0) : 1 ≤ t.length ∧ t.length ≤ 24 ∧ (∀ n ∈ t, Ai1 l n = true) ∧ Whole (arL l) t := by
 have hr := Ao4 h
 exact ⟨hr.len.1, hr.len.2, nodes_iff.1 hr.nodes, whole_iff.1 hr.whole⟩
end Go.Proofs.YtbdpnkpienpnaaaGreatDoor.Pure
set_option linter.unusedVariables false
namespace Go.Proofs.YtbdpnkpienpnaaaGreatDoor.Pure
open Go.RowKit Go.Proofs.YtbdpnkpienpnaaaGreatDoor.P Go.Proofs.YtbdpnkpienpnaaaGreatDoorW.PrintWords Go.Proofs.YtbdpnkpienpnaaaGreatDoorW.PrintLast Go.Proofs.YtbdpnkpienpnaaaGreatDoor.Base
theorem first_ev2 (a b : Int) : Ev (fun k => impl_firstCode.f k [a, b]) (if a = 0 then b else a) := by
 unfold impl_firstCode.f cmp_Or_int64.f
 refine Ac5 (a := if a = 0 then b else a) ?_ (Aa9 _)
 refine Ac6 ?_
 simp only [cmp_Or_int64.l0]
 refine Aa5 (by simp) (Aa5 (by omega) (Aa5 (by simp) ?_))
 have e0 : rd [a, b] 0 = a := rfl
 rw [e0]
 refine Ar6 (fun h => ?_) (fun h => Aa9 _)
 refine Ac6 ?_
 have e1 : wrap64 (0 + 1) = 1 := by rw [Ad7 (by omega) (by omega)]; rfl
 have e2 : rd [a, b] 1 = b := rfl
 simp only [cmp_Or_int64.l0, e1, e2]
 refine Aa5 (by simp) (Aa5 (by omega) (Aa5 (by simp) ?_))
 by_cases hb : b = 0
 ·refine Aa5 hb (Ac6 ?_)
  have e3 : wrap64 (1 + 1) = 2 := by rw [Ad7 (by omega) (by omega)]; rfl
  simp only [cmp_Or_int64.l0, e3]
  exact Ab2 (by simp) (Ag0 (Aa9 _) hb.symm)
 ·exact Ab2 hb (Aa9 _)
end Go.Proofs.YtbdpnkpienpnaaaGreatDoor.Pure
set_option linter.unusedVariables false
namespace Go.Proofs.YtbdpnkpienpnaaaGreatDoor.Pure
open Go.RowKit Go.Proofs.YtbdpnkpienpnaaaGreatDoor.P Go.Proofs.YtbdpnkpienpnaaaGreatDoorW.PrintWords Go.Proofs.YtbdpnkpienpnaaaGreatDoorW.PrintLast Go.Proofs.YtbdpnkpienpnaaaGreatDoor.Base
theorem Ax1 (p : List Int) (x : Int) (q : List Int) : rd (p ++ x :: q) (p.length : Int) = x := by
 rw [Aj5 _ _ (by simp)]; simp
theorem Ap7 (p : List Int) (x y : Int) (q : List Int) : (p ++ x :: q).set p.length y = p ++ y :: q := by
 simp
theorem Aj2 (s : List Int) (hs : s.length ≤ 1048576) (x : Int) : Ev (fun k => slices_Index_int64_int64.f k s x) (if x ∈ s then (idxN x s : Int) else -1) :=
 Ag0 (slicesIndex_ev s (by omega) x) (placeN_idx s x)
theorem plainContains_ev (s : List Int) (hs : s.length ≤ 1048576) (x : Int) : Ev (fun k => slices_Contains_int64_int64.f k s x) (decide (x ∈ s)) := by
 unfold slices_Contains_int64_int64.f
 refine Ac5 (Aj2 s hs x) (Ag0 (Aa9 _) ?_)
 by_cases h : x ∈ s
 ·rw [if_pos h, decide_eq_true h]; exact decide_eq_true (by omega)
 ·rw [if_neg h, decide_eq_false h]; exact decide_eq_false (by omega)
theorem plainRank_ev (s : List Int) (hs : s.length ≤ 1048576) (x : Int) : Ev (fun k => spec_l2Rank.f k s x) (if x ∈ s then (idxN x s : Int) else -1) := by
 unfold spec_l2Rank.f
 have h := Ag6 s.length (fun j => if (x == rd s (j : Int)) = true then some (j : Int) else none) (-1) (fun k i => spec_l2Rank.l0 k s x i)
  (by simp only [spec_l2Rank.l0]; exact Ab2 (by omega) (Aa9 _))
  (fun i hi r hr => by
   simp only [spec_l2Rank.l0]
   refine Aa5 (by omega) (Aa5 (by omega) ?_)
   rw [Ae0 (by omega)]
   by_cases h : rd s (i : Int) = x
   ·exact Aa5 h (Ag0 (Aa9 _) (by simp [h]))
   ·exact Ab2 h (Ag0 hr (by have h' : ¬ x = rd s (i : Int) := fun e => h e.symm; simp [h'])))
  s.length 0 (by omega)
 rw [An7 (fun j => x == rd s (j : Int))] at h
 exact Ag0 h (placeN_idx s x)
theorem idx_snoc_mem (s : List Int) (x : Int) : x ∈ s ++ [x] := by simp
theorem plain_l0 (z : List Int) (r : List Int × List Int × Bool) : ∀ (q p s : List Int), s.length + q.length ≤ 1000000 → p.length + q.length ≤ 1000000 →
  Ev (fun k => impl_plain.l1 k (Ab4 s q).2 (p ++ (Ab4 s q).1) z (z.length : Int) 0) r →
  Ev (fun k => impl_plain.l0 k s (p ++ q) z ((p.length + q.length : Nat) : Int) (p.length : Int)) r
 | [], p, s, h1, h2, hr => by
  refine Ac6 ?_
  simp only [impl_plain.l0]
  refine Ab2 (by simp) ?_
  simpa [Ab4] using hr
 | x :: q, p, s, h1, h2, hr => by
  refine Ac6 ?_
  simp only [impl_plain.l0, Ax1]
  rw [List.length_cons] at h1 h2
  refine Aa5 (by simp; omega) (Aa5 (by omega) (Aa5 (by simp; omega) ?_))
  rw [Ae0 (by omega)]
  have go : ∀ (y : Int) (s' : List Int), (Ab4 s (x :: q)) = (y :: (Ab4 s' q).1, (Ab4 s' q).2) → s'.length ≤ s.length + 1 →
    Ev (fun k => impl_plain.l0 k s' (p ++ y :: q) z ((p.length + (q.length + 1) : Nat) : Int) ((p.length + 1 : Nat) : Int)) r := by
   intro y s' e hs'
   have := plain_l0 z r q (p ++ [y]) s' (by omega) (by simp; omega) (by rw [e] at hr; simpa using hr)
   simpa [Nat.add_assoc, Nat.add_comm 1 q.length] using this
  by_cases hx : x ≥ 0
  ·refine Aa5 hx ?_
   exact go x s (by rw [Ab4, if_pos hx]) (by omega)
  ·refine Ab2 hx (Ac5 (plainContains_ev s (by omega) x) ?_)
   by_cases hm : x ∈ s
   ·refine Aa5 (decide_eq_true hm) (Ac5 (Aj2 s (by omega) x) ?_)
    rw [if_pos hm, Int.toNat_natCast, Ap7, Ad7 (by have := As9 x s; omega) (by omega)]
    refine go _ s ?_ (by omega)
    rw [Ab4, if_neg hx]
    unfold Ag3
    rw [if_pos hm]
   ·refine Ab2 (by simp [hm]) (Aa5 (by omega) (Ab9 rfl (Ac5 (Aj2 (s ++ [x]) (by simp; omega) x) ?_)))
    rw [if_pos (idx_snoc_mem s x), Aj1 x s hm, Int.toNat_natCast, Ap7, Ad7 (by omega) (by omega)]
    refine go _ (s ++ [x]) ?_ (by simp)
    rw [Ab4, if_neg hx]
    unfold Ag3
    rw [if_neg hm, Aj1 x s hm]
theorem plain_l1 (z : List Int) : ∀ (q p s : List Int), s.length + q.length ≤ 1000000 → p.length + q.length ≤ 1000000 →
  Ev (fun k => impl_plain.l1 k s z (p ++ q) ((p.length + q.length : Nat) : Int) (p.length : Int)) (z, p ++ (Ab4 s q).1, decide (((Ab4 s q).2.length : Int) ≤ 6))
 | [], p, s, h1, h2 => by
  refine Ac6 ?_
  simp only [impl_plain.l1]
  exact Ab2 (by simp) (Ag0 (Aa9 _) (by show (z, p ++ [], decide ((s.length : Int) ≤ 6)) = (z, p ++ [], decide ((s.length : Int) ≤ 6)); rfl))
 | x :: q, p, s, h1, h2 => by
  refine Ac6 ?_
  simp only [impl_plain.l1, Ax1]
  rw [List.length_cons] at h1 h2
  refine Aa5 (by simp; omega) (Aa5 (by omega) (Aa5 (by simp; omega) ?_))
  rw [Ae0 (by omega)]
  have go : ∀ (y : Int) (s' : List Int), (Ab4 s (x :: q)) = (y :: (Ab4 s' q).1, (Ab4 s' q).2) → s'.length ≤ s.length + 1 →
    Ev (fun k => impl_plain.l1 k s' z (p ++ y :: q) ((p.length + (q.length + 1) : Nat) : Int) ((p.length + 1 : Nat) : Int)) (z, p ++ (Ab4 s (x :: q)).1, decide (((Ab4 s (x :: q)).2.length : Int) ≤ 6)) := by
   intro y s' e hs'
   have := plain_l1 z q (p ++ [y]) s' (by omega) (by simp; omega)
   rw [e]
   simpa [Nat.add_assoc, Nat.add_comm 1 q.length] using this
  by_cases hx : x ≥ 0
  ·refine Aa5 hx ?_
   exact go x s (by rw [Ab4, if_pos hx]) (by omega)
  ·refine Ab2 hx (Ac5 (plainContains_ev s (by omega) x) ?_)
   by_cases hm : x ∈ s
   ·refine Aa5 (decide_eq_true hm) (Ac5 (Aj2 s (by omega) x) ?_)
    rw [if_pos hm, Int.toNat_natCast, Ap7, Ad7 (by have := As9 x s; omega) (by omega)]
    refine go _ s ?_ (by omega)
    rw [Ab4, if_neg hx]
    unfold Ag3
    rw [if_pos hm]
   ·refine Ab2 (by simp [hm]) (Aa5 (by omega) (Ab9 rfl (Ac5 (Aj2 (s ++ [x]) (by simp; omega) x) ?_)))
    rw [if_pos (idx_snoc_mem s x), Aj1 x s hm, Int.toNat_natCast, Ap7, Ad7 (by omega) (by omega)]
    refine go _ (s ++ [x]) ?_ (by simp)
    rw [Ab4, if_neg hx]
    unfold Ag3
    rw [if_neg hm, Aj1 x s hm]
theorem clone_eqP (o : List Int) (ho : o.length ≤ 1048576) : slices_Clone_int64_int64.f o = some o := by
 unfold slices_Clone_int64_int64.f
 exact if_pos (by omega)
theorem plain_ev (a b : List Int) (ha : a.length ≤ 1000) (hb : b.length ≤ 1000) : Ev (fun k => impl_plain.f k a b) ((Ab4 [] a).1, (Ab4 (Ab4 [] a).2 b).1, decide (((Ab4 (Ab4 [] a).2 b).2.length : Int) ≤ 6)) := by
 unfold impl_plain.f
 have ho : impl_ownEquation.f a b = some (a, b) := by
  unfold impl_ownEquation.f
  rw [clone_eqP a (by omega), clone_eqP b (by omega)]; rfl
 refine Ab9 ho ?_
 have hs := Ak8 a []
 rw [List.length_nil] at hs
 have h2 := plain_l1 (Ab4 [] a).1 b [] (Ab4 [] a).2 (by omega) (by simp; omega)
 have h1 := plain_l0 b _ a [] [] (by simp; omega) (by simp; omega) (by simpa using h2)
 simpa using h1
theorem l4Plain_l0 (a b : List Int) (ha : a.length ≤ 1000) : ∀ (q p s : List Int), s.length + q.length ≤ 1000000 → p.length + q.length ≤ 1000000 → a.length ≤ p.length + q.length →
  Ev (fun k => spec_l4Plain.l0 k [(⟨a, b⟩ : S29)] (p ++ q) s (p.length : Int))
   (if ((Ab4 s q).2.length : Int) ≤ 6 then ((p ++ (Ab4 s q).1).take a.length, (p ++ (Ab4 s q).1).drop a.length, true) else ([], [], false))
 | [], p, s, h1, h2, h3 => by
  refine Ac6 ?_
  simp only [spec_l4Plain.l0]
  refine Ab2 (by simp) ?_
  have e0 : (Ab0 [(⟨a, b⟩ : S29)] 0).f0 = a := rfl
  have e1 : ∀ zs : List Int, zs.length ≤ 1000000 → spec_l1Ints.f zs = some zs := by
   intro zs hz
   unfold spec_l1Ints.f
   simp only [Option.bind_some, List.length_nil, List.nil_append]
   rw [if_pos (by omega)]
  simp only [Ab4, List.append_nil, e0]
  simp only [List.length_nil] at h1 h2 h3
  by_cases h6 : (s.length : Int) ≤ 6
  ·rw [if_pos h6]
   refine Ab2 (by omega) (Aa5 (by simp) (Aa5 (by omega) (Aa5 (by omega) ?_)))
   rw [Int.toNat_natCast]
   exact Ab9 (e1 _ (by rw [List.length_take]; omega)) (Ab9 (e1 _ (by rw [List.length_drop]; omega)) (Aa9 _))
  ·rw [if_neg h6]
   exact Aa5 (by omega) (Aa9 _)
 | x :: q, p, s, h1, h2, h3 => by
  refine Ac6 ?_
  simp only [spec_l4Plain.l0, Ax1]
  rw [List.length_cons] at h1 h2 h3
  refine Aa5 (by simp; omega) (Aa5 (by omega) ?_)
  rw [Ae0 (by omega)]
  have go : ∀ (y : Int) (s' : List Int), (Ab4 s (x :: q)) = (y :: (Ab4 s' q).1, (Ab4 s' q).2) → s'.length ≤ s.length + 1 →
    Ev (fun k => spec_l4Plain.l0 k [(⟨a, b⟩ : S29)] (p ++ y :: q) s' ((p.length + 1 : Nat) : Int))
     (if ((Ab4 s (x :: q)).2.length : Int) ≤ 6 then ((p ++ (Ab4 s (x :: q)).1).take a.length, (p ++ (Ab4 s (x :: q)).1).drop a.length, true) else ([], [], false)) := by
   intro y s' e hs'
   have := l4Plain_l0 a b ha q (p ++ [y]) s' (by omega) (by simp; omega) (by simp; omega)
   rw [e]
   simpa [List.append_assoc] using this
  by_cases hx : x ≥ 0
  ·refine Aa5 hx ?_
   exact go x s (by rw [Ab4, if_pos hx]) (by omega)
  ·refine Ab2 hx (Ac5 (plainRank_ev s (by omega) x) ?_)
   rw [Int.toNat_natCast]
   by_cases hm : x ∈ s
   ·rw [if_pos hm]
    refine Ab2 (by omega) ?_
    rw [Ap7, Ad7 (by have := As9 x s; omega) (by omega)]
    refine go _ s ?_ (by omega)
    rw [Ab4, if_neg hx]
    unfold Ag3
    rw [if_pos hm]
   ·rw [if_neg hm]
    refine Aa5 (by omega) (Aa5 (by omega) ?_)
    rw [Ap7, Ad7 (by omega) (by omega)]
    refine go _ (s ++ [x]) ?_ (by simp)
    rw [Ab4, if_neg hx]
    unfold Ag3
    rw [if_neg hm, Aj1 x s hm]
theorem l4Plain_ev (a b : List Int) (ha : a.length ≤ 1000) (hb : b.length ≤ 1000) : Ev (fun k => spec_l4Plain.f k [(⟨a, b⟩ : S29)])
  (if ((Ab4 (Ab4 [] a).2 b).2.length : Int) ≤ 6 then ((Ab4 [] a).1, (Ab4 (Ab4 [] a).2 b).1, true) else ([], [], false)) := by
 have e0 : (Ab0 [(⟨a, b⟩ : S29)] 0).f0 = a := rfl
 have e1 : (Ab0 [(⟨a, b⟩ : S29)] 0).f1 = b := rfl
 have hi : spec_l1Ints.f a = some a := by
  unfold spec_l1Ints.f
  simp only [Option.bind_some, List.length_nil, List.nil_append]
  rw [if_pos (by omega)]
 unfold spec_l4Plain.f
 simp only [e0, e1]
 refine Aa5 (by simp) (Ab9 hi (Aa5 (by omega) ?_))
 have h := l4Plain_l0 a b ha (a ++ b) [] [] (by simp; omega) (by simp; omega) (by simp)
 rw [Al8] at h
 simp only [List.nil_append] at h
 have hl := Ag9 a []
 rw [List.take_append_of_le_length (by omega), List.take_of_length_le (by omega), List.drop_append_of_le_length (by omega), List.drop_eq_nil_of_le (by omega), List.nil_append] at h
 exact h
def Aw1 (l : List S90) (a b : List Int) : Int × List Int × List Int :=
 if Ag8 l a = 0 then (if Ag8 l b = 0 then (if ((Ab4 (Ab4 [] a).2 b).2.length : Int) ≤ 6 then (0, (Ab4 [] a).1, (Ab4 (Ab4 [] a).2 b).1) else (2, [], [])) else (Ag8 l b, [], [])) else (Ag8 l a, [], [])
theorem Aj0 (l : List S90) (a b : List Int) (ha : a.length ≤ 1048576) (hb : b.length ≤ 1048576) : Ev (fun k => impl_PlainEquation.f k l a b) (Aw1 l a b) := by
 unfold impl_PlainEquation.f Aw1
 refine Ac5 (Ai4 l a ha) (Ac5 (Ai4 l b hb) (Ac5 (first_ev2 _ _) ?_))
 by_cases h1 : Ag8 l a = 0
 ·rw [if_pos h1, if_pos h1]
  by_cases h2 : Ag8 l b = 0
  ·rw [if_pos h2]
   have l1 := (Ah4 h1).2.1
   have l2 := (Ah4 h2).2.1
   refine Aa5 h2 (Ac5 (plain_ev a b (by omega) (by omega)) ?_)
   exact Ar6 (fun h => Aa9 _) (fun h => Aa9 _) |> fun h => Ag0 h (by simp)
  ·rw [if_neg h2]
   exact Ab2 h2 (Aa9 _)
 ·rw [if_neg h1, if_neg h1]
  exact Ab2 h1 (Aa9 _)
theorem PlainEquation_spec (l : List S90) (a b : List Int) (ha : a.length ≤ 1048576) (hb : b.length ≤ 1048576) : Ev (fun k => spec_PlainEquation.f k l a b) (Aw1 l a b) := by
 unfold spec_PlainEquation.f Aw1
 refine Ac5 (TermFault_spec l a ha) ?_
 by_cases h1 : Ag8 l a = 0
 ·rw [if_pos h1]
  have hR := Ao4 h1
  have hs := Au3 h1
  refine Aa5 h1 (Ac5 (l3Fault_ev l hR.sig b hb) ?_)
  have hg : Al6 l b = Ag8 l b := by unfold Ag8; rw [if_pos hs]
  rw [hg]
  by_cases h2 : Ag8 l b = 0
  ·rw [if_pos h2]
   have l1 := (Ah4 h1).2.1
   have l2 := (Ah4 h2).2.1
   refine Aa5 h2 (Ac5 (l4Plain_ev a b (by omega) (by omega)) ?_)
   by_cases h6 : ((Ab4 (Ab4 [] a).2 b).2.length : Int) ≤ 6
   ·rw [if_pos h6, if_pos h6]; exact Aa5 rfl (Aa9 _)
   ·rw [if_neg h6, if_neg h6]; exact Ab2 (by simp) (Aa9 _)
  ·rw [if_neg h2]
   exact Ab2 h2 (Aa9 _)
 ·rw [if_neg h1]
  exact Ab2 h1 (Aa9 _)
end Go.Proofs.YtbdpnkpienpnaaaGreatDoor.Pure
set_option linter.unusedVariables false
namespace Go.Proofs.YtbdpnkpienpnaaaGreatDoor.Pure
open Go.RowKit Go.Proofs.YtbdpnkpienpnaaaGreatDoor.P Go.Proofs.YtbdpnkpienpnaaaGreatDoorW.PrintWords Go.Proofs.YtbdpnkpienpnaaaGreatDoorW.PrintLast Go.Proofs.YtbdpnkpienpnaaaGreatDoor.Base
theorem clone_eqR (o : List Int) (ho : o.length ≤ 1048576) : slices_Clone_int64_int64.f o = some o := by
 unfold slices_Clone_int64_int64.f
 exact if_pos (by omega)
end Go.Proofs.YtbdpnkpienpnaaaGreatDoor.Pure
set_option linter.unusedVariables false
namespace Go.Proofs.YtbdpnkpienpnaaaGreatDoor.Pure
open Go.RowKit Go.Proofs.YtbdpnkpienpnaaaGreatDoor.P Go.Proofs.YtbdpnkpienpnaaaGreatDoorW.PrintWords Go.Proofs.YtbdpnkpienpnaaaGreatDoorW.PrintLast Go.Proofs.YtbdpnkpienpnaaaGreatDoor.Base
def An4 (f : Int → Int) (l : List Int) (i : Nat) : List Int := (l.take i).map f ++ l.drop i
theorem mpart_zero (f : Int → Int) (l : List Int) : An4 f l 0 = l := by simp [An4]
theorem mpart_end (f : Int → Int) (l : List Int) : An4 f l l.length = l.map f := by simp [An4]
theorem mpart_length (f : Int → Int) (l : List Int) (i : Nat) : (An4 f l i).length = l.length := by
 unfold An4
 rw [List.length_append, List.length_map, List.length_take, List.length_drop]; omega
theorem mpart_get (f : Int → Int) (l : List Int) (i : Nat) (hi : i < l.length) : rd (An4 f l i) (i : Int) = rd l (i : Int) := by
 rw [Aj5 _ i (by rw [mpart_length]; exact hi), Aj5 l i hi]
 unfold An4
 rw [List.getElem_append_right (by rw [List.length_map, List.length_take]; omega)]
 simp only [List.length_map, List.length_take, List.getElem_drop]
 congr 1; omega
theorem mpart_set (f : Int → Int) (l : List Int) (i : Nat) (hi : i < l.length) : (An4 f l i).set i (f l[i]) = An4 f l (i + 1) := by
 unfold An4
 have h : ((l.take i).map f).length = i := by rw [List.length_map, List.length_take]; omega
 rw [List.set_append_right _ _ (by omega), h, Nat.sub_self, List.drop_eq_getElem_cons hi, List.set_cons_zero, List.take_succ_eq_append_getElem hi, List.map_append, List.append_assoc]
 rfl
theorem mpart_same (f : Int → Int) (l : List Int) (i : Nat) (hi : i < l.length) (h : f l[i] = l[i]) : An4 f l (i + 1) = An4 f l i := by
 unfold An4
 rw [List.take_succ_eq_append_getElem hi, List.map_append, List.append_assoc, List.drop_eq_getElem_cons hi]
 simp [h]
theorem foldl_min_lt (c : Int) : ∀ (zs : List Int) (a : Int), zs.foldl min a < c ↔ a < c ∨ ∃ z ∈ zs, z < c
 | [], a => by simp
 | z :: zs, a => by
  rw [List.foldl_cons, foldl_min_lt c zs (min a z)]
  simp only [List.mem_cons, exists_eq_or_imp]
  constructor
  ·rintro (h | h)
   ·by_cases ha : a < c
    ·exact .inl ha
    ·exact .inr (.inl (by omega))
   ·exact .inr (.inr h)
  ·rintro (h | h | h)
   ·exact .inl (by omega)
   ·exact .inl (by omega)
   ·exact .inr h
theorem minOf_lt (c : Int) (zs : List Int) (h0 : 0 < zs.length) : Lib.minOf zs < c ↔ ∃ z ∈ zs, z < c := by
 unfold Lib.minOf
 rw [foldl_min_lt]
 cases zs with
 | nil => simp at h0
 | cons z zs => simp
def Ae5 (b n : Int) : Int := if n < 0 then n - b else n
def Small (t : List Int) : Prop := ∀ i, i < t.length → -12 ≤ rd t (i : Int) ∧ rd t (i : Int) ≤ 6
theorem small_of {l : List S90} {t : List Int} (h : RightT l t) : Small t := fun i hi => by
 have hn := h.nodes i hi
 have := h.sig.len
 unfold Ai1 at hn
 rw [Bool.or_eq_true] at hn
 rcases hn with hn | hn
 ·have := Ao0 hn; omega
 ·have := of_decide_eq_true hn; omega
theorem shifted_ev (t : List Int) (ht : t.length ≤ 1000) (hs : Small t) (b : Int) (h0 : 0 ≤ b) (h1 : b ≤ 11) : Ev (fun k => impl_shifted.f k t b) (t.map (Ae5 b)) := by
 unfold impl_shifted.f
 refine Ab9 (clone_eqR t (by omega)) ?_
 have key : ∀ (d i : Nat), i + d = t.length → Ev (fun k => impl_shifted.l0 k b (An4 (Ae5 b) t i) (t.length : Int) (i : Int)) (t.map (Ae5 b)) := by
  intro d
  induction d with
  | zero =>
   intro i hi
   obtain rfl : i = t.length := by omega
   refine Ac6 ?_
   simp only [impl_shifted.l0]
   rw [mpart_end]
   exact Ab2 (by omega) (Aa9 _)
  | succ d ih =>
   intro i hi
   refine Ac6 ?_
   simp only [impl_shifted.l0]
   have ha : i < t.length := by omega
   rw [mpart_length, mpart_get _ _ _ ha, Ae0 (by omega), Aj5 t i ha, Int.toNat_natCast]
   have hv := hs i ha
   rw [Aj5 t i ha] at hv
   refine Aa5 (by omega) (Aa5 (by omega) (Aa5 (by omega) ?_))
   have hi := ih (i + 1) (by omega)
   by_cases hn : t[i] < 0
   ·refine Aa5 hn ?_
    rw [Ad7 (by omega) (by omega)]
    rw [← mpart_set _ _ _ ha] at hi
    have e : Ae5 b t[i] = t[i] - b := if_pos hn
    rw [e] at hi
    exact hi
   ·refine Ab2 hn ?_
    rw [mpart_same (Ae5 b) t i ha (if_neg hn)] at hi
    exact hi
 have := key t.length 0 (by omega)
 rw [mpart_zero] at this
 exact this
theorem arL_shift (l : List S90) (b n : Int) (h0 : 0 ≤ b) : arL l (Ae5 b n) = arL l n := by
 unfold Ae5 arL
 by_cases h : n < 0
 ·rw [if_pos h, if_pos h, if_pos (by omega)]
 ·rw [if_neg h]
theorem Aq8 (ar : Int → Nat) (f : Int → Int) (hf : ∀ n, ar (f n) = ar n) : ∀ (t : List Int) (k : Nat), Al4 ar k (t.map f) = (Al4 ar k t).map (List.map f)
 | t, 0 => by rw [Aj7, Aj7]; rfl
 | [], k + 1 => rfl
 | n :: t, k + 1 => by
  rw [List.map_cons, Aj8, Aj8, hf]
  exact Aq8 ar f hf t _
theorem endN_map (ar : Int → Nat) (f : Int → Int) (hf : ∀ n, ar (f n) = ar n) (t : List Int) (k i : Nat) : Am4 ar (t.map f) k i = Am4 ar t k i := by
 unfold Am4
 rw [← List.map_drop, Aq8 ar f hf, Option.map_map]
 congr 1
 funext u
 simp
theorem node_shift {l : List S90} {b n : Int} (h : Ai1 l n = true) (h0 : 0 ≤ b) : Ai1 l (Ae5 b n) = decide (¬ Ae5 b n < -12) := by
 unfold Ae5
 by_cases hn : n < 0
 ·rw [if_pos hn]
  unfold Ai1
  have hs : Ax4 l (n - b) = false := by
   rw [Bool.eq_false_iff]
   intro hs
   have := Ao0 hs; omega
  rw [hs, Bool.false_or]
  have : (-12 ≤ n - b ∧ n - b ≤ -1) ↔ ¬ n - b < -12 := by omega
  simp only [this]
 ·rw [if_neg hn, h]
  have : ¬ n < -12 := by omega
  simp [this]
theorem bad_shift {l : List S90} {t : List Int} (h : Au6 l t) (b : Int) (h0 : 0 ≤ b) : Au0 l (t.map (Ae5 b)) = true ↔ ∃ z ∈ t.map (Ae5 b), z < -12 := by
 have hg : ∀ i (hi : i < t.length), Ai1 l (rd (t.map (Ae5 b)) (i : Int)) = decide (¬ Ae5 b t[i] < -12) := fun i hi => by
  rw [Aj5 _ i (by rw [List.length_map]; exact hi), List.getElem_map]
  have := h i hi
  rw [Aj5 t i hi] at this
  exact node_shift this h0
 unfold Au0
 constructor
 ·intro hb
  cases hf : Ag1 (fun j => !Ai1 l (rd (t.map (Ae5 b)) (j : Int))) (t.map (Ae5 b)).length 0 with
  | none => rw [hf] at hb; cases hb
  | some j =>
   obtain ⟨_, hj, hp, _⟩ := Ah6 _ _ _ hf
   rw [List.length_map] at hj
   have hj' : j < t.length := by omega
   rw [hg j hj'] at hp
   refine ⟨Ae5 b t[j], List.mem_map.2 ⟨t[j], List.getElem_mem _, rfl⟩, ?_⟩
   simpa using hp
 ·rintro ⟨z, hz, hlt⟩
  obtain ⟨y, hy, rfl⟩ := List.mem_map.1 hz
  obtain ⟨j, hj, rfl⟩ := List.mem_iff_getElem.1 hy
  cases hf : Ag1 (fun j => !Ai1 l (rd (t.map (Ae5 b)) (j : Int))) (t.map (Ae5 b)).length 0 with
  | some j => rfl
  | none =>
   have := (Ai8 _ 0).1 hf j (by omega) (by rw [List.length_map]; omega)
   rw [hg j hj] at this
   simp [hlt] at this
def Av7 (l : List S90) (t : List Int) (b : Int) : Int × List Int :=
 if Ag8 l t = 0 then (if 0 ≤ b ∧ b ≤ 11 then (if Au0 l (t.map (Ae5 b)) = true then (3, []) else (0, t.map (Ae5 b))) else (3, [])) else (Ag8 l t, [])
theorem termG_shift {l : List S90} {t : List Int} (h : RightT l t) (b : Int) (h0 : 0 ≤ b) : Al6 l (t.map (Ae5 b)) = if Au0 l (t.map (Ae5 b)) = true then 3 else 0 := by
 unfold Al6
 have := h.len
 rw [List.length_map, if_neg (by omega), endN_map _ _ (fun n => arL_shift l b n h0), if_pos h.whole]
theorem ShiftTerm_impl (l : List S90) (t : List Int) (ht : t.length ≤ 1048576) (b : Int) : Ev (fun k => impl_ShiftTerm.f k l t b) (Av7 l t b) := by
 unfold impl_ShiftTerm.f Av7
 refine Ac5 (Ai4 l t ht) (Ar6 (fun h => ?_) (fun h => Aa9 _))
 have hr := Ao4 h
 have hl := hr.len
 refine Ab9 (Ap1 b 0 11) ?_
 by_cases hb : 0 ≤ b ∧ b ≤ 11
 ·rw [if_pos hb]
  refine Aa5 (decide_eq_true hb) (Ac5 (shifted_ev t (by omega) (small_of hr) b hb.1 hb.2) (Ab9 (a := Lib.minOf (t.map (Ae5 b))) (if_pos (by rw [List.length_map]; omega)) ?_))
  have hm := minOf_lt (-12) (t.map (Ae5 b)) (by rw [List.length_map]; omega)
  rw [← bad_shift hr.nodes b hb.1] at hm
  by_cases hx : Au0 l (t.map (Ae5 b)) = true
  ·rw [if_pos hx]; exact Aa5 (hm.2 hx) (Aa9 _)
  ·rw [if_neg hx]; exact Ab2 (fun h => hx (hm.1 h)) (Aa9 _)
 ·rw [if_neg hb]
  exact Ab2 (by simpa using hb) (Aa9 _)
end Go.Proofs.YtbdpnkpienpnaaaGreatDoor.Pure
set_option linter.unusedVariables false
namespace Go.Proofs.YtbdpnkpienpnaaaGreatDoor.Pure
open Go.RowKit Go.Proofs.YtbdpnkpienpnaaaGreatDoor.P Go.Proofs.YtbdpnkpienpnaaaGreatDoorW.PrintWords Go.Proofs.YtbdpnkpienpnaaaGreatDoorW.PrintLast Go.Proofs.YtbdpnkpienpnaaaGreatDoor.Base
def Aw0 (t : List Int) : Prop := t.length ≤ 24 ∧ ∀ i, i < t.length → -12 ≤ rd t (i : Int) ∧ rd t (i : Int) ≤ 6
theorem smallT_of {l : List S90} {t : List Int} (h : RightT l t) : Aw0 t := ⟨h.len.2, fun i hi => by
 have hn := h.nodes i hi
 have := h.sig.len
 unfold Ai1 at hn
 rw [Bool.or_eq_true] at hn
 rcases hn with hn | hn
 ·have := Ao0 hn; omega
 ·have := of_decide_eq_true hn; omega⟩
theorem termG_right {l : List S90} (hr : Right l) {t : List Int} (h : Al6 l t = 0) : RightT l t := by
 unfold Al6 at h
 by_cases h1 : t.length < 1 ∨ t.length > 24
 ·rw [if_pos h1] at h; cases h
 rw [if_neg h1] at h
 by_cases h2 : Au0 l t = true
 ·rw [if_pos h2] at h; cases h
 rw [if_neg h2] at h
 by_cases h3 : Am4 (arL l) t 1 0 = some t.length
 ·exact ⟨hr, by omega, Aq2 h2, h3⟩
 ·rw [if_neg h3] at h; cases h
end Go.Proofs.YtbdpnkpienpnaaaGreatDoor.Pure
set_option linter.unusedVariables false
namespace Go.Proofs.YtbdpnkpienpnaaaGreatDoor.Pure
open Go.RowKit Go.Proofs.YtbdpnkpienpnaaaGreatDoorW.PrintWords Go.Proofs.YtbdpnkpienpnaaaGreatDoor.Base
def Au8 : List Int → Int → List Int
 | [], n => [n]
 | x :: xs, n => if n ≤ x then (if x = n then x :: xs else n :: x :: xs) else x :: Au8 xs n
theorem As8 (n y : Int) : ∀ l : List Int, y ∈ Au8 l n ↔ y = n ∨ y ∈ l
 | [] => by simp [Au8]
 | x :: xs => by
  unfold Au8
  by_cases h : n ≤ x
  ·rw [if_pos h]
   by_cases e : x = n
   ·rw [if_pos e]; subst e; simp
   ·rw [if_neg e]; simp
  ·rw [if_neg h, List.mem_cons, As8 n y xs, List.mem_cons]
   constructor
   ·rintro (h | h | h)
    ·exact .inr (.inl h)
    ·exact .inl h
    ·exact .inr (.inr h)
   ·rintro (h | h | h)
    ·exact .inr (.inl h)
    ·exact .inl h
    ·exact .inr (.inr h)
theorem rise_putL (n : Int) : ∀ l : List Int, l.Pairwise (· < ·) → (Au8 l n).Pairwise (· < ·)
 | [], _ => by simp [Au8]
 | x :: xs, h => by
  unfold Au8
  rw [List.pairwise_cons] at h
  by_cases hn : n ≤ x
  ·rw [if_pos hn]
   by_cases e : x = n
   ·rw [if_pos e, List.pairwise_cons]; exact h
   ·rw [if_neg e, List.pairwise_cons, List.pairwise_cons]
    refine ⟨fun y hy => ?_, h⟩
    rcases List.mem_cons.1 hy with rfl | hy
    ·omega
    ·have := h.1 y hy; omega
  ·rw [if_neg hn, List.pairwise_cons]
   refine ⟨fun y hy => ?_, rise_putL n xs h.2⟩
   rcases (As8 n y xs).1 hy with rfl | hy
   ·omega
   ·exact h.1 y hy
theorem putL_length (n : Int) : ∀ l : List Int, (Au8 l n).length ≤ l.length + 1
 | [] => by simp [Au8]
 | x :: xs => by
  unfold Au8
  split
  ·split
   ·simp
   ·simp
  ·have := putL_length n xs
   simp only [List.length_cons]; omega
theorem rise_ext : ∀ a b : List Int, a.Pairwise (· < ·) → b.Pairwise (· < ·) → (∀ x, x ∈ a ↔ x ∈ b) → a = b
 | [], [], _, _, _ => rfl
 | [], y :: ys, _, _, h => by have := (h y).2 (by simp); simp at this
 | x :: xs, [], _, _, h => by have := (h x).1 (by simp); simp at this
 | x :: xs, y :: ys, ha, hb, h => by
  rw [List.pairwise_cons] at ha hb
  have e : x = y := by
   have h1 := (h x).1 (by simp)
   have h2 := (h y).2 (by simp)
   rcases List.mem_cons.1 h1 with h1 | h1
   ·exact h1
   rcases List.mem_cons.1 h2 with h2 | h2
   ·exact h2.symm
   have := ha.1 y h2
   have := hb.1 x h1
   omega
  subst e
  congr 1
  refine rise_ext xs ys ha.2 hb.2 (fun z => ?_)
  constructor
  ·intro hz
   have h1 := (h z).1 (by simp [hz])
   rcases List.mem_cons.1 h1 with h1 | h1
   ·have := ha.1 z hz; omega
   ·exact h1
  ·intro hz
   have h1 := (h z).2 (by simp [hz])
   rcases List.mem_cons.1 h1 with h1 | h1
   ·have := hb.1 z hz; omega
   ·exact h1
theorem compactUpTo_rise (d : Array Int) (hs : ∀ i j, i < j → j < d.size → d[i]! ≤ d[j]!) : ∀ m, m ≤ d.size → (Lib.compactUpTo d m).Pairwise (· < ·) ∧ ∀ x, x ∈ Lib.compactUpTo d m ↔ ∃ j, j < m ∧ d[j]! = x := by
 intro m
 induction m with
 | zero => intro _; simp [Lib.compactUpTo]
 | succ m ih =>
  intro hm
  obtain ⟨h1, h2⟩ := ih (by omega)
  rw [Lib.compactUpTo_succ]
  by_cases hk : m = 0 ∨ d[m]! ≠ d[m - 1]!
  ·have hkp : Lib.keeps d m = true := by
    rcases hk with rfl | hk
    ·exact Lib.keeps_lt_one d 0 (by omega)
    ·exact Lib.keeps_pos hk
   rw [if_pos hkp]
   refine ⟨List.pairwise_append.2 ⟨h1, by simp, fun a ha b hb => ?_⟩, fun x => ?_⟩
   ·rw [List.mem_singleton] at hb
    subst hb
    obtain ⟨j, hj, rfl⟩ := (h2 a).1 ha
    rcases hk with rfl | hk
    ·omega
    ·have e1 := hs (m - 1) m (by omega) (by omega)
     by_cases hjm : j = m - 1
     ·subst hjm; omega
     ·have e2 := hs j (m - 1) (by omega) (by omega); omega
   ·rw [List.mem_append, List.mem_singleton, h2]
    constructor
    ·rintro (⟨j, hj, e⟩ | e)
     ·exact ⟨j, by omega, e⟩
     ·exact ⟨m, by omega, e.symm⟩
    ·rintro ⟨j, hj, e⟩
     by_cases hjm : j = m
     ·subst hjm; exact .inr e.symm
     ·exact .inl ⟨j, by omega, e⟩
  ·have hm0 : 0 < m := by
    rcases Nat.eq_zero_or_pos m with h | h
    ·exact absurd (.inl h) hk
    ·exact h
   have he : d[m]! = d[m - 1]! := by
    by_cases h : d[m]! = d[m - 1]!
    ·exact h
    ·exact absurd (.inr h) hk
   rw [Lib.keeps_neg hm0 he]
   simp only [Bool.false_eq_true, if_false, List.append_nil]
   refine ⟨h1, fun x => ?_⟩
   rw [h2]
   constructor
   ·rintro ⟨j, hj, e⟩; exact ⟨j, by omega, e⟩
   ·rintro ⟨j, hj, e⟩
    by_cases hjm : j = m
    ·subst hjm; exact ⟨j - 1, by omega, by rw [← he]; exact e⟩
    ·exact ⟨j, by omega, e⟩
theorem compact_rise (zs : List Int) (hs : zs.Pairwise (· ≤ ·)) : (Lib.compact zs).Pairwise (· < ·) ∧ ∀ x, x ∈ Lib.compact zs ↔ x ∈ zs := by
 have hg : ∀ i (hi : i < zs.length), zs.toArray[i]! = zs[i] := fun i hi => by simp [getElem!_pos, hi]
 have h := compactUpTo_rise zs.toArray (fun i j hij hj => by
  have hj' : j < zs.length := by simpa using hj
  rw [hg i (by omega), hg j hj']
  exact List.pairwise_iff_getElem.1 hs i j (by omega) hj' hij) zs.length (by simp)
 refine ⟨h.1, fun x => ?_⟩
 rw [Lib.compact, h.2, List.mem_iff_getElem]
 constructor
 ·rintro ⟨j, hj, e⟩; exact ⟨j, hj, by rw [← hg j hj]; exact e⟩
 ·rintro ⟨j, hj, e⟩; exact ⟨j, hj, by rw [hg j hj]; exact e⟩
theorem sort_rise (zs : List Int) : (zs.mergeSort fun x y => decide (x ≤ y)).Pairwise (· ≤ ·) := by
 have h := List.pairwise_mergeSort (le := fun x y : Int => decide (x ≤ y)) (fun a b c h1 h2 => by simp at *; omega) (fun a b => by simp; omega) zs
 exact h.imp (fun h => of_decide_eq_true h)
theorem sorted_eq (zs r : List Int) (h1 : r.Pairwise (· < ·)) (h2 : ∀ x, x ∈ r ↔ x ∈ zs) : Lib.compact (zs.mergeSort fun x y => decide (x ≤ y)) = r := by
 obtain ⟨h3, h4⟩ := compact_rise _ (sort_rise zs)
 refine rise_ext _ _ h3 h1 (fun x => ?_)
 rw [h4, h2, List.mem_mergeSort]
def Au5 (t : List Int) : List Int := t.foldl (fun a n => if n < 0 then Au8 a (-1 - n) else a) []
def At5 (n : Int) : List Int := if n < 0 then [-1 - n] else []
theorem foldl_put (t : List Int) : ∀ a : List Int, a.Pairwise (· < ·) → (t.foldl (fun a n => if n < 0 then Au8 a (-1 - n) else a) a).Pairwise (· < ·) ∧ ∀ x, x ∈ t.foldl (fun a n => if n < 0 then Au8 a (-1 - n) else a) a ↔ x ∈ a ∨ x ∈ t.flatMap At5 := by
 induction t with
 | nil => intro a ha; exact ⟨ha, fun x => by simp⟩
 | cons n t ih =>
  intro a ha
  rw [List.foldl_cons]
  by_cases hn : n < 0
  ·obtain ⟨h1, h2⟩ := ih (Au8 a (-1 - n)) (rise_putL _ _ ha)
   simp only [if_pos hn]
   refine ⟨h1, fun x => ?_⟩
   rw [h2, As8, List.flatMap_cons, List.mem_append, At5, if_pos hn, List.mem_singleton]
   constructor
   ·rintro ((h | h) | h)
    ·exact .inr (.inl h)
    ·exact .inl h
    ·exact .inr (.inr h)
   ·rintro (h | h | h)
    ·exact .inl (.inr h)
    ·exact .inl (.inl h)
    ·exact .inr h
  ·obtain ⟨h1, h2⟩ := ih a ha
   simp only [if_neg hn]
   refine ⟨h1, fun x => ?_⟩
   rw [h2, List.flatMap_cons, List.mem_append, At5, if_neg hn]
   simp
theorem varsL_rise (t : List Int) : (Au5 t).Pairwise (· < ·) := (foldl_put t [] List.Pairwise.nil).1
theorem Ao6 (t : List Int) (x : Int) : x ∈ Au5 t ↔ x ∈ t.flatMap At5 := by
 have := (foldl_put t [] List.Pairwise.nil).2 x
 unfold Au5
 rw [this]
 simp
theorem At2 (t : List Int) (x : Int) : x ∈ t.flatMap At5 ↔ ∃ n ∈ t, n < 0 ∧ x = -1 - n := by
 rw [List.mem_flatMap]
 constructor
 ·rintro ⟨n, hn, hx⟩
  unfold At5 at hx
  by_cases h : n < 0
  ·rw [if_pos h, List.mem_singleton] at hx; exact ⟨n, hn, h, hx⟩
  ·rw [if_neg h] at hx; simp at hx
 ·rintro ⟨n, hn, h, hx⟩
  refine ⟨n, hn, ?_⟩
  unfold At5
  rw [if_pos h, List.mem_singleton]; exact hx
theorem varsL_sorted (t : List Int) : Lib.compact ((t.flatMap At5).mergeSort fun x y => decide (x ≤ y)) = Au5 t :=
 sorted_eq _ _ (varsL_rise t) (Ao6 t)
theorem flatVar_length (t : List Int) : (t.flatMap At5).length ≤ t.length := by
 induction t with
 | nil => simp
 | cons n t ih =>
  rw [List.flatMap_cons, List.length_append, List.length_cons]
  unfold At5
  split
  ·simp only [List.length_singleton]; unfold At5 at ih; omega
  ·simp only [List.length_nil]; unfold At5 at ih; omega
theorem varsL_length (t : List Int) : (Au5 t).length ≤ t.length := by
 have h : ∀ (t a : List Int), (t.foldl (fun a n => if n < 0 then Au8 a (-1 - n) else a) a).length ≤ a.length + t.length := by
  intro t
  induction t with
  | nil => intro a; simp
  | cons n t ih =>
   intro a
   rw [List.foldl_cons]
   refine Nat.le_trans (ih _) ?_
   by_cases hn : n < 0
   ·have := putL_length (-1 - n) a
    simp only [if_pos hn, List.length_cons]; omega
   ·simp only [if_neg hn, List.length_cons]; omega
 have := h t []
 unfold Au5
 simpa using this
end Go.Proofs.YtbdpnkpienpnaaaGreatDoor.Pure
set_option linter.unusedVariables false
namespace Go.Proofs.YtbdpnkpienpnaaaGreatDoor.Pure
open Go.RowKit Go.Proofs.YtbdpnkpienpnaaaGreatDoor.P Go.Proofs.YtbdpnkpienpnaaaGreatDoorW.PrintWords Go.Proofs.YtbdpnkpienpnaaaGreatDoorW.PrintLast Go.Proofs.YtbdpnkpienpnaaaGreatDoor.Base
theorem rdV_get (xs : List (List Int)) (i : Nat) (h : i < xs.length) : Ak6 xs (i : Int) = xs[i] := by
 unfold Ak6; exact getD_get xs i _ h
theorem varsOf_l1 (ts : List (List Int)) (n : Nat) (i : Nat) (hn : ts.length ≤ 2) (t : List Int) (hs : Aw0 t) (r : List Int) : ∀ (d j : Nat) (a : List Int), j + d = t.length → a.length ≤ 24 * i + j →  i < 2 →
  Ev (fun k => impl_varsOf.l0 k (a ++ (t.drop j).flatMap At5) ts (n : Int) ((i + 1 : Nat) : Int)) r → Ev (fun k => impl_varsOf.l1 k a ts (n : Int) (i : Int) t (t.length : Int) (j : Int)) r := by
 have hl := hs.1
 intro d
 induction d with
 | zero =>
  intro j a hj ha hi hr
  refine Ac6 ?_
  simp only [impl_varsOf.l1]
  rw [Ae0 (i := i) (by omega)]
  rw [List.drop_eq_nil_of_le (by omega), List.flatMap_nil, List.append_nil] at hr
  exact Ab2 (by omega) hr
 | succ d ih =>
  intro j a hj ha hi hr
  have hjl : j < t.length := by omega
  have hv := hs.2 j hjl
  refine Ac6 ?_
  simp only [impl_varsOf.l1]
  rw [Aj5 t j hjl] at *
  rw [List.drop_eq_getElem_cons hjl, List.flatMap_cons] at hr
  refine Aa5 (by omega) (Aa5 (by omega) (Aa5 (by omega) ?_))
  rw [Ae0 (i := j) (by omega)]
  by_cases hneg : t[j] < 0
  ·rw [Ad7 (by omega) (by omega)]
   unfold At5 at hr
   rw [if_pos hneg, ← List.append_assoc] at hr
   exact Aa5 hneg (Aa5 (by omega) (ih (j + 1) _ (by omega) (by rw [List.length_append, List.length_singleton]; omega) hi hr))
  ·unfold At5 at hr
   rw [if_neg hneg, List.nil_append] at hr
   exact Ab2 hneg (ih (j + 1) _ (by omega) (by omega) hi hr)
theorem varsOf_l0 (ts : List (List Int)) (hn : ts.length ≤ 2) (hs : ∀ t ∈ ts, Aw0 t) : ∀ (d i : Nat) (a : List Int), i + d = ts.length → a.length ≤ 24 * i →
  Ev (fun k => impl_varsOf.l0 k a ts (ts.length : Int) (i : Int)) (Lib.compact ((a ++ (ts.drop i).flatMap (fun t => t.flatMap At5)).mergeSort fun x y => decide (x ≤ y))) := by
 intro d
 induction d with
 | zero =>
  intro i a hi ha
  refine Ac6 ?_
  simp only [impl_varsOf.l0]
  rw [List.drop_eq_nil_of_le (by omega), List.flatMap_nil, List.append_nil]
  have hsl : (a.mergeSort fun x y => decide (x ≤ y)).length = a.length := List.length_mergeSort a
  refine Ab2 (by omega) (Ab9 (a := a.mergeSort fun x y => decide (x ≤ y)) ?_ (Ab9 (a := Lib.compact (a.mergeSort fun x y => decide (x ≤ y))) ?_ (Aa9 _)))
  ·unfold slices_Sort_int64_int64.f
   exact if_pos (by omega)
  ·unfold slices_Compact_int64_int64.f
   exact if_pos ⟨by omega, Lib.compact_length_le _⟩
 | succ d ih =>
  intro i a hi ha
  have hil : i < ts.length := by omega
  have hst := hs _ (List.getElem_mem hil)
  refine Ac6 ?_
  simp only [impl_varsOf.l0]
  rw [rdV_get ts i hil]
  refine Aa5 (by omega) (Aa5 (by omega) (Aa5 (by omega) ?_))
  refine varsOf_l1 ts ts.length i hn ts[i] hst _ ts[i].length 0 a (by omega) (by omega) (by omega) ?_
  rw [List.drop_zero]
  have hfl := flatVar_length ts[i]
  have hl := hst.1
  refine Ag0 (ih (i + 1) _ (by omega) (by rw [List.length_append]; omega)) ?_
  rw [List.drop_eq_getElem_cons hil, List.flatMap_cons, List.append_assoc]
theorem varsOf_ev (ts : List (List Int)) (hn : ts.length ≤ 2) (hs : ∀ t ∈ ts, Aw0 t) : Ev (fun k => impl_varsOf.f k ts) (Lib.compact ((ts.flatMap (fun t => t.flatMap At5)).mergeSort fun x y => decide (x ≤ y))) := by
 unfold impl_varsOf.f
 exact varsOf_l0 ts hn hs ts.length 0 [] (by omega) (by simp)
end Go.Proofs.YtbdpnkpienpnaaaGreatDoor.Pure
set_option linter.unusedVariables false
namespace Go.Proofs.YtbdpnkpienpnaaaGreatDoor.Pure
open Go.RowKit Go.Proofs.YtbdpnkpienpnaaaGreatDoor.P Go.Proofs.YtbdpnkpienpnaaaGreatDoorW.PrintWords Go.Proofs.YtbdpnkpienpnaaaGreatDoorW.PrintLast Go.Proofs.YtbdpnkpienpnaaaGreatDoor.Base
def At7 (t : List Int) : Bool := (Ag1 (fun j => decide (rd t (j : Int) < -6)) t.length 0).isSome
theorem Ap0 (t : List Int) : At7 t = true ↔ ∃ n ∈ t, n < -6 := by
 unfold At7
 constructor
 ·intro h
  cases hf : Ag1 (fun j => decide (rd t (j : Int) < -6)) t.length 0 with
  | none => rw [hf] at h; cases h
  | some j =>
   obtain ⟨_, hj, hp, _⟩ := Ah6 _ _ _ hf
   have hj' : j < t.length := by omega
   have hp := of_decide_eq_true hp
   rw [Aj5 t j hj'] at hp
   exact ⟨t[j], List.getElem_mem _, hp⟩
 ·rintro ⟨n, hn, hlt⟩
  obtain ⟨j, hj, rfl⟩ := List.mem_iff_getElem.1 hn
  cases hf : Ag1 (fun j => decide (rd t (j : Int) < -6)) t.length 0 with
  | some j => rfl
  | none =>
   have := (Ai8 _ 0).1 hf j (by omega) (by omega)
   rw [Aj5 t j hj] at this
   exact absurd hlt (of_decide_eq_false this)
def Ay9 (l : List S90) (a b : List Int) : Int :=
 if Al6 l a = 0 then (if Al6 l b = 0 then (if At7 a = true ∨ At7 b = true then 3 else 0) else Al6 l b) else Al6 l a
def Ay5 (l : List S90) (a b : List Int) : Int := if As4 l = 0 then Ay9 l a b else As4 l
theorem high_vars (zs : List Int) (hz : zs.length ≤ 1048576) : Ev (fun k => slices_ContainsFunc_int64_int64_impl_EquationFault_1.f k zs) (decide (∃ v ∈ zs, v ≥ 6)) := by
 unfold slices_ContainsFunc_int64_int64_impl_EquationFault_1.f slices_IndexFunc_int64_int64_impl_EquationFault_1.f
 have h := Ag6 zs.length (fun j => if decide (rd zs (j : Int) ≥ 6) = true then some (j : Int) else none) (-1) (fun k i => slices_IndexFunc_int64_int64_impl_EquationFault_1.l0 k zs (zs.length : Int) i)
  (by simp only [slices_IndexFunc_int64_int64_impl_EquationFault_1.l0]; exact Ab2 (by omega) (Aa9 _))
  (fun i hi r hr => by
   simp only [slices_IndexFunc_int64_int64_impl_EquationFault_1.l0]
   refine Aa5 (by omega) (Aa5 (by omega) (Aa5 (by omega) (Ab9 (a := decide (rd zs (i : Int) ≥ 6)) rfl ?_)))
   rw [Ae0 (by omega)]
   by_cases h : decide (rd zs (i : Int) ≥ 6) = true
   ·rw [if_pos h]; exact Aa5 h (Aa9 _)
   ·rw [if_neg h]; exact Ab2 h hr)
  zs.length 0 (by omega)
 rw [Ai7 (fun j => decide (rd zs (j : Int) ≥ 6)) (fun j => (j : Int)) (-1)] at h
 refine Ac5 h (Ag0 (Aa9 _) ?_)
 cases hf : Ag1 (fun j => decide (rd zs (j : Int) ≥ 6)) zs.length 0 with
 | none =>
  have hn := (Ai8 _ 0).1 hf
  have : ¬ ∃ v ∈ zs, v ≥ 6 := by
   rintro ⟨v, hv, h6⟩
   obtain ⟨j, hj, rfl⟩ := List.mem_iff_getElem.1 hv
   have := hn j (by omega) (by omega)
   rw [Aj5 zs j hj] at this
   exact absurd h6 (of_decide_eq_false this)
  simp [this]
 | some j =>
  obtain ⟨_, hj, hp, _⟩ := Ah6 _ _ _ hf
  have hj' : j < zs.length := by omega
  have hp := of_decide_eq_true hp
  rw [Aj5 zs j hj'] at hp
  have : ∃ v ∈ zs, v ≥ 6 := ⟨zs[j], List.getElem_mem _, hp⟩
  simp [this]
theorem EquationFault_impl (l : List S90) (a b : List Int) (ha : a.length ≤ 1048576) (hb : b.length ≤ 1048576) : Ev (fun k => impl_EquationFault.f k l a b) (Ay5 l a b) := by
 unfold impl_EquationFault.f Ay5 Ay9
 refine Ac5 (Ai4 l a ha) (Ac5 (Ai4 l b hb) (Ac5 (first_ev2 _ _) ?_))
 unfold Ag8
 by_cases hs : As4 l = 0
 ·rw [if_pos hs, if_pos hs, if_pos hs]
  have hr := Ao1 l hs
  by_cases h1 : Al6 l a = 0
  ·rw [if_pos h1, if_pos h1]
   by_cases h2 : Al6 l b = 0
   ·rw [if_pos h2]
    have sa := smallT_of (termG_right hr h1)
    have sb := smallT_of (termG_right hr h2)
    have hv := varsOf_ev [a, b] (by simp) (fun x hx => by
     rcases List.mem_cons.1 hx with rfl | hx
     ·exact sa
     ·rw [List.mem_singleton] at hx; subst hx; exact sb)
    rw [List.flatMap_cons, List.flatMap_cons, List.flatMap_nil, List.append_nil, ← List.flatMap_append, varsL_sorted] at hv
    have hvl := varsL_length (a ++ b)
    rw [List.length_append] at hvl
    refine Aa5 h2 (Ac5 hv (Ac5 (high_vars _ (by have := sa.1; have := sb.1; omega)) ?_))
    have e : (∃ v ∈ Au5 (a ++ b), v ≥ 6) ↔ (At7 a = true ∨ At7 b = true) := by
     rw [Ap0, Ap0]
     constructor
     ·rintro ⟨v, hv, h6⟩
      rw [Ao6, At2] at hv
      obtain ⟨n, hn, _, rfl⟩ := hv
      rcases List.mem_append.1 hn with hn | hn
      ·exact .inl ⟨n, hn, by omega⟩
      ·exact .inr ⟨n, hn, by omega⟩
     ·rintro (⟨n, hn, hlt⟩ | ⟨n, hn, hlt⟩)
      ·exact ⟨-1 - n, by rw [Ao6, At2]; exact ⟨n, List.mem_append_left _ hn, by omega, rfl⟩, by omega⟩
      ·exact ⟨-1 - n, by rw [Ao6, At2]; exact ⟨n, List.mem_append_right _ hn, by omega, rfl⟩, by omega⟩
    by_cases h3 : ∃ v ∈ Au5 (a ++ b), v ≥ 6
    ·rw [if_pos (e.1 h3)]; exact Aa5 (decide_eq_true h3) (Aa9 _)
    ·rw [if_neg (fun k => h3 (e.2 k))]; exact Ab2 (by simpa using h3) (Aa9 _)
   ·rw [if_neg h2]; exact Ab2 h2 (Aa9 _)
  ·rw [if_neg h1, if_neg h1]; exact Ab2 h1 (Aa9 _)
 ·rw [if_neg hs, if_neg hs, if_neg hs]
  exact Ab2 hs (Aa9 _)
end Go.Proofs.YtbdpnkpienpnaaaGreatDoor.Pure
set_option linter.unusedVariables false
namespace Go.Proofs.YtbdpnkpienpnaaaGreatDoor.Pure
open Go.RowKit Go.Proofs.YtbdpnkpienpnaaaGreatDoor.P Go.Proofs.YtbdpnkpienpnaaaGreatDoorW.PrintWords Go.Proofs.YtbdpnkpienpnaaaGreatDoorW.PrintLast Go.Proofs.YtbdpnkpienpnaaaGreatDoor.Base
theorem An5 {ar : Int → Nat} (h0 : ∀ n, n < 0 → ar n = 0) : ∀ (t s : List Int) (k : Nat), (Al4 ar k (Ab4 s t).1).map List.length = (Al4 ar k t).map List.length
 | [], s, k => by rw [Ab4]
 | n :: t, s, 0 => by rw [Aj7, Aj7, Option.map_some, Option.map_some, Ag9]
 | n :: t, s, k + 1 => by
  rw [Ab4]
  by_cases h : n ≥ 0
  ·rw [if_pos h, Aj8, Aj8]
   exact An5 h0 t s _
  ·rw [if_neg h, Aj8, Aj8, h0 n (by omega), h0 _ (by omega)]
   exact An5 h0 t _ _
theorem whole_plainP {ar : Int → Nat} (h0 : ∀ n, n < 0 → ar n = 0) {t s : List Int} (h : Whole ar t) : Whole ar (Ab4 s t).1 := by
 have e := An5 h0 t s 1
 unfold Whole at h ⊢
 rw [h] at e
 cases hq : Al4 ar 1 (Ab4 s t).1 with
 | none => rw [hq] at e; cases e
 | some u =>
  rw [hq] at e
  have : u.length = 0 := by simpa using e
  rw [List.length_eq_zero_iff.1 this]
theorem pln_right {l : List S90} {t s : List Int} (h : Ag8 l t = 0) (hm : (Ab4 s t).2.length ≤ 6) : Ag8 l (Ab4 s t).1 = 0 := by
 obtain ⟨h1, h2, h3, h4⟩ := Ah4 h
 refine termF_mk (Au3 h) (by rw [Ag9]; exact h1) (by rw [Ag9]; exact h2) (fun n hn => ?_) (whole_plainP (fun n hn => by unfold arL; rw [if_pos hn]) h4)
 rcases plainP_mem t s n hn with ⟨_, k⟩ | ⟨j, rfl, k⟩
 ·exact h3 n k
 ·unfold Ai1
  rw [Bool.or_eq_true]
  exact .inr (decide_eq_true (by omega))
theorem pln_low {t s : List Int} (hm : (Ab4 s t).2.length ≤ 6) : ∀ n ∈ (Ab4 s t).1, -6 ≤ n := by
 intro n hn
 rcases plainP_mem t s n hn with ⟨k, _⟩ | ⟨j, rfl, k⟩ <;> omega
theorem An8 {l : List S90} {t : List Int} (h : Ag8 l t = 0) (hlow : ∀ n ∈ t, -6 ≤ n) {b : Int} (b0 : 0 ≤ b) (b1 : b ≤ 5) : Ag8 l (t.map (Ae5 b)) = 0 := by
 obtain ⟨h1, h2, h3, h4⟩ := Ah4 h
 refine termF_mk (Au3 h) (by rw [List.length_map]; exact h1) (by rw [List.length_map]; exact h2) (fun n hn => ?_) ?_
 ·obtain ⟨m, hm, rfl⟩ := List.mem_map.1 hn
  rw [node_shift (h3 m hm) b0]
  have := hlow m hm
  refine decide_eq_true ?_
  unfold Ae5
  split <;> omega
 ·unfold Whole at h4 ⊢
  rw [Aq8 _ _ (fun n => arL_shift l b n b0), h4]; rfl
theorem shiftR_plain {l : List S90} {t : List Int} (h : Ag8 l t = 0) (hlow : ∀ n ∈ t, -6 ≤ n) {b : Int} (b0 : 0 ≤ b) (b1 : b ≤ 5) : Av7 l t b = (0, t.map (Ae5 b)) := by
 have hr := An8 h hlow b0 b1
 have hg : Al6 l (t.map (Ae5 b)) = 0 := by
  unfold Ag8 at hr
  rw [if_pos (Au3 h)] at hr; exact hr
 have hb : ¬ Au0 l (t.map (Ae5 b)) = true := fun hb => by
  rw [termG_shift (Ao4 h) b b0, if_pos hb] at hg; cases hg
 unfold Av7
 rw [if_pos h, if_pos (by omega), if_neg hb]
section
variable {l : List S90} {a b : List Int} (ha : Ag8 l a = 0) (hb : Ag8 l b = 0) (h6 : ((Ab4 (Ab4 [] a).2 b).2.length : Int) ≤ 6)
include ha hb h6
theorem As3 : Ag8 l (Ab4 [] a).1 = 0 ∧ Ag8 l (Ab4 (Ab4 [] a).2 b).1 = 0 ∧ (∀ n ∈ (Ab4 [] a).1, -6 ≤ n) ∧ ∀ n ∈ (Ab4 (Ab4 [] a).2 b).1, -6 ≤ n := by
 have h := Ak8 b (Ab4 [] a).2
 exact ⟨pln_right ha (by omega), pln_right hb (by omega), pln_low (by omega), pln_low (by omega)⟩
theorem pln_again : Aw1 l (Ab4 [] a).1 (Ab4 (Ab4 [] a).2 b).1 = (0, (Ab4 [] a).1, (Ab4 (Ab4 [] a).2 b).1) := by
 obtain ⟨h1, h2, _⟩ := As3 ha hb h6
 have e1 : Ab4 [] (Ab4 [] a).1 = ((Ab4 [] a).1, Am3 (Ab4 [] a).2.length) := Ai9 a []
 have e2 := Ai9 b (Ab4 [] a).2
 unfold Aw1
 rw [if_pos h1, if_pos h2, e1]
 simp only
 rw [e2]
 simp only
 rw [Ak1, if_pos h6]
theorem pln_shift {d : Int} (d0 : 0 ≤ d) (d1 : d ≤ 5) : Aw1 l ((Ab4 [] a).1.map (Ae5 d)) ((Ab4 (Ab4 [] a).2 b).1.map (Ae5 d)) = (0, (Ab4 [] a).1, (Ab4 (Ab4 [] a).2 b).1) := by
 obtain ⟨h1, h2, h3, h4⟩ := As3 ha hb h6
 have e1 : Ab4 [] (Ab4 [] a).1 = ((Ab4 [] a).1, Am3 (Ab4 [] a).2.length) := Ai9 a []
 have e2 := Ai9 b (Ab4 [] a).2
 have hm := Ap6 (Ae5 d) (fun x y e => by unfold Ae5 at e; split at e <;> split at e <;> omega) (fun x hx => by unfold Ae5; rw [if_neg (by omega)]) (fun x hx => by unfold Ae5; rw [if_pos hx]; omega)
 have e3 := hm (Ab4 [] a).1 []
 rw [List.map_nil, e1] at e3
 have e4 := hm (Ab4 (Ab4 [] a).2 b).1 (Am3 (Ab4 [] a).2.length)
 rw [e2] at e4
 unfold Aw1
 rw [if_pos (An8 h1 h3 d0 d1), if_pos (An8 h2 h4 d0 d1), e3]
 simp only
 rw [e4]
 simp only
 rw [List.length_map, Ak1, if_pos h6]
theorem pln_fault : Ay5 l (Ab4 [] a).1 (Ab4 (Ab4 [] a).2 b).1 = 0 := by
 obtain ⟨h1, h2, h3, h4⟩ := As3 ha hb h6
 have hs := Au3 ha
 have g1 : Al6 l (Ab4 [] a).1 = 0 := by unfold Ag8 at h1; rwa [if_pos hs] at h1
 have g2 : Al6 l (Ab4 (Ab4 [] a).2 b).1 = 0 := by unfold Ag8 at h2; rwa [if_pos hs] at h2
 have k1 : ¬ At7 (Ab4 [] a).1 = true := fun h => by obtain ⟨n, hn, hl⟩ := (Ap0 _).1 h; have := h3 n hn; omega
 have k2 : ¬ At7 (Ab4 (Ab4 [] a).2 b).1 = true := fun h => by obtain ⟨n, hn, hl⟩ := (Ap0 _).1 h; have := h4 n hn; omega
 unfold Ay5 Ay9
 rw [if_pos hs]
 simp [g1, g2, k1, k2]
end
end Go.Proofs.YtbdpnkpienpnaaaGreatDoor.Pure
set_option linter.unusedVariables false
namespace Go.Proofs.YtbdpnkpienpnaaaGreatDoor.Pure
open Go.RowKit Go.Proofs.YtbdpnkpienpnaaaGreatDoor.P Go.Proofs.YtbdpnkpienpnaaaGreatDoorW.PrintWords Go.Proofs.YtbdpnkpienpnaaaGreatDoorW.PrintLast Go.Proofs.YtbdpnkpienpnaaaGreatDoor.Base
theorem Aq1 (xs : List S29) (i : Nat) (h : i < xs.length) : Ab0 xs (i : Int) = xs[i] := by
 simp [Ab0, List.getD_eq_getElem?_getD, List.getElem?_eq_getElem h]
def Aw5 (l : List S29) : Prop := l.length ≤ 1048576 ∧ ∀ x ∈ l, x.f0.length ≤ 1048576 ∧ x.f1.length ≤ 1048576
end Go.Proofs.YtbdpnkpienpnaaaGreatDoor.Pure
set_option linter.unusedVariables false
namespace Go.Proofs.YtbdpnkpienpnaaaGreatDoor.Pure
open Go.RowKit Go.Proofs.YtbdpnkpienpnaaaGreatDoor.P Go.Proofs.YtbdpnkpienpnaaaGreatDoorW.PrintWords Go.Proofs.YtbdpnkpienpnaaaGreatDoorW.PrintLast Go.Proofs.YtbdpnkpienpnaaaGreatDoor.Base
theorem l1Same_l0 (a b : List Int) (hab : a.length = b.length) (hl : a.length ≤ 9223372036854775807) : ∀ (d i : Nat), i + d = a.length → Ev (fun k => spec_l1Same.l0 k a b (i : Int)) (decide (a.drop i = b.drop i)) := by
 intro d
 induction d with
 | zero =>
  intro i hi
  refine Ac6 ?_
  simp only [spec_l1Same.l0]
  refine Ab2 (by omega) ?_
  rw [List.drop_eq_nil_of_le (by omega), List.drop_eq_nil_of_le (by omega)]
  exact Aa9 _
 | succ d ih =>
  intro i hi
  refine Ac6 ?_
  simp only [spec_l1Same.l0]
  refine Aa5 (by omega) (Aa5 (by omega) (Aa5 (by omega) ?_))
  rw [As1 a i (by omega), As1 b i (by omega)]
  by_cases h : rd a (i : Int) = rd b (i : Int)
  ·refine Aa5 h ?_
   rw [Ae0 (by omega)]
   refine Ag0 (ih (i + 1) (by omega)) ?_
   simp [h]
  ·refine Ab2 h ?_
   refine Ag0 (Aa9 _) ?_
   simp [h]
theorem l1Same_ev (a b : List Int) (hl : a.length ≤ 9223372036854775807) : Ev (fun k => spec_l1Same.f k a b) (decide (a = b)) := by
 unfold spec_l1Same.f
 by_cases h : a.length = b.length
 ·refine Aa5 (by omega) ?_
  exact l1Same_l0 a b h hl a.length 0 (by omega)
 ·refine Ab2 (by omega) ?_
  refine Ag0 (Aa9 _) ?_
  have : ¬ a = b := fun e => h (by rw [e])
  simp [this]
theorem slicesEqual_l0 (a b : List Int) (hab : a.length = b.length) (hl : a.length ≤ 9223372036854775807) : ∀ (d i : Nat), i + d = a.length → Ev (fun k => slices_Equal_int64_int64.l0 k a b (a.length : Int) (i : Int)) (decide (a.drop i = b.drop i)) := by
 intro d
 induction d with
 | zero =>
  intro i hi
  refine Ac6 ?_
  simp only [slices_Equal_int64_int64.l0]
  refine Ab2 (by omega) ?_
  rw [List.drop_eq_nil_of_le (by omega), List.drop_eq_nil_of_le (by omega)]
  exact Aa9 _
 | succ d ih =>
  intro i hi
  refine Ac6 ?_
  simp only [slices_Equal_int64_int64.l0]
  refine Aa5 (by omega) (Aa5 (by omega) (Aa5 (by omega) (Aa5 (by omega) ?_)))
  rw [As1 a i (by omega), As1 b i (by omega)]
  by_cases h : rd a (i : Int) = rd b (i : Int)
  ·refine Aa5 h ?_
   rw [Ae0 (by omega)]
   refine Ag0 (ih (i + 1) (by omega)) ?_
   simp [h]
  ·refine Ab2 h ?_
   refine Ag0 (Aa9 _) ?_
   simp [h]
theorem slicesEqual_ev (a b : List Int) (hl : a.length ≤ 9223372036854775807) : Ev (fun k => slices_Equal_int64_int64.f k a b) (decide (a = b)) := by
 unfold slices_Equal_int64_int64.f
 by_cases h : a.length = b.length
 ·refine Aa5 (by omega) ?_
  exact slicesEqual_l0 a b h hl a.length 0 (by omega)
 ·refine Ab2 (by omega) ?_
  refine Ag0 (Aa9 _) ?_
  have : ¬ a = b := fun e => h (by rw [e])
  simp [this]
end Go.Proofs.YtbdpnkpienpnaaaGreatDoor.Pure
set_option linter.unusedVariables false
namespace Go.Proofs.YtbdpnkpienpnaaaGreatDoor.Pure
open Go.RowKit Go.Proofs.YtbdpnkpienpnaaaGreatDoor.P Go.Proofs.YtbdpnkpienpnaaaGreatDoorW.PrintWords Go.Proofs.YtbdpnkpienpnaaaGreatDoorW.PrintLast Go.Proofs.YtbdpnkpienpnaaaGreatDoor.Base
def Ak4 (x y : S29) : Bool := decide (x.f0 = y.f0 ∧ x.f1 = y.f1)
theorem l4Same_ev (x y : S29) (h0 : x.f0.length ≤ 1048576) (h1 : x.f1.length ≤ 1048576) : Ev (fun k => spec_l4Same.f k [x] [y]) (Ak4 x y) := by
 unfold spec_l4Same.f
 refine Aa5 (by simp) (Aa5 (by simp) ?_)
 have ex : Ab0 [x] 0 = x := rfl
 have ey : Ab0 [y] 0 = y := rfl
 rw [ex, ey]
 refine Ac5 (l1Same_ev _ _ (by omega)) ?_
 by_cases h : x.f0 = y.f0
 ·refine Aa5 (by simpa using h) (Ac5 (l1Same_ev _ _ (by omega)) (Ag0 (Aa9 _) (by simp [Ak4, h])))
 ·exact Ab2 (by simpa using h) (Ag0 (Aa9 _) (by simp [Ak4, h]))
theorem sameEquation_ev (x y : S29) (h0 : x.f0.length ≤ 1048576) (h1 : x.f1.length ≤ 1048576) : Ev (fun k => impl_sameEquation.f k x.f0 x.f1 y.f0 y.f1) (Ak4 x y) := by
 unfold impl_sameEquation.f
 refine Ac5 (slicesEqual_ev _ _ (by omega)) ?_
 by_cases h : x.f0 = y.f0
 ·refine Aa5 (by simpa using h) (Ac5 (slicesEqual_ev _ _ (by omega)) (Ag0 (Aa9 _) (by simp [Ak4, h])))
 ·exact Ab2 (by simpa using h) (Ag0 (Aa9 _) (by simp [Ak4, h]))
theorem SameE_spec (a b : List S29) (hf : Aw5 a) : Ev (fun k => spec_SameEquations.f k a b) (Au7 Ak4 a b) := by
 unfold spec_SameEquations.f Au7
 have hl := hf.1
 by_cases h' : a.length = b.length
 ·rw [if_pos h']
  refine Aa5 (by omega) ?_
  exact loop_all Ak4 a b h' (fun k i => spec_SameEquations.l0 k a b i)
   (fun k => by simp only [spec_SameEquations.l0]; rw [if_neg (by omega)])
   (fun i ha hb r hr => by
    simp only [spec_SameEquations.l0]
    refine Aa5 (by omega) (Aa5 (by omega) (Aa5 (by omega) ?_))
    rw [Aq1 a i ha, Aq1 b i hb, Ae0 (by omega)]
    have := hf.2 _ (List.getElem_mem ha)
    refine Ac5 (l4Same_ev _ _ this.1 this.2) ?_
    by_cases h : Ak4 a[i] b[i] = true
    ·rw [if_pos h]; exact Aa5 h hr
    ·rw [if_neg h]; exact Ab2 h (Aa9 _))
   a.length 0 (by omega)
 ·rw [if_neg h']
  exact Ab2 (by omega) (Aa9 _)
theorem SameE_impl (a b : List S29) (hf : Aw5 a) : Ev (fun k => impl_SameEquations.f k a b) (Au7 Ak4 a b) := by
 unfold impl_SameEquations.f
 refine Ac5 (a := Au7 Ak4 a b) ?_ (Aa9 _)
 unfold slices_EqualFunc_impl_Equation_impl_Equation_impl_Equation_impl_Equation_impl_sameEquation.f Au7
 have hl := hf.1
 by_cases h' : a.length = b.length
 ·rw [if_pos h']
  refine Aa5 (by omega) ?_
  exact loop_all Ak4 a b h' (fun k i => slices_EqualFunc_impl_Equation_impl_Equation_impl_Equation_impl_Equation_impl_sameEquation.l0 k b a (a.length : Int) i)
   (fun k => by simp only [slices_EqualFunc_impl_Equation_impl_Equation_impl_Equation_impl_Equation_impl_sameEquation.l0]; rw [if_neg (by omega)])
   (fun i ha hb r hr => by
    simp only [slices_EqualFunc_impl_Equation_impl_Equation_impl_Equation_impl_Equation_impl_sameEquation.l0]
    refine Aa5 (by omega) (Aa5 (by omega) (Aa5 (by omega) (Aa5 (by omega) ?_)))
    rw [Aq1 a i ha, Aq1 b i hb, Ae0 (by omega)]
    have := hf.2 _ (List.getElem_mem ha)
    refine Ac5 (sameEquation_ev _ _ this.1 this.2) ?_
    by_cases h : Ak4 a[i] b[i] = true
    ·rw [if_pos h]; exact Aa5 h hr
    ·rw [if_neg h]; exact Ab2 h (Aa9 _))
   a.length 0 (by omega)
 ·rw [if_neg h']
  exact Ab2 (by omega) (Aa9 _)
theorem sameE_one (a b : List Int) : Au7 Ak4 [(⟨a, b⟩ : S29)] [(⟨a, b⟩ : S29)] = true := by
 unfold Au7
 rw [if_pos rfl]
 exact allB_self Ak4 (fun x => by simp [Ak4]) _
end Go.Proofs.YtbdpnkpienpnaaaGreatDoor.Pure
set_option linter.unusedVariables false
namespace Go.Proofs.YtbdpnkpienpnaaaGreatDoor.Pure
open Go.RowKit Go.Proofs.YtbdpnkpienpnaaaGreatDoorW.PrintWords Go.Proofs.YtbdpnkpienpnaaaGreatDoorW.PrintLast Go.Proofs.YtbdpnkpienpnaaaGreatDoor.Base
def Ay0 (x : Int) : Prop := 0 ≤ x ∧ x ≤ 255
theorem Av4 {xs : List Int} (hx : ∀ x ∈ xs, Ay0 x) (i : Int) (h0 : 0 ≤ i) (h1 : i < xs.length) : Ay0 (rd xs i) := by
 have := hx _ (Av8 xs i.toNat (by omega))
 rwa [Int.toNat_of_nonneg h0] at this
end Go.Proofs.YtbdpnkpienpnaaaGreatDoor.Pure
set_option linter.unusedVariables false
namespace Go.Proofs.YtbdpnkpienpnaaaGreatDoor.Pure
open Go.RowKit Go.Proofs.YtbdpnkpienpnaaaGreatDoor.P Go.Proofs.YtbdpnkpienpnaaaGreatDoorW.PrintWords Go.Proofs.YtbdpnkpienpnaaaGreatDoorW.PrintLast Go.Proofs.YtbdpnkpienpnaaaGreatDoor.Base
theorem An6 {x n : Int} (hx : 0 ≤ x) (hn : 1 ≤ n) : 0 ≤ Int.tmod x n ∧ Int.tmod x n < n := by
 rw [Int.tmod_eq_emod_of_nonneg hx]
 exact ⟨Int.emod_nonneg _ (by omega), Int.emod_lt_of_pos _ (by omega)⟩
structure Code (c : List Int) : Prop where
 bytes : ∀ x ∈ c, Ay0 x
 len : c.length ≤ 2000000
theorem Aj3 {c : List Int} (hc : Code c) {a n : Int} (ha : 0 ≤ a) (ha' : a ≤ 1000000000000) (hn : n ≤ 1000000) :
  ∃ v, spec_l1Next.f c a n = some (v, a + 1) ∧ (n < 1 → v = 0) ∧ (1 ≤ n → 0 ≤ v ∧ v < n) := by
 unfold spec_l1Next.f
 have e1 : wrap64 (a + 1) = a + 1 := Ad7 (by omega) (by omega)
 have e2 : wrap64 (a + 1 - 1) = a := by rw [Ad7 (by omega) (by omega)]; omega
 simp only [e1, e2]
 by_cases h1 : n < 1
 ·rw [if_pos h1]
  exact ⟨0, rfl, fun _ => rfl, fun h => by omega⟩
 rw [if_neg h1]
 have hl := hc.len
 by_cases h2 : (c.length : Int) = 0
 ·rw [if_pos h2, if_neg (by omega), Ad7 (x := a * 7) (by omega) (by omega)]
  exact ⟨_, rfl, fun h => by omega, fun h => An6 (by omega) h⟩
 rw [if_neg h2]
 have hp : 0 < (c.length : Int) := by omega
 obtain ⟨m0, m1⟩ := An6 (x := a) (n := (c.length : Int)) ha (by omega)
 have hb := Av4 hc.bytes _ m0 m1
 have hq : 0 ≤ Int.tdiv a (c.length : Int) ∧ Int.tdiv a (c.length : Int) ≤ a := by
  rw [Int.tdiv_eq_ediv_of_nonneg ha]
  exact ⟨Int.ediv_nonneg ha (by omega), Int.ediv_le_self _ ha⟩
 rw [if_pos m0, if_pos m1]
 generalize rd c (Int.tmod a (c.length : Int)) = b at *
 generalize Int.tdiv a (c.length : Int) = q at *
 unfold Ay0 at hb
 have w1 : wrap64 b = b := Ad7 (by omega) (by omega)
 have w2 : wrap64 q = q := Ad7 (by omega) (by omega)
 have w3 : wrap64 (q * 37) = q * 37 := Ad7 (by omega) (by omega)
 have w4 : wrap64 (b + q * 37) = b + q * 37 := Ad7 (by omega) (by omega)
 by_cases h3 : n > 200
 ·rw [if_pos h3]
  obtain ⟨k0, k1⟩ := An6 (x := a + 1) (n := (c.length : Int)) (by omega) (by omega)
  have hd := Av4 hc.bytes _ k0 k1
  rw [if_pos k0, if_pos k1, if_neg (by omega)]
  generalize rd c (Int.tmod (a + 1) (c.length : Int)) = d at *
  unfold Ay0 at hd
  have w5 : wrap64 d = d := Ad7 (by omega) (by omega)
  have w6 : wrap64 (d * 13) = d * 13 := Ad7 (by omega) (by omega)
  have w7 : wrap64 ((b + q * 37) * 251) = (b + q * 37) * 251 := Ad7 (by omega) (by omega)
  have w8 : wrap64 ((b + q * 37) * 251 + d * 13) = (b + q * 37) * 251 + d * 13 := Ad7 (by omega) (by omega)
  have w9 : wrap64 ((b + q * 37) * 251 + d * 13 + a) = (b + q * 37) * 251 + d * 13 + a := Ad7 (by omega) (by omega)
  simp only [w1, w2, w3, w4, w5, w6, w7, w8, w9]
  exact ⟨_, rfl, fun h => by omega, fun h => An6 (by omega) h⟩
 ·rw [if_neg h3, if_neg (by omega)]
  simp only [w1, w2, w3, w4]
  exact ⟨_, rfl, fun h => by omega, fun h => An6 (by omega) h⟩
theorem Al0 {c : List Int} (hc : Code c) {a n : Int} (ha : 0 ≤ a) (ha' : a ≤ 1000000000000) (hn : n ≤ 1000000) :
  ∃ b, spec_l1Chance.f c a n = some (b, a + 1) := by
 obtain ⟨v, hv, _⟩ := Aj3 hc ha ha' hn
 exact ⟨v == 0, by unfold spec_l1Chance.f; rw [hv]; rfl⟩
theorem Al2 {c : List Int} (hc : Code c) {a : Int} (ha : 0 ≤ a) (ha' : a ≤ 1000000000000) (l : List Int) (hl : 0 < l.length) (hl' : l.length ≤ 1000000) :
  ∃ v, spec_l1Pick.f c a l = some (v, a + 1) ∧ v ∈ l := by
 obtain ⟨v, hv, _, h⟩ := Aj3 (n := (l.length : Int)) hc ha ha' (by omega)
 obtain ⟨h0, h1⟩ := h (by omega)
 refine ⟨rd l v, ?_, ?_⟩
 ·unfold spec_l1Pick.f
  rw [hv]
  simp only [Option.bind_some]
  rw [if_pos h0, if_pos h1]
 ·have := Av8 l v.toNat (by omega)
  rwa [Int.toNat_of_nonneg h0] at this
end Go.Proofs.YtbdpnkpienpnaaaGreatDoor.Pure
set_option linter.unusedVariables false
namespace Go.Proofs.YtbdpnkpienpnaaaGreatDoor.Pure
open Go.RowKit Go.Proofs.YtbdpnkpienpnaaaGreatDoor.P Go.Proofs.YtbdpnkpienpnaaaGreatDoorW.PrintWords Go.Proofs.YtbdpnkpienpnaaaGreatDoorW.PrintLast Go.Proofs.YtbdpnkpienpnaaaGreatDoor.Base
theorem l2Sig_j1 (v : Int) (f : Bool) (c : List Int) (a : Int) (n1 : ByteArray) (i1 : Int) (n2 : ByteArray) (i2 : Int) (n3 : ByteArray) (i3 : Int) (n4 : ByteArray) (i4 : Int) (n5 : ByteArray) (i5 : Int) (n6 : ByteArray) (i6 : Int) :
  ∃ g, Ev (fun k => spec_l2Sig.j1 k v f c a n1 i1 n2 i2 n3 i3 n4 i4 n5 i5 n6 i6) (g, a) ∧ 1 ≤ g.length ∧ g.length ≤ 6 := by
 cases f with
 | true =>
  refine ⟨[(⟨n5, i5⟩ : S90), (⟨n4, i4⟩ : S90), (⟨(⟨#[97, 100, 100]⟩ : ByteArray), 2⟩ : S90), (⟨n6, i6⟩ : S90)], Ac6 ?_, by simp, by simp⟩
  simp only [spec_l2Sig.j1]
  exact Aa5 (by simp) (Aa9 _)
 | false =>
  by_cases h5 : v = 5
  ·refine ⟨[(⟨n5, i5⟩ : S90), (⟨(⟨#[102]⟩ : ByteArray), 1⟩ : S90), (⟨(⟨#[103]⟩ : ByteArray), 1⟩ : S90)], Ac6 ?_, by simp, by simp⟩
   simp only [spec_l2Sig.j1]
   exact Ab2 (by simp) (Aa5 h5 (Aa9 _))
  by_cases h6 : v = 6
  ·refine ⟨[(⟨n5, i5⟩ : S90), (⟨n6, i6⟩ : S90), (⟨n1, i1⟩ : S90), (⟨n3, i3⟩ : S90), (⟨n2, i2⟩ : S90), (⟨n4, i4⟩ : S90)], Ac6 ?_, by simp, by simp⟩
   simp only [spec_l2Sig.j1]
   exact Ab2 (by simp) (Ab2 h5 (Aa5 h6 (Aa9 _)))
  ·refine ⟨[(⟨n5, i5⟩ : S90)], Ac6 ?_, by simp, by simp⟩
   simp only [spec_l2Sig.j1]
   exact Ab2 (by simp) (Ab2 h5 (Ab2 h6 (Aa9 _)))
theorem At1 (v : Int) (f : Bool) (c : List Int) (a : Int) (n1 : ByteArray) (i1 : Int) (n2 : ByteArray) (i2 : Int) (n3 : ByteArray) (i3 : Int) (n4 : ByteArray) (i4 : Int) (n5 : ByteArray) (i5 : Int) (n6 : ByteArray) (i6 : Int) :
  ∃ g, Ev (fun k => spec_l2Sig.j0 k v f c a n1 i1 n2 i2 n3 i3 n4 i4 n5 i5 n6 i6) (g, a) ∧ 1 ≤ g.length ∧ g.length ≤ 6 := by
 cases f with
 | true =>
  refine ⟨[(⟨n1, i1⟩ : S90), (⟨n2, i2⟩ : S90), (⟨n3, i3⟩ : S90), (⟨n5, i5⟩ : S90)], Ac6 ?_, by simp, by simp⟩
  simp only [spec_l2Sig.j0]
  exact Aa5 (by simp) (Aa9 _)
 | false =>
  by_cases h3 : v = 3
  ·obtain ⟨g, hg, hl⟩ := l2Sig_j1 v (v == 3) c a n1 i1 n2 i2 n3 i3 n4 i4 n5 i5 n6 i6
   refine ⟨g, Ac6 ?_, hl⟩
   simp only [spec_l2Sig.j0]
   exact Ab2 (by simp) (Aa5 h3 hg)
  ·obtain ⟨g, hg, hl⟩ := l2Sig_j1 v (v == 4) c a n1 i1 n2 i2 n3 i3 n4 i4 n5 i5 n6 i6
   refine ⟨g, Ac6 ?_, hl⟩
   simp only [spec_l2Sig.j0]
   exact Ab2 (by simp) (Ab2 h3 hg)
theorem l2Sig_ex {c : List Int} (hc : Code c) {a : Int} (ha : 0 ≤ a) (ha' : a ≤ 1000000) : ∃ g, Ev (fun k => spec_l2Sig.f k c a) (g, a + 1) ∧ 1 ≤ g.length ∧ g.length ≤ 6 := by
 obtain ⟨v, hv, _, h⟩ := Aj3 hc (a := a) (n := 8) ha (by omega) (by omega)
 unfold spec_l2Sig.f
 by_cases h0 : v = 0
 ·obtain ⟨g, hg, hl⟩ := At1 v (v == 0) c (a + 1) (⟨#[101]⟩ : ByteArray) 0 (⟨#[105]⟩ : ByteArray) 1 (⟨#[109]⟩ : ByteArray) 2 (⟨#[115, 117, 99]⟩ : ByteArray) 1 (⟨#[97]⟩ : ByteArray) 0 (⟨#[98]⟩ : ByteArray) 0
  exact ⟨g, Ab9 hv (Aa5 h0 hg), hl⟩
 by_cases h1 : v = 1
 ·obtain ⟨g, hg, hl⟩ := At1 v (v == 1) c (a + 1) (⟨#[101]⟩ : ByteArray) 0 (⟨#[105]⟩ : ByteArray) 1 (⟨#[109]⟩ : ByteArray) 2 (⟨#[115, 117, 99]⟩ : ByteArray) 1 (⟨#[97]⟩ : ByteArray) 0 (⟨#[98]⟩ : ByteArray) 0
  exact ⟨g, Ab9 hv (Ab2 h0 (Aa5 h1 hg)), hl⟩
 ·obtain ⟨g, hg, hl⟩ := At1 v (v == 2) c (a + 1) (⟨#[101]⟩ : ByteArray) 0 (⟨#[105]⟩ : ByteArray) 1 (⟨#[109]⟩ : ByteArray) 2 (⟨#[115, 117, 99]⟩ : ByteArray) 1 (⟨#[97]⟩ : ByteArray) 0 (⟨#[98]⟩ : ByteArray) 0
  exact ⟨g, Ab9 hv (Ab2 h0 (Ab2 h1 hg)), hl⟩
theorem l2Bent_l0 (c : List Int) (a : Int) (n : Nat) (hn : n ≤ 10) : ∀ (d i : Nat) (g : List S90), i + d = n → g.length = n → ∃ g', Ev (fun k => spec_l2Bent.l0 k (n : Int) (i : Int) c a g) (g', a) ∧ g'.length = n := by
 intro d
 induction d with
 | zero =>
  intro i g hi hg
  refine ⟨g, Ac6 ?_, hg⟩
  simp only [spec_l2Bent.l0]
  exact Ab2 (by omega) (Aa9 _)
 | succ d ih =>
  intro i g hi hg
  obtain ⟨g', h, hl⟩ := ih (i + 1) (g.set ((i : Int)).toNat (⟨(Aa7 g (i : Int)).f0, 1⟩ : S90)) (by omega) (by rw [List.length_set]; exact hg)
  refine ⟨g', Ac6 ?_, hl⟩
  simp only [spec_l2Bent.l0]
  refine Aa5 (by omega) (Aa5 (by omega) (Aa5 (by omega) ?_))
  rw [Ae0 (by omega)]
  exact h
theorem l2Bent_l1 (c : List Int) (a : Int) : ∀ (d : Nat) (g : List S90), g.length + d = 7 → ∃ g', Ev (fun k => spec_l2Bent.l1 k c a g) (g', a) ∧ g'.length ≤ 7 := by
 intro d
 induction d with
 | zero =>
  intro g hg
  refine ⟨g, Ac6 ?_, by omega⟩
  simp only [spec_l2Bent.l1]
  exact Ab2 (by omega) (Aa9 _)
 | succ d ih =>
  intro g hg
  obtain ⟨g', h, hl⟩ := ih (g ++ [(⟨(⟨#[122]⟩ : ByteArray), 0⟩ : S90)]) (by simp; omega)
  refine ⟨g', Ac6 ?_, hl⟩
  simp only [spec_l2Bent.l1]
  exact Aa5 (by omega) (Aa5 (by omega) h)
theorem l2Bent_ex {c : List Int} (hc : Code c) {a : Int} (ha : 0 ≤ a) (ha' : a ≤ 100000) : ∃ g b, Ev (fun k => spec_l2Bent.f k c a) (g, b) ∧ g.length ≤ 7 ∧ a ≤ b ∧ b ≤ a + 10 := by
 obtain ⟨g, hg, g1, g6⟩ := l2Sig_ex hc ha (by omega)
 obtain ⟨q, hq⟩ := Al0 hc (a := a + 1) (n := 9) (by omega) (by omega) (by omega)
 unfold spec_l2Bent.f
 cases q with
 | false => exact ⟨g, _, Ac5 hg (Ab9 hq (Ab2 (by simp) (Aa9 _))), by omega, by omega, by omega⟩
 | true =>
  obtain ⟨v, hv, _, h⟩ := Aj3 hc (a := a + 1 + 1) (n := 7) (by omega) (by omega) (by omega)
  by_cases h0 : v = 0
  ·exact ⟨[], _, Ac5 hg (Ab9 hq (Aa5 rfl (Ab9 hv (Aa5 h0 (Aa9 _))))), by simp, by omega, by omega⟩
  have hw : wrap64 ((g.length : Int) - 1) = (g.length : Int) - 1 := Ad7 (by omega) (by omega)
  by_cases h1 : v = 1
  ·refine ⟨g.set (wrap64 ((g.length : Int) - 1)).toNat (⟨(⟨#[97, 98, 99, 100]⟩ : ByteArray), (Aa7 g (wrap64 ((g.length : Int) - 1))).f1⟩ : S90), a + 1 + 1 + 1, Ac5 hg (Ab9 hq (Aa5 rfl (Ab9 hv (Ab2 h0 (Aa5 h1 ?_))))), by rw [List.length_set]; omega, by omega, by omega⟩
   simp only
   exact Aa5 (by omega) (Aa5 (by omega) (Aa9 _))
  obtain ⟨i, hi, _, hb⟩ := Aj3 hc (a := a + 1 + 1 + 1) (n := (g.length : Int)) (by omega) (by omega) (by omega)
  obtain ⟨i0, i1⟩ := hb (by omega)
  by_cases h2 : v = 2
  ·refine ⟨g.set (i : Int).toNat (⟨(⟨#[97, 66]⟩ : ByteArray), (Aa7 g i).f1⟩ : S90), a + 1 + 1 + 1 + 1, Ac5 hg (Ab9 hq (Aa5 rfl (Ab9 hv (Ab2 h0 (Ab2 h1 (Aa5 h2 (Ab9 hi ?_))))))), by rw [List.length_set]; omega, by omega, by omega⟩
   simp only
   exact Aa5 i0 (Aa5 i1 (Aa9 _))
  by_cases h3 : v = 3
  ·obtain ⟨u, hu, _⟩ := Al2 hc (a := a + 1 + 1 + 1 + 1) (by omega) (by omega) [3, (-1)] (by simp) (by simp)
   refine ⟨g.set (i : Int).toNat (⟨(Aa7 g i).f0, u⟩ : S90), a + 1 + 1 + 1 + 1 + 1, Ac5 hg (Ab9 hq (Aa5 rfl (Ab9 hv (Ab2 h0 (Ab2 h1 (Ab2 h2 (Aa5 h3 (Ab9 hi (Ab9 hu ?_))))))))), by rw [List.length_set]; omega, by omega, by omega⟩
   simp only
   exact Aa5 i0 (Aa5 i1 (Aa9 _))
  by_cases h4 : v = 4
  ·refine ⟨g ++ [(⟨(Aa7 g 0).f0, (Aa7 g 0).f1⟩ : S90)], a + 1 + 1 + 1, Ac5 hg (Ab9 hq (Aa5 rfl (Ab9 hv (Ab2 h0 (Ab2 h1 (Ab2 h2 (Ab2 h3 (Aa5 h4 ?_)))))))), by simp; omega, by omega, by omega⟩
   simp only
   exact Aa5 (by omega) (Aa5 (by omega) (Aa9 _))
  by_cases h5 : v = 5
  ·obtain ⟨g', hg', hl⟩ := l2Bent_l0 c (a + 1 + 1 + 1) g.length (by omega) g.length 0 g (by omega) rfl
   exact ⟨g', _, Ac5 hg (Ab9 hq (Aa5 rfl (Ab9 hv (Ab2 h0 (Ab2 h1 (Ab2 h2 (Ab2 h3 (Ab2 h4 (Aa5 h5 hg'))))))))), by omega, by omega, by omega⟩
  ·obtain ⟨g', hg', hl⟩ := l2Bent_l1 c (a + 1 + 1 + 1) (7 - g.length) g (by omega)
   exact ⟨g', _, Ac5 hg (Ab9 hq (Aa5 rfl (Ab9 hv (Ab2 h0 (Ab2 h1 (Ab2 h2 (Ab2 h3 (Ab2 h4 (Ab2 h5 hg'))))))))), hl, by omega, by omega⟩
end Go.Proofs.YtbdpnkpienpnaaaGreatDoor.Pure
set_option linter.unusedVariables false
namespace Go.Proofs.YtbdpnkpienpnaaaGreatDoor.Pure
open Go.RowKit Go.Proofs.YtbdpnkpienpnaaaGreatDoor.P Go.Proofs.YtbdpnkpienpnaaaGreatDoorW.PrintWords Go.Proofs.YtbdpnkpienpnaaaGreatDoorW.PrintLast Go.Proofs.YtbdpnkpienpnaaaGreatDoor.Base
theorem zero_of (l : List S90) (h : As4 l = 0) : ∃ z : Nat, z < l.length ∧ (Aa7 l (z : Int)).f1 = 0 := by
 unfold As4 at h
 by_cases h1 : l.length < 1 ∨ l.length > 6
 ·rw [if_pos h1] at h; omega
 rw [if_neg h1] at h
 rcases scanN_cases (Ai5 l) (Am1 (Ag5 l) (if Am8 l = true then 0 else 4) l.length 0) l.length 0 with ⟨h2, h3⟩ | ⟨j, _, _, h3⟩
 ·rw [h3] at h
  rcases scanN_cases (Ag5 l) (if Am8 l = true then 0 else 4) l.length 0 with ⟨h4, h5⟩ | ⟨j, _, _, h5⟩
  ·rw [h5] at h
   by_cases hz : Am8 l = true
   ·unfold Am8 at hz
    cases hf : Ag1 (fun j => (Aa7 l (j : Int)).f1 == 0) l.length 0 with
    | none => rw [hf] at hz; cases hz
    | some j =>
     obtain ⟨_, hj, hp, _⟩ := Ah6 _ _ _ hf
     exact ⟨j, by omega, by simpa using hp⟩
   ·rw [if_neg hz] at h; omega
  ·rw [h] at h5
   unfold Ag5 at h5
   by_cases hd : Ax3 l j = true
   ·rw [if_pos hd] at h5; cases h5
   ·rw [if_neg hd] at h5; cases h5
 ·rw [h] at h3
  unfold Ai5 at h3
  by_cases hn : Aq0 (Aa7 l (j : Int)).f0 = true
  ·rw [if_pos hn] at h3
   by_cases ha : 0 ≤ (Aa7 l (j : Int)).f1 ∧ (Aa7 l (j : Int)).f1 ≤ 2
   ·rw [if_pos ha] at h3; cases h3
   ·rw [if_neg ha] at h3; cases h3
  ·rw [if_neg hn] at h3; cases h3
theorem Ao2 (l : List S90) : (Ac3 [(⟨l⟩ : S26)] 0).f0 = l := rfl
theorem l3Draw_l0 {l : List S90} (hl : 1 ≤ l.length ∧ l.length ≤ 6) (m v : Int) (c : List Int) (a : Int) : ∀ (d i n e : Nat), i + d = l.length → n < l.length → e < d → (Aa7 l (((n + e) % l.length : Nat) : Int)).f1 < m →
  ∃ n' : Nat, n' < l.length ∧ (Aa7 l (n' : Int)).f1 < m ∧ ∀ r, Ev (fun k => spec_l3Draw.j2 k [(⟨l⟩ : S26)] m v (l.length : Int) (n' : Int) c a) r → Ev (fun k => spec_l3Draw.l0 k [(⟨l⟩ : S26)] m v (l.length : Int) (n : Int) (i : Int) c a) r := by
 intro d
 induction d with
 | zero => intro i n e hi hn he; omega
 | succ d ih =>
  intro i n e hi hn he hlt
  by_cases h : (Aa7 l (n : Int)).f1 ≥ m
  ·have he0 : e ≠ 0 := by
    intro e0
    subst e0
    rw [Nat.add_zero, Nat.mod_eq_of_lt hn] at hlt
    omega
   obtain ⟨n', h1, h2, h3⟩ := ih (i + 1) ((n + 1) % l.length) (e - 1) (by omega) (Nat.mod_lt _ (by omega)) (by omega) (by
    rw [Nat.mod_add_mod, show n + 1 + (e - 1) = n + e by omega]; exact hlt)
   refine ⟨n', h1, h2, fun r hr => ?_⟩
   have hq := h3 r hr
   refine Ac6 ?_
   simp only [spec_l3Draw.l0, Ao2]
   refine Aa5 (by omega) (Aa5 (by simp) (Aa5 (by omega) (Aa5 (by omega) (Aa5 h (Ab2 (by omega) ?_)))))
   rw [Ae0 (i := n) (by omega), Ae0 (i := i) (by omega), show Int.tmod ((n + 1 : Nat) : Int) (l.length : Int) = (((n + 1) % l.length : Nat) : Int) by rw [Int.tmod_eq_emod_of_nonneg (by omega)]; omega]
   exact hq
  ·refine ⟨n, hn, by omega, fun r hr => Ac6 ?_⟩
   simp only [spec_l3Draw.l0, Ao2]
   exact Aa5 (by omega) (Aa5 (by simp) (Aa5 (by omega) (Aa5 (by omega) (Ab2 h hr))))
theorem l3Draw_j2 {l : List S90} (hl : 1 ≤ l.length ∧ l.length ≤ 6) (m v : Int) (c : List Int) (a : Int) (n : Nat) (hn : n < l.length) (hlt : (Aa7 l (n : Int)).f1 < m) (r : List Int × Int)
  (hr : Ev (fun k => spec_l3Draw.j4 k [(⟨l⟩ : S26)] m v (n : Int) c a) r) : Ev (fun k => spec_l3Draw.j2 k [(⟨l⟩ : S26)] m v (l.length : Int) (n : Int) c a) r := by
 refine Ac6 ?_
 simp only [spec_l3Draw.j2]
 by_cases h : m < 2
 ·refine Aa5 h (Ac6 ?_)
  simp only [spec_l3Draw.l1, Ao2]
  exact Aa5 (by omega) (Aa5 (by simp) (Aa5 (by omega) (Aa5 (by omega) (Ab2 (by omega) hr))))
 ·exact Ab2 h hr
theorem l3Draw_ex {c : List Int} (hc : Code c) {l : List S90} (hr : Right l) (hz : ∃ z : Nat, z < l.length ∧ (Aa7 l (z : Int)).f1 = 0) (v : Int) (hv : v ≤ 1000) : ∀ (m : Nat), 1 ≤ m → m ≤ 1000 → ∀ a : Int, 0 ≤ a → a + 3 * m ≤ 1000000 →
  ∃ t b, Ev (fun k => spec_l3Draw.f k c a [(⟨l⟩ : S26)] (m : Int) v) (t, b) ∧ 1 ≤ t.length ∧ t.length ≤ m ∧ a ≤ b ∧ b ≤ a + 3 * t.length := by
 intro m
 induction m using Nat.strongRecOn with
 | _ m ih =>
  intro m1 m2 a a0 a1
  have hl := hr.len
  -- behind the choice of the first node
  have hj4 : ∀ (n : Nat) (b : Int), n < l.length → (Aa7 l (n : Int)).f1 < (m : Int) → a ≤ b → b ≤ a + 3 → ∃ t b', Ev (fun k => spec_l3Draw.j4 k [(⟨l⟩ : S26)] (m : Int) v (n : Int) c b) (t, b') ∧ 1 ≤ t.length ∧ t.length ≤ m ∧ b ≤ b' ∧ b' + 3 ≤ b + 3 * t.length := by
   intro n b hn hlt hab hb
   obtain ⟨r0, r1⟩ := hr.arities n hn
   by_cases h1 : (Aa7 l (n : Int)).f1 = 1
   ·obtain ⟨t, b', ht, l1, l2, b0, b1⟩ := ih (m - 1) (by omega) (by omega) (by omega) b (by omega) (by omega)
    refine ⟨[(n : Int)] ++ t, b', Ac6 ?_, by simp, by simp; omega, by omega, by simp; omega⟩
    simp only [spec_l3Draw.j4, Ao2, Option.bind_some]
    refine Aa5 (by simp) (Aa5 (by omega) (Aa5 (by omega) (Aa5 h1 ?_)))
    rw [Ad7 (x := (m : Int) - 1) (by omega) (by omega), show (m : Int) - 1 = ((m - 1 : Nat) : Int) by omega]
    exact Ac5 ht (Aa5 (by simp; omega) (Aa9 _))
   by_cases h2 : (Aa7 l (n : Int)).f1 = 2
   ·obtain ⟨t, b', ht, l1, l2, b0, b1⟩ := ih (m - 2) (by omega) (by omega) (by omega) b (by omega) (by omega)
    obtain ⟨u, b'', hu, k1, k2, d0, d1⟩ := ih (m - 1 - t.length) (by omega) (by omega) (by omega) b' (by omega) (by omega)
    refine ⟨([(n : Int)] ++ t) ++ u, b'', Ac6 ?_, by simp only [List.length_append, List.length_singleton]; omega, by simp only [List.length_append, List.length_singleton]; omega, by omega, by simp only [List.length_append, List.length_singleton]; omega⟩
    simp only [spec_l3Draw.j4, Ao2, Option.bind_some]
    refine Aa5 (by simp) (Aa5 (by omega) (Aa5 (by omega) (Ab2 h1 (Aa5 h2 ?_))))
    rw [Ad7 (x := (m : Int) - 2) (by omega) (by omega), show (m : Int) - 2 = ((m - 2 : Nat) : Int) by omega, Ad7 (x := (m : Int) - 1) (by omega) (by omega)]
    refine Ac5 ht (Aa5 (by simp; omega) ?_)
    simp only
    rw [Ad7 (x := (m : Int) - 1 - (t.length : Int)) (by omega) (by omega), show (m : Int) - 1 - (t.length : Int) = ((m - 1 - t.length : Nat) : Int) by omega]
    exact Ac5 hu (Aa5 (by simp; omega) (Aa9 _))
   ·refine ⟨[(n : Int)], b, Ac6 ?_, by simp, by simp; omega, by omega, by simp⟩
    simp only [spec_l3Draw.j4, Ao2, Option.bind_some]
    exact Aa5 (by simp) (Aa5 (by omega) (Aa5 (by omega) (Ab2 h1 (Ab2 h2 (Aa9 _)))))
  have hj0 : ∀ (q : Bool) (b : Int), a ≤ b → b ≤ a + 2 → ∃ t b', Ev (fun k => spec_l3Draw.j0 k [(⟨l⟩ : S26)] (m : Int) v q c b) (t, b') ∧ 1 ≤ t.length ∧ t.length ≤ m ∧ b ≤ b' ∧ b' + 2 ≤ b + 3 * t.length := by
   intro q b hab hb
   cases q with
   | true =>
    obtain ⟨x, hx, _⟩ := Aj3 hc (a := b) (n := v) (by omega) (by omega) (by omega)
    refine ⟨[wrap64 ((-1) - x)], b + 1, Ac6 ?_, by simp, by simp; omega, by omega, by simp; omega⟩
    simp only [spec_l3Draw.j0]
    exact Aa5 (by simp) (Ab9 hx (Aa9 _))
   | false =>
    obtain ⟨x, hx, _, hb2⟩ := Aj3 hc (a := b) (n := (l.length : Int)) (by omega) (by omega) (by omega)
    obtain ⟨x0, x1⟩ := hb2 (by omega)
    obtain ⟨n, rfl⟩ := Int.eq_ofNat_of_zero_le x0
    obtain ⟨z, hz1, hz2⟩ := hz
    have hmod : (n + (z + l.length - n) % l.length) % l.length = z := by
     rw [Nat.add_mod_mod, show n + (z + l.length - n) = z + l.length by omega, Nat.add_mod_right, Nat.mod_eq_of_lt hz1]
    obtain ⟨n', h1, h2, h3⟩ := l3Draw_l0 hl (m : Int) v c (b + 1) l.length 0 n ((z + l.length - n) % l.length) (by omega) (by omega) (Nat.mod_lt _ (by omega)) (by rw [hmod]; omega)
    obtain ⟨t, b', ht, l1, l2, b0, b1⟩ := hj4 n' (b + 1) h1 h2 (by omega) (by omega)
    refine ⟨t, b', Ac6 ?_, l1, l2, by omega, by omega⟩
    simp only [spec_l3Draw.j0, Ao2]
    exact Ab2 (by simp) (Aa5 (by simp) (Ab9 hx (h3 _ (l3Draw_j2 hl (m : Int) v c (b + 1) n' h1 h2 _ ht))))
  by_cases h1 : v > 0
  ·by_cases h2 : (m : Int) < 2
   ·obtain ⟨q, hq⟩ := Al0 hc (a := a) (n := 2) a0 (by omega) (by omega)
    cases q with
    | true =>
     obtain ⟨t, b', ht, l1, l2, b0, b1⟩ := hj0 true (a + 1) (by omega) (by omega)
     refine ⟨t, b', Ac6 ?_, l1, l2, by omega, by omega⟩
     simp only [spec_l3Draw.f]
     exact Aa5 h1 (Aa5 h2 (Ab9 hq (Aa5 rfl ht)))
    | false =>
     obtain ⟨q2, hq2⟩ := Al0 hc (a := a + 1) (n := 4) (by omega) (by omega) (by omega)
     obtain ⟨t, b', ht, l1, l2, b0, b1⟩ := hj0 q2 (a + 1 + 1) (by omega) (by omega)
     refine ⟨t, b', Ac6 ?_, l1, l2, by omega, by omega⟩
     simp only [spec_l3Draw.f]
     exact Aa5 h1 (Aa5 h2 (Ab9 hq (Ab2 (by simp) (Ab9 hq2 ht))))
   ·obtain ⟨q2, hq2⟩ := Al0 hc (a := a) (n := 4) (by omega) (by omega) (by omega)
    obtain ⟨t, b', ht, l1, l2, b0, b1⟩ := hj0 q2 (a + 1) (by omega) (by omega)
    refine ⟨t, b', Ac6 ?_, l1, l2, by omega, by omega⟩
    simp only [spec_l3Draw.f]
    exact Aa5 h1 (Ab2 h2 (Ab9 hq2 ht))
  ·obtain ⟨t, b', ht, l1, l2, b0, b1⟩ := hj0 false a (by omega) (by omega)
   refine ⟨t, b', Ac6 ?_, l1, l2, by omega, by omega⟩
   simp only [spec_l3Draw.f]
   exact Ab2 h1 ht
theorem l3Bent_l0 {c : List Int} (hc : Code c) : ∀ (d i : Nat) (x : List Int) (a : Int), i + d = 25 → x.length ≤ i → 0 ≤ a → a + 2 * d ≤ 1000000 → ∃ t b, Ev (fun k => spec_l3BentTerm.l0 k x (i : Int) c a) (t, b) ∧ t.length ≤ 25 ∧ a ≤ b ∧ b ≤ a + 2 * d + 1 := by
 intro d
 induction d with
 | zero =>
  intro i x a hi hx h0 h1
  obtain ⟨u, hu, hm⟩ := Al2 hc (a := a) h0 (by omega) [24, 25] (by simp) (by simp)
  refine ⟨x, a + 1, Ac6 ?_, by omega, by omega, by omega⟩
  simp only [spec_l3BentTerm.l0]
  have : u = 24 ∨ u = 25 := by simpa using hm
  exact Ab9 hu (Ab2 (by simp only; omega) (Aa9 _))
 | succ d ih =>
  intro i x a hi hx h0 h1
  obtain ⟨u, hu, hm⟩ := Al2 hc (a := a) h0 (by omega) [24, 25] (by simp) (by simp)
  by_cases h : (i : Int) < u
  ·obtain ⟨y, hy, _⟩ := Al2 hc (a := a + 1) (by omega) (by omega) [1, 2, 0] (by simp) (by simp)
   obtain ⟨t, b, ht, l1, b0, b1⟩ := ih (i + 1) (x ++ [y]) (a + 1 + 1) (by omega) (by simp; omega) (by omega) (by omega)
   refine ⟨t, b, Ac6 ?_, l1, by omega, by omega⟩
   simp only [spec_l3BentTerm.l0]
   refine Ab9 hu (Aa5 h (Ab9 hy (Aa5 (by omega) ?_)))
   rw [Ae0 (by omega)]
   exact ht
  ·refine ⟨x, a + 1, Ac6 ?_, by omega, by omega, by omega⟩
   simp only [spec_l3BentTerm.l0]
   exact Ab9 hu (Ab2 h (Aa9 _))
theorem l3Bent_ex {c : List Int} (hc : Code c) (l : List S90) (hl : l.length ≤ 7) (m : Nat) (m1 : 1 ≤ m) (m2 : m ≤ 100) (v : Int) (hv : v ≤ 1000) {a : Int} (a0 : 0 ≤ a) (a1 : a ≤ 10000) :
  ∃ t b, Ev (fun k => spec_l3BentTerm.f k c a [(⟨l⟩ : S26)] (m : Int) v) (t, b) ∧ t.length ≤ 110 ∧ a ≤ b ∧ b ≤ a + 400 := by
 have htrue : ∃ t b, Ev (fun k => spec_l3BentTerm.j0 k [(⟨l⟩ : S26)] (m : Int) v true c a) (t, b) ∧ t.length ≤ 110 ∧ a ≤ b ∧ b ≤ a + 400 := by
  refine ⟨[0], a, Ac6 ?_, by simp, by omega, by omega⟩
  simp only [spec_l3BentTerm.j0]
  exact Aa5 (by simp) (Aa9 _)
 unfold spec_l3BentTerm.f
 simp only [Ao2]
 by_cases h1 : (l.length : Int) < 1
 ·obtain ⟨t, b, ht, h⟩ := htrue
  exact ⟨t, b, Aa5 (by simp) (Aa5 h1 ht), h⟩
 have hS := SignatureFault_spec l
 by_cases hs : As4 l = 0
 ·have hr := Ao1 l hs
  have hz := zero_of l hs
  rw [hs] at hS
  obtain ⟨t, b, ht, l1, l2, b0, b1⟩ := l3Draw_ex hc hr hz v hv m m1 (by omega) a a0 (by omega)
  obtain ⟨q, hq⟩ := Al0 hc (a := b) (n := 11) (by omega) (by omega) (by omega)
  have key : ∃ t' b', Ev (fun k => spec_l3BentTerm.j0 k [(⟨l⟩ : S26)] (m : Int) v false c a) (t', b') ∧ t'.length ≤ 110 ∧ a ≤ b' ∧ b' ≤ a + 400 := by
   cases q with
   | false =>
    refine ⟨t, b + 1, Ac6 ?_, by omega, by omega, by omega⟩
    simp only [spec_l3BentTerm.j0]
    exact Ab2 (by simp) (Ac5 ht (Ab9 hq (Ab2 (by simp) (Aa9 _))))
   | true =>
    obtain ⟨x, hx, _, hb⟩ := Aj3 hc (a := b + 1) (n := 4) (by omega) (by omega) (by omega)
    obtain ⟨x0, x1⟩ := hb (by omega)
    have hw : wrap64 ((t.length : Int) - 1) = (t.length : Int) - 1 := Ad7 (by omega) (by omega)
    by_cases e0 : x = 0
    ·refine ⟨t.take ((t.length : Int) - 1).toNat, b + 1 + 1, Ac6 ?_, by rw [List.length_take]; omega, by omega, by omega⟩
     simp only [spec_l3BentTerm.j0]
     refine Ab2 (by simp) (Ac5 ht (Ab9 hq (Aa5 rfl (Ab9 hx (Aa5 e0 ?_)))))
     simp only [hw]
     exact Aa5 (by omega) (Aa5 (by omega) (Aa9 _))
    by_cases e1 : x = 1
    ·refine ⟨t ++ [0], b + 1 + 1, Ac6 ?_, by simp; omega, by omega, by omega⟩
     simp only [spec_l3BentTerm.j0]
     exact Ab2 (by simp) (Ac5 ht (Ab9 hq (Aa5 rfl (Ab9 hx (Ab2 e0 (Aa5 e1 (Aa5 (by simp only; omega) (Aa9 _))))))))
    by_cases e2 : x = 2
    ·obtain ⟨i, hi, _, hbi⟩ := Aj3 hc (a := b + 1 + 1) (n := (t.length : Int)) (by omega) (by omega) (by omega)
     obtain ⟨i0, i1⟩ := hbi (by omega)
     obtain ⟨y, hy, _⟩ := Al2 hc (a := b + 1 + 1 + 1) (by omega) (by omega) [(l.length : Int), (-13), (-12)] (by simp) (by simp)
     refine ⟨t.set i.toNat y, b + 1 + 1 + 1 + 1, Ac6 ?_, by rw [List.length_set]; omega, by omega, by omega⟩
     simp only [spec_l3BentTerm.j0, Ao2]
     exact Ab2 (by simp) (Ac5 ht (Ab9 hq (Aa5 rfl (Ab9 hx (Ab2 e0 (Ab2 e1 (Aa5 e2 (Ab9 hi (Aa5 (by simp) (Ab9 hy (Aa5 i0 (Aa5 i1 (Aa9 _)))))))))))))
    ·obtain ⟨u, b', hu, u1, b2, b3⟩ := l3Bent_l0 hc 25 0 [] (b + 1 + 1) (by omega) (by simp) (by omega) (by omega)
     refine ⟨u, b', Ac6 ?_, by omega, by omega, by omega⟩
     simp only [spec_l3BentTerm.j0]
     exact Ab2 (by simp) (Ac5 ht (Ab9 hq (Aa5 rfl (Ab9 hx (Ab2 e0 (Ab2 e1 (Ab2 e2 hu)))))))
  obtain ⟨t', b', ht', h⟩ := key
  exact ⟨t', b', Aa5 (by simp) (Ab2 h1 (Ac5 hS ht')), h⟩
 ·obtain ⟨t, b, ht, h⟩ := htrue
  refine ⟨t, b, Aa5 (by simp) (Ab2 h1 (Ac5 hS ?_)), h⟩
  have : (As4 l != 0) = true := by simpa using hs
  rw [this]
  exact ht
end Go.Proofs.YtbdpnkpienpnaaaGreatDoor.Pure
set_option linter.unusedVariables false
namespace Go.Proofs.YtbdpnkpienpnaaaGreatDoor.Pure
open Go.RowKit Go.Proofs.YtbdpnkpienpnaaaGreatDoor.P Go.Proofs.YtbdpnkpienpnaaaGreatDoorW.PrintWords Go.Proofs.YtbdpnkpienpnaaaGreatDoorW.PrintLast Go.Proofs.YtbdpnkpienpnaaaGreatDoor.Base
theorem DrawPlain_ex {c : List Int} (hc : Code c) : ∃ g a b, Ev (fun k => spec_DrawPlainEquation.f k c) (g, a, b) ∧ a.length ≤ 110 ∧ b.length ≤ 110 := by
 unfold spec_DrawPlainEquation.f spec_l1Source.f
 obtain ⟨g, b, hg, gl, b0, b1⟩ := l2Bent_ex hc (a := 0) (by omega) (by omega)
 obtain ⟨m, hm, hmm⟩ := Al2 hc (a := b) (by omega) (by omega) [5, 9, 24] (by simp) (by simp)
 have hm' : m = 5 ∨ m = 9 ∨ m = 24 := by simpa using hmm
 obtain ⟨m, rfl⟩ := Int.eq_ofNat_of_zero_le (show 0 ≤ m by omega)
 obtain ⟨u, d, hu, ul, d0, d1⟩ := l3Bent_ex hc g gl m (by omega) (by omega) 12 (by omega) (a := b + 1) (by omega) (by omega)
 obtain ⟨n, hn, hnn⟩ := Al2 hc (a := d) (by omega) (by omega) [5, 20] (by simp) (by simp)
 have hn' : n = 5 ∨ n = 20 := by simpa using hnn
 obtain ⟨n, rfl⟩ := Int.eq_ofNat_of_zero_le (show 0 ≤ n by omega)
 obtain ⟨v, e, hv, vl, e0, e1⟩ := l3Bent_ex hc g gl n (by omega) (by omega) 12 (by omega) (a := d + 1) (by omega) (by omega)
 exact ⟨g, u, v, Ab9 rfl (Ac5 hg (Ab9 hm (Ac5 hu (Ab9 hn (Ac5 hv (Aa9 _)))))), ul, vl⟩
end Go.Proofs.YtbdpnkpienpnaaaGreatDoor.Pure
set_option linter.unusedVariables false
namespace Go.Proofs.YtbdpnkpienpnaaaGreatDoor.Pure
open Go.RowKit Go.Proofs.YtbdpnkpienpnaaaGreatDoor.P Go.Proofs.YtbdpnkpienpnaaaGreatDoorW.PrintWords Go.Proofs.YtbdpnkpienpnaaaGreatDoorW.PrintLast Go.Proofs.YtbdpnkpienpnaaaGreatDoor.Base
theorem lwAt_six {c : List Int} (hc : Code c) : ∃ d, laws_lwAt.f c 1 6 = some d ∧ 0 ≤ d ∧ d ≤ 5 := by
 unfold laws_lwAt.f
 rw [if_neg (by omega)]
 have hl := hc.len
 by_cases h0 : (c.length : Int) = 0
 ·rw [if_pos h0, if_neg (by omega)]
  exact ⟨_, rfl, by rw [Ad7 (by omega) (by omega)]; decide, by rw [Ad7 (by omega) (by omega)]; decide⟩
 ·rw [if_neg h0]
  obtain ⟨m0, m1⟩ := An6 (x := 1) (n := (c.length : Int)) (by omega) (by omega)
  rw [if_pos m0, if_pos m1, if_neg (by omega), if_neg (by omega)]
  have hb := Av4 hc.bytes _ m0 m1
  have hq : 0 ≤ Int.tdiv 1 (c.length : Int) ∧ Int.tdiv 1 (c.length : Int) ≤ 1 := by
   rw [Int.tdiv_eq_ediv_of_nonneg (by omega)]
   exact ⟨Int.ediv_nonneg (by omega) (by omega), Int.ediv_le_self _ (by omega)⟩
  unfold Ay0 at hb
  generalize rd c (Int.tmod 1 (c.length : Int)) = b at *
  generalize Int.tdiv 1 (c.length : Int) = q at *
  rw [Ad7 (x := b) (by omega) (by omega), Ad7 (x := q) (by omega) (by omega), Ad7 (x := q * 3) (by omega) (by omega), Ad7 (by omega) (by omega)]
  obtain ⟨t0, t1⟩ := An6 (x := b + q * 3) (n := 6) (by omega) (by omega)
  exact ⟨_, rfl, t0, by omega⟩
theorem FnPlain (c : List Int) (hc0 : c.length ≤ maxLen ∧ ∀ x ∈ c, (Lit.int .u8 x).wf = true) : ∃ k, laws_FnPlain.f k c = some true := by
 obtain ⟨hm, hw⟩ := hc0
 refine ev_ex (g := fun k => laws_FnPlain.f k c) ?_
 unfold laws_FnPlain.f laws_lwBig.f
 by_cases hbig : (c.length : Int) > 1048576
 ·exact Ab9 rfl (Aa5 (by simpa using hbig) (Aa9 _))
 have hc : Code c := ⟨fun x hx => wf_u8 (hw x hx), by omega⟩
 refine Ab9 rfl (Ab2 (by simpa using hbig) ?_)
 obtain ⟨l, a, b, hD, al, bl⟩ := DrawPlain_ex hc
 obtain ⟨d, hd, d0, d1⟩ := lwAt_six hc
 have hI := Aj0 l a b (by omega) (by omega)
 have hS := PlainEquation_spec l a b (by omega) (by omega)
 refine Ac5 hD (Ac5 hI (Ac5 hS (Aa5 rfl ?_)))
 by_cases hcode : (Aw1 l a b).1 = 0
 ·have h1 : Ag8 l a = 0 := by
   unfold Aw1 at hcode
   by_cases h : Ag8 l a = 0
   ·exact h
   ·rw [if_neg h] at hcode; exact absurd hcode h
  have h2 : Ag8 l b = 0 := by
   unfold Aw1 at hcode
   rw [if_pos h1] at hcode
   by_cases h : Ag8 l b = 0
   ·exact h
   ·rw [if_neg h] at hcode; exact absurd hcode h
  have h6 : ((Ab4 (Ab4 [] a).2 b).2.length : Int) ≤ 6 := by
   unfold Aw1 at hcode
   rw [if_pos h1, if_pos h2] at hcode
   by_cases h : ((Ab4 (Ab4 [] a).2 b).2.length : Int) ≤ 6
   ·exact h
   ·rw [if_neg h] at hcode; cases hcode
  have e0 : Aw1 l a b = (0, (Ab4 [] a).1, (Ab4 (Ab4 [] a).2 b).1) := by unfold Aw1; rw [if_pos h1, if_pos h2, if_pos h6]
  have e1 := pln_again h1 h2 h6
  have e2 := pln_shift h1 h2 h6 d0 d1
  have e3 := pln_fault h1 h2 h6
  obtain ⟨r1, r2, r3, r4⟩ := As3 h1 h2 h6
  have s1 := shiftR_plain r1 r3 d0 d1
  have s2 := shiftR_plain r2 r4 d0 d1
  have t1 := Ag9 a []
  rw [e0]
  rw [e0] at hS
  generalize (Ab4 (Ab4 [] a).2 b).1 = B at *
  generalize (Ab4 [] a).1 = A at *
  have lA := (Ah4 r1).2.1
  have lB := (Ah4 r2).2.1
  have g1 := Aj0 l A B (by omega) (by omega)
  have g2 := ShiftTerm_impl l A (by omega) d
  have g3 := ShiftTerm_impl l B (by omega) d
  have g4 := Aj0 l (A.map (Ae5 d)) (B.map (Ae5 d)) (by rw [List.length_map]; omega) (by rw [List.length_map]; omega)
  have g5 := EquationFault_impl l A B (by omega) (by omega)
  rw [e1] at g1
  rw [s1] at g2
  rw [s2] at g3
  rw [e2] at g4
  rw [e3] at g5
  have hf : Aw5 [(⟨A, B⟩ : S29)] := ⟨by simp, fun x hx => by rw [List.mem_singleton] at hx; subst hx; exact ⟨by show A.length ≤ _; omega, by show B.length ≤ _; omega⟩⟩
  have k1 := SameE_impl [(⟨A, B⟩ : S29)] [(⟨A, B⟩ : S29)] hf
  have k2 := SameE_spec [(⟨A, B⟩ : S29)] [(⟨A, B⟩ : S29)] hf
  rw [sameE_one] at k1 k2
  refine Aa5 rfl (Ac5 g1 (Ab9 hd (Ac5 g2 (Ac5 g3 (Ac5 g4 (Aa5 rfl (Aa5 rfl (Aa5 rfl (Aa5 rfl (Ac5 g5 (Ac6 ?_)))))))))))
  simp only [laws_FnPlain.j0]
  exact Ab2 (by simp) (Ab9 rfl (Ac5 k1 (Aa5 rfl (Ac5 k1 (Aa5 rfl (Aa5 (by omega) (Ac5 hS (Ac5 k2 (Aa9 _)))))))))
 ·exact Ab2 hcode (Aa9 _)
end Go.Proofs.YtbdpnkpienpnaaaGreatDoor.Pure
