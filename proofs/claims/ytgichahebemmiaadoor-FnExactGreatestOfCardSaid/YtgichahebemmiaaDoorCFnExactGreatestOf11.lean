/- A part of the proof of the law FnExactGreatestOf. -/
import Derived.Laws.StructEq
import Derived.Test.YtgichahebemmiaaDoorCFnExactGreatestOf0
import Derived.Test.YtgichahebemmiaaDoorCFnExactGreatestOf1
import Derived.Test.YtgichahebemmiaaDoorCFnExactGreatestOf2
import Derived.Test.YtgichahebemmiaaDoorCFnExactGreatestOf3
import Derived.Test.YtgichahebemmiaaDoorCFnExactGreatestOf4
import Derived.Test.YtgichahebemmiaaDoorCFnExactGreatestOf5
import Derived.Test.YtgichahebemmiaaDoorCFnExactGreatestOf6
import Derived.Test.YtgichahebemmiaaDoorCFnExactGreatestOf7
import Derived.Test.YtgichahebemmiaaDoorCFnExactGreatestOf8
import Derived.Test.YtgichahebemmiaaDoorCFnExactGreatestOf9
import Derived.Test.YtgichahebemmiaaDoorCFnExactGreatestOf10
set_option linter.unusedVariables false
namespace Go.Proofs.YtgichahebemmiaaDoor.Pure
open Go.RowKit Go.Proofs.YtgichahebemmiaaDoor.P Go.Proofs.YtgichahebemmiaaDoorW.PrintWords Go.Proofs.YtgichahebemmiaaDoorW.PrintLast Go.Proofs.YtgichahebemmiaaDoor.Base
def toI (x : S61) : S65 := ⟨x.f0, x.f1⟩
theorem At3 (xs : List S61) (i : Nat) (h : i < xs.length) : Ah4 xs (i : Int) = xs[i] := by
 simp [Ah4, List.getD_eq_getElem?_getD, List.getElem?_eq_getElem h]
def Av6 (l : List S61) : Prop := l.length ≤ maxLen ∧ ∀ x ∈ l, x.f0.size ≤ maxLen ∧ (Lit.int .i64 x.f1).wf = true
theorem szSymbolS_l0 (l : List S61) (hl : Av6 l) : ∀ (d i : Nat) (a : Int), i + d = l.length → 0 ≤ a → a ≤ 1048576 →
  ∃ r, Ev (fun k => laws_szSymbolS.l0 k l a (i : Int)) r ∧ (0 ≤ r → r ≤ a) := by
 intro d
 induction d with
 | zero =>
  intro i a hi h0 h1
  refine ⟨a, Ac1 ?_, fun _ => Int.le_refl _⟩
  simp only [laws_szSymbolS.l0]
  exact Ab7 (by omega) (Ab3 _)
 | succ d ih =>
  intro i a hi h0 h1
  have hi' : i < l.length := by omega
  have hx := (hl.2 _ (List.getElem_mem hi')).1
  unfold maxLen at hx
  have hm := hl.1
  unfold maxLen at hm
  have hw : wrap64 (a - ((l[i]).f0.size : Int)) = a - ((l[i]).f0.size : Int) := Ag9 (by omega) (by omega)
  by_cases hn : a - ((l[i]).f0.size : Int) < 0
  ·refine ⟨-1, Ac1 ?_, fun h => by omega⟩
   simp only [laws_szSymbolS.l0]
   refine Aa6 (by omega) (Aa6 (by omega) ?_)
   rw [At3 l i hi']
   refine Ae0 (a := -1) ?_ (Aa6 (by omega) (Ab3 _))
   unfold laws_szSymbol.f
   rw [hw, if_pos hn]
  ·obtain ⟨r, hr, hle⟩ := ih (i + 1) (a - ((l[i]).f0.size : Int)) (by omega) (by omega) (by omega)
   refine ⟨r, Ac1 ?_, fun h => by have := hle h; omega⟩
   simp only [laws_szSymbolS.l0]
   refine Aa6 (by omega) (Aa6 (by omega) ?_)
   rw [At3 l i hi', Ac7 (by omega)]
   refine Ae0 (a := a - ((l[i]).f0.size : Int)) ?_ (Ab7 hn hr)
   unfold laws_szSymbol.f
   rw [hw, if_neg hn]
theorem szSignature_ev (l : List S61) (hl : Av6 l) (a : Int) (h0 : 0 ≤ a) (h1 : a ≤ 1048576) :
  ∃ r, Ev (fun k => laws_szSignature.f k l a) r ∧ (¬ r < 0 → (l.length : Int) ≤ a ∧ r ≤ a) := by
 have hm := hl.1
 unfold maxLen at hm
 have hw : wrap64 (a - (l.length : Int)) = a - (l.length : Int) := Ag9 (by omega) (by omega)
 by_cases hn : a - (l.length : Int) < 0
 ·refine ⟨-1, ?_, fun h => by omega⟩
  unfold laws_szSignature.f
  refine Ab9 (a := -1) ?_ (Aa6 (by omega) (Ab3 _))
  unfold laws_szSymbolS.f
  rw [hw]
  exact Aa6 hn (Ab3 _)
 ·obtain ⟨r, hr, hle⟩ := szSymbolS_l0 l hl l.length 0 (a - (l.length : Int)) (by omega) (by omega) (by omega)
  have hs : Ev (fun k => laws_szSymbolS.f k l a) r := by
   unfold laws_szSymbolS.f
   rw [hw]
   exact Ab7 hn hr
  by_cases hr0 : r < 0
  ·refine ⟨-1, ?_, fun h => by omega⟩
   unfold laws_szSignature.f
   exact Ab9 hs (Aa6 hr0 (Ab3 _))
  ·refine ⟨r, ?_, fun h => ?_⟩
   ·unfold laws_szSignature.f
    exact Ab9 hs (Ab7 hr0 (Ab3 _))
   ·have := hle (by omega)
    omega
theorem toSymbolS_l0 (l : List S61) (hl : l.length ≤ 1048576) : ∀ (d i : Nat), i + d = l.length → Ev (fun k => laws_toSymbolS.l0 k l (Ao4 z65 (l.map toI) i) (i : Int)) (l.map toI) := by
 intro d
 induction d with
 | zero =>
  intro i hi
  refine Ac1 ?_
  simp only [laws_toSymbolS.l0]
  refine Ab7 (by omega) ?_
  have e : i = (l.map toI).length := by rw [List.length_map]; omega
  rw [e, Ap2]
  exact Ab3 _
 | succ d ih =>
  intro i hi
  have hi' : i < l.length := by omega
  refine Ac1 ?_
  simp only [laws_toSymbolS.l0]
  refine Aa6 (by omega) (Aa6 (by omega) ?_)
  unfold laws_toSymbol.f
  refine Ae0 rfl (Aa6 (by rw [Ak7 _ _ _ (by rw [List.length_map]; omega), List.length_map]; omega) ?_)
  rw [At3 l i hi', Ac7 (by omega), Int.toNat_natCast, Aq1 z65 (l.map toI) i (by rw [List.length_map]; omega) (⟨(l[i]).f0, (l[i]).f1⟩ : S65) (by rw [List.getElem?_map, List.getElem?_eq_getElem hi']; rfl)]
  exact ih (i + 1) (by omega)
theorem toSignature_ev (l : List S61) (hl : l.length ≤ 1048576) : Ev (fun k => laws_toSignature.f k l) (l.map toI) := by
 unfold laws_toSignature.f
 refine Ab9 (a := l.map toI) ?_ (Ab3 _)
 unfold laws_toSymbolS.f
 refine Aa6 (by omega) (Aa6 (by omega) ?_)
 have := toSymbolS_l0 l hl l.length 0 (by omega)
 rw [An7, List.length_map] at this
 rw [Int.toNat_natCast]
 exact this
theorem eqSymbolS_l0 (a : List S65) (hl : a.length ≤ 9223372036854775807) : ∀ (d i : Nat), i + d = a.length → Ev (fun k => laws_eqSymbolS.l0 k a a (i : Int)) true := by
 intro d
 induction d with
 | zero =>
  intro i hi
  refine Ac1 ?_
  simp only [laws_eqSymbolS.l0]
  exact Ab7 (by omega) (Ab3 _)
 | succ d ih =>
  intro i hi
  refine Ac1 ?_
  simp only [laws_eqSymbolS.l0]
  refine Aa6 (by omega) (Aa6 (by omega) (Aa6 (by omega) (Ae0 (a := true) ?_ (Aa6 rfl ?_))))
  ·unfold laws_eqSymbol.f
   rw [if_pos rfl, if_pos rfl]
  ·rw [Ac7 (by omega)]
   exact ih (i + 1) (by omega)
theorem eqSignature_ev (a : List S65) (hl : a.length ≤ 9223372036854775807) : Ev (fun k => laws_eqSignature.f k a a) true := by
 unfold laws_eqSignature.f
 refine Ab9 (a := true) ?_ (Aa6 rfl (Ab3 _))
 unfold laws_eqSymbolS.f
 exact Aa6 rfl (eqSymbolS_l0 a hl a.length 0 (by omega))
end Go.Proofs.YtgichahebemmiaaDoor.Pure
set_option linter.unusedVariables false
namespace Go.Proofs.YtgichahebemmiaaDoor.Pure
open Go.RowKit Go.Proofs.YtgichahebemmiaaDoor.P Go.Proofs.YtgichahebemmiaaDoorW.PrintWords Go.Proofs.YtgichahebemmiaaDoorW.PrintLast Go.Proofs.YtgichahebemmiaaDoor.Base
theorem bt_get (s : ByteArray) (i : Nat) (h : i < s.data.toList.length) : bt s (i : Int) = ((s.data.toList[i]).toNat : Int) := by
 have hs : i < s.size := by rw [Lib.size_eq]; exact h
 unfold bt
 rw [dif_pos (by simpa using hs)]
 rfl
theorem l2Name_l0 (s : ByteArray) (hl : s.size ≤ 3) : ∀ (d i : Nat), i + d = s.size → Ev (fun k => spec_l2Name.l0 k s (i : Int)) ((s.data.toList.drop i).all Ah8) := by
 have hz := Lib.size_eq s
 intro d
 induction d with
 | zero =>
  intro i hi
  refine Ac1 ?_
  simp only [spec_l2Name.l0]
  refine Ab7 (by omega) (Ad3 (Ab3 _) ?_)
  rw [List.drop_eq_nil_of_le (by omega)]; rfl
 | succ d ih =>
  intro i hi
  have hi' : i < s.data.toList.length := by omega
  refine Ac1 ?_
  simp only [spec_l2Name.l0]
  refine Aa6 (by omega) (Aa6 (by omega) ?_)
  rw [bt_get s i hi', List.drop_eq_getElem_cons hi', Ac7 (by omega)]
  generalize s.data.toList[i] = b
  by_cases h1 : (b.toNat : Int) < 97
  ·refine Aa6 h1 (Ad3 (Ab3 _) ?_)
   have : Ah8 b = false := by unfold Ah8; simp; omega
   simp [this]
  refine Ab7 h1 ?_
  by_cases h2 : (b.toNat : Int) > 122
  ·refine Aa6 h2 (Ad3 (Ab3 _) ?_)
   have : Ah8 b = false := by unfold Ah8; simp; omega
   simp [this]
  refine Ab7 h2 (Ad3 (ih (i + 1) (by omega)) ?_)
  have : Ah8 b = true := by unfold Ah8; simp; omega
  simp [this]
theorem l2Name_ev (s : ByteArray) : Ev (fun k => spec_l2Name.f k s) (Ao9 s) := by
 unfold spec_l2Name.f Ao9
 by_cases h1 : (s.size : Int) < 1
 ·refine Aa6 h1 (Ac1 ?_)
  simp only [spec_l2Name.j0]
  exact Aa6 (by simp) (Ad3 (Ab3 _) (by simp; omega))
 refine Ab7 h1 (Ac1 ?_)
 simp only [spec_l2Name.j0]
 by_cases h2 : (s.size : Int) > 3
 ·exact Aa6 (by simpa using h2) (Ad3 (Ab3 _) (by simp; omega))
 refine Ab7 (by simpa using h2) (Ad3 (l2Name_l0 s (by omega) s.size 0 (by omega)) ?_)
 have : decide (1 ≤ s.size ∧ s.size ≤ 3) = true := by simp; omega
 rw [this]; rfl
theorem isName_eq (s : ByteArray) : impl_isName.f s = some (Ao9 s) := by
 unfold impl_isName.f Ao9
 by_cases h1 : (s.size : Int) ≥ 1
 ·rw [if_pos h1]
  by_cases h2 : (s.size : Int) ≤ 3
  ·rw [if_pos h2]
   have ht : strings_Trim.f s abc = some ⟨(Lib.trimS s.data.toList abc.data.toList).toArray⟩ := by
    unfold strings_Trim.f
    exact if_pos ⟨by omega, by decide, by decide +kernel⟩
   refine At1 ht ?_
   have : decide (1 ≤ s.size ∧ s.size ≤ 3) = true := by simp; omega
   rw [this, Lib.toList_data]
   simp only [Bool.true_and]
   rw [← trim_abc]
  ·rw [if_neg h2]
   have : decide (1 ≤ s.size ∧ s.size ≤ 3) = false := by simp; omega
   rw [this]; rfl
 ·rw [if_neg h1]
  have : decide (1 ≤ s.size ∧ s.size ≤ 3) = false := by simp; omega
  rw [this]; rfl
def Ag3 (l : List S65) (i : Nat) : List UInt8 := (Ab4 l (i : Int)).f0.toList
def Ai0 (l : List S65) (i : Nat) : Option Int :=
 if Ao9 (Ab4 l (i : Int)).f0 = true then (if 0 ≤ (Ab4 l (i : Int)).f1 ∧ (Ab4 l (i : Int)).f1 ≤ 2 then none else some 3) else some 5
def Av5 (l : List S65) (i : Nat) : Bool := (Ad4 (fun j => Ag3 l i == Ag3 l j) i 0).isSome
def Ag8 (l : List S65) (i : Nat) : Option Int := if Av5 l i = true then some 6 else none
def An6 (l : List S65) : Bool := (Ad4 (fun j => (Ab4 l (j : Int)).f1 == 0) l.length 0).isSome
def At2 (l : List S65) : Int :=
 if l.length < 1 ∨ l.length > 6 then 2 else Ai9 (Ai0 l) (Ai9 (Ag8 l) (if An6 l = true then 0 else 4) l.length 0) l.length 0
theorem Aq0 (a b c : Int) : impl_within.f a b c = some (decide (b ≤ a ∧ a ≤ c)) := by
 unfold impl_within.f
 by_cases h : a ≥ b
 ·rw [if_pos h]
  by_cases h' : a ≤ c
  ·simp [h']; omega
  ·simp [h']
 ·rw [if_neg h]
  simp; omega
theorem At6 (a b c : Int) : spec_l1In.f a b c = some (decide (b ≤ a ∧ a ≤ c)) := by
 unfold spec_l1In.f
 by_cases h : a ≥ b
 ·rw [if_pos h]
  by_cases h' : a ≤ c
  ·simp [h']; omega
  ·simp [h']
 ·rw [if_neg h]
  simp; omega
theorem Sig_l3 (l : List S65) (hl : l.length ≤ 6) : Ev (fun k => spec_SignatureFault.l3 k (l.length : Int) 0 l) (if An6 l = true then 0 else 4) := by
 have h := Ad5 l.length (fun j => if ((Ab4 l (j : Int)).f1 == 0) = true then some 0 else none) 4 (fun k i => spec_SignatureFault.l3 k (l.length : Int) i l)
  (by simp only [spec_SignatureFault.l3]; exact Ab7 (by omega) (Ab3 _))
  (fun i hi r hr => by
   simp only [spec_SignatureFault.l3]
   refine Aa6 (by omega) (Aa6 (by omega) (Aa6 (by omega) ?_))
   rw [Ac7 (by omega)]
   by_cases h : (Ab4 l (i : Int)).f1 = 0
   ·refine Aa6 h (Ad3 (Ab3 _) (by simp [h]))
   ·refine Ab7 h (Ad3 hr (by simp [h])))
  l.length 0 (by omega)
 refine Ad3 h ?_
 rw [Af5 (fun j => (Ab4 l (j : Int)).f1 == 0) (fun _ => (0 : Int)) 4]
 unfold An6
 cases Ad4 (fun j => (Ab4 l (j : Int)).f1 == 0) l.length 0 <;> rfl
theorem Sig_l2 (l : List S65) (hl : l.length ≤ 6) (i : Nat) (hi : i < l.length) (r : Int) (hr : Ev (fun k => spec_SignatureFault.l1 k (l.length : Int) ((i + 1 : Nat) : Int) l) r) :
  Ev (fun k => spec_SignatureFault.l2 k (l.length : Int) (i : Int) 0 l) ((Ag8 l i).getD r) := by
 have h := Ad5 i (fun j => if (Ag3 l i == Ag3 l j) = true then some 6 else none) r (fun k j => spec_SignatureFault.l2 k (l.length : Int) (i : Int) j l)
  (by simp only [spec_SignatureFault.l2]; refine Ab7 (by omega) ?_; rw [Ac7 (by omega)]; exact hr)
  (fun j hj r hr => by
   simp only [spec_SignatureFault.l2]
   refine Aa6 (by omega) (Aa6 (by omega) (Aa6 (by omega) (Aa6 (by omega) (Aa6 (by omega) ?_))))
   rw [Ac7 (by omega)]
   by_cases h : Ag3 l i = Ag3 l j
   ·refine Aa6 h (Ad3 (Ab3 _) (by simp [h]))
   ·refine Ab7 h (Ad3 hr (by simp [h])))
  i 0 (by omega)
 refine Ad3 h ?_
 rw [Af5 (fun j => Ag3 l i == Ag3 l j) (fun _ => (6 : Int)) r]
 unfold Ag8 Av5
 cases Ad4 (fun j => Ag3 l i == Ag3 l j) i 0 <;> rfl
theorem Sig_l1 (l : List S65) (hl : l.length ≤ 6) : Ev (fun k => spec_SignatureFault.l1 k (l.length : Int) 0 l) (Ai9 (Ag8 l) (if An6 l = true then 0 else 4) l.length 0) :=
 Ad5 l.length (Ag8 l) (if An6 l = true then 0 else 4) (fun k i => spec_SignatureFault.l1 k (l.length : Int) i l)
  (by simp only [spec_SignatureFault.l1]; exact Ab7 (by omega) (Sig_l3 l hl))
  (fun i hi r hr => by
   simp only [spec_SignatureFault.l1]
   exact Aa6 (by omega) (Sig_l2 l hl i hi r hr))
  l.length 0 (by omega)
theorem Sig_l0 (l : List S65) (hl : l.length ≤ 6) : Ev (fun k => spec_SignatureFault.l0 k (l.length : Int) 0 l) (Ai9 (Ai0 l) (Ai9 (Ag8 l) (if An6 l = true then 0 else 4) l.length 0) l.length 0) :=
 Ad5 l.length (Ai0 l) _ (fun k i => spec_SignatureFault.l0 k (l.length : Int) i l)
  (by simp only [spec_SignatureFault.l0]; exact Ab7 (by omega) (Sig_l1 l hl))
  (fun i hi r hr => by
   simp only [spec_SignatureFault.l0]
   refine Aa6 (by omega) (Aa6 (by omega) (Aa6 (by omega) (Ab9 (l2Name_ev _) ?_)))
   unfold Ai0
   by_cases h : Ao9 (Ab4 l (i : Int)).f0 = true
   ·refine Aa6 h (Ae0 (At6 _ _ _) ?_)
    rw [if_pos h, Ac7 (by omega)]
    by_cases h' : 0 ≤ (Ab4 l (i : Int)).f1 ∧ (Ab4 l (i : Int)).f1 ≤ 2
    ·rw [if_pos h']
     exact Aa6 (by simpa using h') hr
    ·rw [if_neg h']
     exact Ab7 (by simpa using h') (Ab3 _)
   ·rw [if_neg h]
    exact Ab7 h (Ab3 _))
  l.length 0 (by omega)
theorem SignatureFault_spec (l : List S65) : Ev (fun k => spec_SignatureFault.f k l) (At2 l) := by
 unfold spec_SignatureFault.f At2
 by_cases h1 : (l.length : Int) < 1
 ·rw [if_pos (.inl (by omega))]
  refine Aa6 h1 (Ac1 ?_)
  simp only [spec_SignatureFault.j0]
  exact Aa6 (by simp) (Ab3 _)
 refine Ab7 h1 (Ac1 ?_)
 simp only [spec_SignatureFault.j0]
 by_cases h2 : (l.length : Int) > 6
 ·rw [if_pos (.inr (by omega))]
  exact Aa6 (by simpa using h2) (Ab3 _)
 ·rw [if_neg (by omega)]
  exact Ab7 (by simpa using h2) (Sig_l0 l (by omega))
theorem symbolIndex_ev (l : List S65) (hl : l.length ≤ 1048576) (s : ByteArray) : Ev (fun k => impl_symbolIndex.f k l s) (Ai5 (fun j => Ag3 l j == s.toList) l.length) := by
 unfold impl_symbolIndex.f
 refine Ab9 (a := Ai5 (fun j => Ag3 l j == s.toList) l.length) ?_ (Ab3 _)
 unfold slices_IndexFunc_impl_Symbol_impl_Symbol_impl_symbolIndex_1.f
 have h := Ad5 l.length (fun j => if (Ag3 l j == s.toList) = true then some (j : Int) else none) (-1) (fun k i => slices_IndexFunc_impl_Symbol_impl_Symbol_impl_symbolIndex_1.l0 k l (l.length : Int) i [s])
  (by simp only [slices_IndexFunc_impl_Symbol_impl_Symbol_impl_symbolIndex_1.l0]; exact Ab7 (by omega) (Ab3 _))
  (fun i hi r hr => by
   simp only [slices_IndexFunc_impl_Symbol_impl_Symbol_impl_symbolIndex_1.l0]
   refine Aa6 (by omega) (Aa6 (by omega) (Aa6 (by omega) (Ae0 (a := Ag3 l i == s.toList) ?_ ?_)))
   ·unfold impl_symbolIndex_1_with.f
    rw [if_pos (by simp)]
    rfl
   ·rw [Ac7 (by omega)]
    by_cases h : (Ag3 l i == s.toList) = true
    ·rw [if_pos h]; exact Aa6 h (Ab3 _)
    ·rw [if_neg h]; exact Ab7 h hr)
  l.length 0 (by omega)
 rw [Am3 (fun j => Ag3 l j == s.toList)] at h
 exact h
theorem dup_place (l : List S65) (i : Nat) (hi : i < l.length) : Ai5 (fun j => Ag3 l j == (Ab4 l (i : Int)).f0.toList) l.length = (i : Int) ↔ Av5 l i = false := by
 unfold Av5
 have hn : (Ad4 (fun j => Ag3 l i == Ag3 l j) i 0).isSome = false ↔ ∀ j, j < i → (Ag3 l i == Ag3 l j) = false := by
  rw [Option.isSome_eq_false_iff, Option.isNone_iff_eq_none, Ah9]
  exact ⟨fun h j hj => h j (by omega) (by omega), fun h j _ hj => h j (by omega)⟩
 rw [hn]
 rcases placeN_cases (fun j => Ag3 l j == (Ab4 l (i : Int)).f0.toList) l.length with ⟨h1, h2⟩ | ⟨j, hj, h1, h2, h3⟩
 ·have := h2 i hi
  simp [Ag3] at this
 ·rw [h1]
  constructor
  ·intro e
   obtain rfl : j = i := by omega
   intro m hm
   have := h3 m hm
   simp only [beq_eq_false_iff_ne, ne_eq] at this ⊢
   exact fun e => this e.symm
  ·intro h
   have hji : ¬ j < i := fun hlt => by
    have := h j hlt
    simp only [beq_eq_false_iff_ne, ne_eq] at this
    exact this (by simpa [Ag3] using (eq_comm.1 (beq_iff_eq.1 h2)))
   have hij : ¬ i < j := fun hlt => by
    have := h3 i hlt
    simp [Ag3] at this
   omega
theorem ISig_last (l : List S65) (hl : l.length ≤ 6) : Ev (fun k => slices_ContainsFunc_impl_Symbol_impl_Symbol_impl_SignatureFault_1.f k l) (An6 l) := by
 unfold slices_ContainsFunc_impl_Symbol_impl_Symbol_impl_SignatureFault_1.f slices_IndexFunc_impl_Symbol_impl_Symbol_impl_SignatureFault_1.f
 have h := Ad5 l.length (fun j => if ((Ab4 l (j : Int)).f1 == 0) = true then some (j : Int) else none) (-1) (fun k i => slices_IndexFunc_impl_Symbol_impl_Symbol_impl_SignatureFault_1.l0 k l (l.length : Int) i)
  (by simp only [slices_IndexFunc_impl_Symbol_impl_Symbol_impl_SignatureFault_1.l0]; exact Ab7 (by omega) (Ab3 _))
  (fun i hi r hr => by
   simp only [slices_IndexFunc_impl_Symbol_impl_Symbol_impl_SignatureFault_1.l0]
   refine Aa6 (by omega) (Aa6 (by omega) (Aa6 (by omega) (Ae0 rfl ?_)))
   rw [Ac7 (by omega)]
   by_cases h : ((Ab4 l (i : Int)).f1 == 0) = true
   ·rw [if_pos h]; exact Aa6 h (Ab3 _)
   ·rw [if_neg h]; exact Ab7 h hr)
  l.length 0 (by omega)
 rw [Af5 (fun j => (Ab4 l (j : Int)).f1 == 0) (fun j => (j : Int)) (-1)] at h
 refine Ab9 h (Ad3 (Ab3 _) ?_)
 unfold An6
 cases Ad4 (fun j => (Ab4 l (j : Int)).f1 == 0) l.length 0 with
 | none => rfl
 | some j => simp
theorem ISig_l1 (l : List S65) (hl : l.length ≤ 6) : Ev (fun k => impl_SignatureFault.l1 k l (l.length : Int) 0 l) (Ai9 (Ag8 l) (if An6 l = true then 0 else 4) l.length 0) :=
 Ad5 l.length (Ag8 l) (if An6 l = true then 0 else 4) (fun k i => impl_SignatureFault.l1 k l (l.length : Int) i l)
  (by
   simp only [impl_SignatureFault.l1]
   refine Ab7 (by omega) (Ab9 (ISig_last l hl) ?_)
   by_cases h : An6 l = true
   ·exact Ad3 (Aa6 h (Ab3 _)) (if_pos h).symm
   ·exact Ad3 (Ab7 h (Ab3 _)) (if_neg h).symm)
  (fun i hi r hr => by
   simp only [impl_SignatureFault.l1]
   refine Aa6 (by omega) (Aa6 (by omega) (Aa6 (by omega) (Ab9 (symbolIndex_ev l (by omega) _) ?_)))
   have hd := dup_place l i hi
   rw [Ac7 (by omega)]
   unfold Ag8
   by_cases h : Av5 l i = true
   ·rw [if_pos h]
    exact Ab7 (fun e => by rw [hd.1 e] at h; cases h) (Ab3 _)
   ·rw [if_neg h]
    exact Aa6 (hd.2 (Bool.eq_false_iff.2 h)) hr)
  l.length 0 (by omega)
theorem SignatureFault_impl (l : List S65) : Ev (fun k => impl_SignatureFault.f k l) (At2 l) := by
 unfold impl_SignatureFault.f At2
 by_cases h1 : (l.length : Int) < 1
 ·rw [if_pos (.inl (by omega))]
  refine Aa6 h1 (Ac1 ?_)
  simp only [impl_SignatureFault.j0]
  exact Aa6 (by simp) (Ab3 _)
 refine Ab7 h1 (Ac1 ?_)
 simp only [impl_SignatureFault.j0]
 by_cases h2 : (l.length : Int) > 6
 ·rw [if_pos (.inr (by omega))]
  exact Aa6 (by simpa using h2) (Ab3 _)
 rw [if_neg (by omega)]
 refine Ab7 (by simpa using h2) ?_
 exact Ad5 l.length (Ai0 l) _ (fun k i => impl_SignatureFault.l0 k l (l.length : Int) i l)
  (by simp only [impl_SignatureFault.l0]; exact Ab7 (by omega) (ISig_l1 l (by omega)))
  (fun i hi r hr => by
   simp only [impl_SignatureFault.l0]
   refine Aa6 (by omega) (Aa6 (by omega) (Aa6 (by omega) (Ae0 (isName_eq _) ?_)))
   unfold Ai0
   by_cases h : Ao9 (Ab4 l (i : Int)).f0 = true
   ·refine Aa6 h (Ae0 (Aq0 _ _ _) ?_)
    rw [if_pos h, Ac7 (by omega)]
    by_cases h' : 0 ≤ (Ab4 l (i : Int)).f1 ∧ (Ab4 l (i : Int)).f1 ≤ 2
    ·rw [if_pos h']
     exact Aa6 (by simpa using h') hr
    ·rw [if_neg h']
     exact Ab7 (by simpa using h') (Ab3 _)
   ·rw [if_neg h]
    exact Ab7 h (Ab3 _))
  l.length 0 (by omega)
structure Right (l : List S65) : Prop where
 len : 1 ≤ l.length ∧ l.length ≤ 6
 names : ∀ i, i < l.length → Ao9 (Ab4 l (i : Int)).f0 = true
 arities : ∀ i, i < l.length → 0 ≤ (Ab4 l (i : Int)).f1 ∧ (Ab4 l (i : Int)).f1 ≤ 2
 apart : ∀ i, i < l.length → Av5 l i = false
theorem Al6 (l : List S65) (h : At2 l = 0) : Right l := by
 unfold At2 at h
 by_cases h1 : l.length < 1 ∨ l.length > 6
 ·rw [if_pos h1] at h; omega
 rw [if_neg h1] at h
 have hlen : 1 ≤ l.length ∧ l.length ≤ 6 := by omega
 rcases scanN_cases (Ai0 l) (Ai9 (Ag8 l) (if An6 l = true then 0 else 4) l.length 0) l.length 0 with ⟨h2, h3⟩ | ⟨j, _, _, h3⟩
 ·rw [h3] at h
  rcases scanN_cases (Ag8 l) (if An6 l = true then 0 else 4) l.length 0 with ⟨h4, h5⟩ | ⟨j, _, _, h5⟩
  ·refine ⟨hlen, fun i hi => ?_, fun i hi => ?_, fun i hi => ?_⟩
   ·have := h2 i (by omega) (by omega)
    unfold Ai0 at this
    by_cases hn : Ao9 (Ab4 l (i : Int)).f0 = true
    ·exact hn
    ·rw [if_neg hn] at this; cases this
   ·have := h2 i (by omega) (by omega)
    unfold Ai0 at this
    by_cases hn : Ao9 (Ab4 l (i : Int)).f0 = true
    ·rw [if_pos hn] at this
     by_cases ha : 0 ≤ (Ab4 l (i : Int)).f1 ∧ (Ab4 l (i : Int)).f1 ≤ 2
     ·exact ha
     ·rw [if_neg ha] at this; cases this
    ·rw [if_neg hn] at this; cases this
   ·have := h4 i (by omega) (by omega)
    unfold Ag8 at this
    by_cases hd : Av5 l i = true
    ·rw [if_pos hd] at this; cases this
    ·exact Bool.eq_false_iff.2 hd
  ·rw [h] at h5
   unfold Ag8 at h5
   by_cases hd : Av5 l j = true
   ·rw [if_pos hd] at h5; cases h5
   ·rw [if_neg hd] at h5; cases h5
 ·rw [h] at h3
  unfold Ai0 at h3
  by_cases hn : Ao9 (Ab4 l (j : Int)).f0 = true
  ·rw [if_pos hn] at h3
   by_cases ha : 0 ≤ (Ab4 l (j : Int)).f1 ∧ (Ab4 l (j : Int)).f1 ≤ 2
   ·rw [if_pos ha] at h3; cases h3
   ·rw [if_neg ha] at h3; cases h3
  ·rw [if_neg hn] at h3; cases h3
end Go.Proofs.YtgichahebemmiaaDoor.Pure
set_option linter.unusedVariables false
namespace Go.Proofs.YtgichahebemmiaaDoor.Pure
open Go.RowKit Go.Proofs.YtgichahebemmiaaDoor.P Go.Proofs.YtgichahebemmiaaDoorW.PrintWords Go.Proofs.YtgichahebemmiaaDoorW.PrintLast Go.Proofs.YtgichahebemmiaaDoor.Base
def An2 (l : List S65) (n : Int) : Bool := decide (0 ≤ n ∧ n ≤ (l.length : Int) - 1)
theorem l2Symbol_eq (l : List S65) (hl : l.length ≤ 1048576) (n : Int) : spec_l2Symbol.f [(⟨l⟩ : S32)] n = some (An2 l n) := by
 unfold spec_l2Symbol.f
 rw [if_pos (by simp)]
 show (spec_l1In.f n 0 (wrap64 ((l.length : Int) - 1))).bind _ = _
 rw [At6, Ag9 (by omega) (by omega)]
 rfl
theorem isSymbol_eq (l : List S65) (hl : l.length ≤ 1048576) (n : Int) : impl_isSymbol.f l n = some (An2 l n) := by
 unfold impl_isSymbol.f
 rw [Aq0, Ag9 (by omega) (by omega)]
 rfl
theorem Ap6 {l : List S65} {n : Int} (h : An2 l n = true) : 0 ≤ n ∧ n < (l.length : Int) := by
 unfold An2 at h
 have := of_decide_eq_true h
 omega
end Go.Proofs.YtgichahebemmiaaDoor.Pure
set_option linter.unusedVariables false
namespace Go.Proofs.YtgichahebemmiaaDoor.Pure
open Go.RowKit Go.Proofs.YtgichahebemmiaaDoor.P Go.Proofs.YtgichahebemmiaaDoorW.PrintWords Go.Proofs.YtgichahebemmiaaDoorW.PrintLast Go.Proofs.YtgichahebemmiaaDoor.Base
theorem Ai2 (o : List Int) (ho : o.length ≤ 9000000000000000000) (v : Int) : Ev (fun k => slices_Index_int64_int64.f k o v) (Ai5 (fun j => v == rd o (j : Int)) o.length) := by
 unfold slices_Index_int64_int64.f
 have h := Ad5 o.length (fun j => if (v == rd o (j : Int)) = true then some (j : Int) else none) (-1) (fun k i => slices_Index_int64_int64.l0 k o v (o.length : Int) i)
  (by simp only [slices_Index_int64_int64.l0]; exact Ab7 (by omega) (Ab3 _))
  (fun i hi r hr => by
   simp only [slices_Index_int64_int64.l0]
   refine Aa6 (by omega) (Aa6 (by omega) (Aa6 (by omega) ?_))
   rw [Ac7 (by omega)]
   by_cases h : v = rd o (i : Int)
   ·exact Aa6 h (Ad3 (Ab3 _) (by simp [h]))
   ·exact Ab7 h (Ad3 hr (by simp [h])))
  o.length 0 (by omega)
 rw [Am3 (fun j => v == rd o (j : Int))] at h
 exact h
theorem slicesContains_ev (o : List Int) (ho : o.length ≤ 9000000000000000000) (v : Int) : Ev (fun k => slices_Contains_int64_int64.f k o v) (Ad4 (fun j => v == rd o (j : Int)) o.length 0).isSome := by
 unfold slices_Contains_int64_int64.f
 refine Ab9 (Ai2 o ho v) (Ad3 (Ab3 _) ?_)
 unfold Ai5
 cases Ad4 (fun j => v == rd o (j : Int)) o.length 0 with
 | none => rfl
 | some j => simp
theorem scanN_const {R : Type} (p : Nat → Bool) (c e : R) (d i : Nat) : Ai9 (fun j => if p j = true then some c else none) e d i = if (Ad4 p d i).isSome = true then c else e := by
 rw [Af5 p (fun _ => c) e]
 cases Ad4 p d i <;> rfl
theorem firstN_congr {p q : Nat → Bool} : ∀ (d i : Nat), (∀ j, i ≤ j → j < i + d → p j = q j) → Ad4 p d i = Ad4 q d i
 | 0, _, _ => rfl
 | d + 1, i, h => by
  rw [Ad4, Ad4, h i (by omega) (by omega), firstN_congr d (i + 1) (fun j h1 h2 => h j (by omega) (by omega))]
def As0 (o : List Int) (i : Nat) : Bool := (Ad4 (fun j => rd o (i : Int) == rd o (j : Int)) i 0).isSome
def Ag5 (o : List Int) (i : Nat) : Option Int := if As0 o i = true then some 6 else none
def Av8 (l : List S65) (o : List Int) : Int :=
 if o.length = l.length then (if (Ad4 (fun j => !An2 l (rd o (j : Int))) o.length 0).isSome = true then 3 else Ai9 (Ag5 o) 0 o.length 0) else 2
def Ar3 (l : List S65) (o : List Int) : Int := if At2 l = 0 then Av8 l o else At2 l
theorem Order_l2 (o : List Int) (ho : o.length ≤ 1048576) (i : Nat) (hi : i < o.length) (r : Int) (hr : Ev (fun k => spec_l2Order.l1 k o ((i + 1 : Nat) : Int)) r) : Ev (fun k => spec_l2Order.l2 k o (i : Int) 0) ((Ag5 o i).getD r) := by
 have h := Ad5 i (fun j => if (rd o (i : Int) == rd o (j : Int)) = true then some 6 else none) r (fun k j => spec_l2Order.l2 k o (i : Int) j)
  (by simp only [spec_l2Order.l2]; refine Ab7 (by omega) ?_; rw [Ac7 (by omega)]; exact hr)
  (fun j hj r hr => by
   simp only [spec_l2Order.l2]
   refine Aa6 (by omega) (Aa6 (by omega) (Aa6 (by omega) (Aa6 (by omega) (Aa6 (by omega) ?_))))
   rw [Ac7 (by omega)]
   by_cases h : rd o (i : Int) = rd o (j : Int)
   ·exact Aa6 h (Ad3 (Ab3 _) (by simp [h]))
   ·exact Ab7 h (Ad3 hr (by simp [h])))
  i 0 (by omega)
 refine Ad3 h ?_
 rw [scanN_const (fun j => rd o (i : Int) == rd o (j : Int)) 6 r]
 unfold Ag5 As0
 cases (Ad4 (fun j => rd o (i : Int) == rd o (j : Int)) i 0).isSome <;> rfl
theorem Order_l1 (o : List Int) (ho : o.length ≤ 1048576) : Ev (fun k => spec_l2Order.l1 k o 0) (Ai9 (Ag5 o) 0 o.length 0) :=
 Ad5 o.length (Ag5 o) 0 (fun k i => spec_l2Order.l1 k o i)
  (by simp only [spec_l2Order.l1]; exact Ab7 (by omega) (Ab3 _))
  (fun i hi r hr => by
   simp only [spec_l2Order.l1]
   exact Aa6 (by omega) (Order_l2 o ho i hi r hr))
  o.length 0 (by omega)
theorem l2Order_ev (l : List S65) (hl : l.length ≤ 6) (o : List Int) (ho : o.length ≤ 1048576) : Ev (fun k => spec_l2Order.f k [(⟨l⟩ : S32)] o) (Av8 l o) := by
 unfold spec_l2Order.f Av8
 have e : (Ad2 [(⟨l⟩ : S32)] 0).f0 = l := rfl
 simp only [e]
 refine Aa6 (by simp) ?_
 by_cases hlen : o.length = l.length
 ·rw [if_pos hlen]
  refine Aa6 (by omega) ?_
  have h := Ad5 o.length (fun j => if (!An2 l (rd o (j : Int))) = true then some 3 else none) (Ai9 (Ag5 o) 0 o.length 0) (fun k i => spec_l2Order.l0 k [(⟨l⟩ : S32)] o i)
   (by simp only [spec_l2Order.l0]; exact Ab7 (by omega) (Order_l1 o ho))
   (fun i hi r hr => by
    simp only [spec_l2Order.l0]
    refine Aa6 (by omega) (Aa6 (by omega) (Ae0 (l2Symbol_eq l (by omega) _) ?_))
    rw [Ac7 (by omega)]
    by_cases h : An2 l (rd o (i : Int)) = true
    ·exact Aa6 h (Ad3 hr (by simp [h]))
    ·exact Ab7 h (Ad3 (Ab3 _) (by simp [h])))
   o.length 0 (by omega)
  rw [scanN_const (fun j => !An2 l (rd o (j : Int))) 3] at h
  exact h
 ·rw [if_neg hlen]
  exact Ab7 (by omega) (Ab3 _)
theorem OrderFault_spec (l : List S65) (o : List Int) (ho : o.length ≤ 1048576) : Ev (fun k => spec_OrderFault.f k l o) (Ar3 l o) := by
 unfold spec_OrderFault.f Ar3
 refine Ab9 (SignatureFault_spec l) (Aj9 (fun h => ?_) (fun h => Ab3 _))
 have hl := (Al6 l h).len
 exact Ab9 (l2Order_ev l (by omega) o ho) (Ab3 _)
theorem Order_notSym (l : List S65) (hl : l.length ≤ 6) (o : List Int) (ho : o.length ≤ 1048576) :
  Ev (fun k => slices_ContainsFunc_int64_int64_impl_OrderFault_1.f k o [(⟨l⟩ : S32)]) (Ad4 (fun j => !An2 l (rd o (j : Int))) o.length 0).isSome := by
 unfold slices_ContainsFunc_int64_int64_impl_OrderFault_1.f slices_IndexFunc_int64_int64_impl_OrderFault_1.f
 have h := Ad5 o.length (fun j => if (!An2 l (rd o (j : Int))) = true then some (j : Int) else none) (-1) (fun k i => slices_IndexFunc_int64_int64_impl_OrderFault_1.l0 k o (o.length : Int) i [(⟨l⟩ : S32)])
  (by simp only [slices_IndexFunc_int64_int64_impl_OrderFault_1.l0]; exact Ab7 (by omega) (Ab3 _))
  (fun i hi r hr => by
   simp only [slices_IndexFunc_int64_int64_impl_OrderFault_1.l0]
   refine Aa6 (by omega) (Aa6 (by omega) (Aa6 (by omega) (Ae0 (a := !An2 l (rd o (i : Int))) ?_ ?_)))
   ·unfold impl_OrderFault_1_with.f
    rw [if_pos (by simp)]
    exact At1 (isSymbol_eq l (by omega) _) rfl
   ·rw [Ac7 (by omega)]
    by_cases h : (!An2 l (rd o (i : Int))) = true
    ·rw [if_pos h]; exact Aa6 h (Ab3 _)
    ·rw [if_neg h]; exact Ab7 h hr)
  o.length 0 (by omega)
 rw [Af5 (fun j => !An2 l (rd o (j : Int))) (fun j => (j : Int)) (-1)] at h
 refine Ab9 h (Ad3 (Ab3 _) ?_)
 cases Ad4 (fun j => !An2 l (rd o (j : Int))) o.length 0 with
 | none => rfl
 | some j => simp
theorem Order_l0 (o : List Int) (ho : o.length ≤ 1048576) : Ev (fun k => impl_OrderFault.l0 k o o (o.length : Int) 0) (Ai9 (Ag5 o) 0 o.length 0) :=
 Ad5 o.length (Ag5 o) 0 (fun k i => impl_OrderFault.l0 k o o (o.length : Int) i)
  (by simp only [impl_OrderFault.l0]; exact Ab7 (by omega) (Ab3 _))
  (fun i hi r hr => by
   simp only [impl_OrderFault.l0]
   have hc := slicesContains_ev (o.take i) (by rw [List.length_take]; omega) (rd o (i : Int))
   have hd : (Ad4 (fun j => rd o (i : Int) == rd (o.take i) (j : Int)) (o.take i).length 0).isSome = As0 o i := by
    unfold As0
    rw [List.length_take, Nat.min_eq_left (by omega)]
    rw [firstN_congr i 0 (q := fun j => rd o (i : Int) == rd o (j : Int)) (fun j _ hj => by
     rw [Ag4 (o.take i) j (by rw [List.length_take]; omega), Ag4 o j (by omega), List.getElem_take])]
   rw [hd] at hc
   refine Aa6 (by omega) (Aa6 (by omega) (Aa6 (by omega) (Aa6 (by omega) ?_)))
   rw [Int.toNat_natCast, Ac7 (by omega)]
   refine Ab9 hc ?_
   unfold Ag5
   by_cases h : As0 o i = true
   ·rw [if_pos h]; exact Aa6 h (Ab3 _)
   ·rw [if_neg h]; exact Ab7 h hr)
  o.length 0 (by omega)
theorem OrderFault_impl (l : List S65) (o : List Int) (ho : o.length ≤ 1048576) : Ev (fun k => impl_OrderFault.f k l o) (Ar3 l o) := by
 unfold impl_OrderFault.f Ar3
 refine Ab9 (SignatureFault_impl l) (Aj9 (fun h => ?_) (fun h => Ab3 _))
 have hl := (Al6 l h).len
 unfold Av8
 by_cases hlen : o.length = l.length
 ·rw [if_pos hlen]
  exact Aa6 (by omega) (Ab9 (Order_notSym l (by omega) o ho) (Aj9 (fun hn => Ab3 _) (fun hn => Order_l0 o ho)))
 ·rw [if_neg hlen]; exact Ab7 (by omega) (Ab3 _)
end Go.Proofs.YtgichahebemmiaaDoor.Pure
set_option linter.unusedVariables false
namespace Go.Proofs.YtgichahebemmiaaDoor.Pure
open Go.RowKit Go.Proofs.YtgichahebemmiaaDoorW.PrintWords Go.Proofs.YtgichahebemmiaaDoor.Base
theorem Ak8 : ∀ (m : Nat) (xs : List Nat), xs.Nodup → (∀ x ∈ xs, x < m) → xs.length ≤ m
 | 0, xs, _, h => by
  cases xs with
  | nil => simp
  | cons x xs => exact absurd (h x (by simp)) (by omega)
 | m + 1, xs, hn, h => by
  by_cases hm : m ∈ xs
  ·have h1 := Ak8 m (xs.erase m) (hn.erase m) (fun x hx => by
    have := (List.Nodup.mem_erase_iff hn).1 hx
    have := h x this.2
    omega)
   rw [List.length_erase_of_mem hm] at h1
   omega
  ·have h1 := Ak8 m xs hn (fun x hx => by
    have := h x hx
    have : x ≠ m := fun e => hm (e ▸ hx)
    omega)
   omega
theorem nodup_all (n : Nat) (xs : List Nat) (hn : xs.Nodup) (h : ∀ x ∈ xs, x < n) (hl : xs.length = n) (v : Nat) (hv : v < n) : v ∈ xs := by
 by_cases hm : v ∈ xs
 ·exact hm
 have := Ak8 n (v :: xs) (List.nodup_cons.2 ⟨hm, hn⟩) (fun x hx => by
  rcases List.mem_cons.1 hx with rfl | hx
  ·exact hv
  ·exact h x hx)
 simp only [List.length_cons] at this
 omega
theorem perm_place (o : List Int) (h : ∀ i, i < o.length → 0 ≤ rd o (i : Int) ∧ rd o (i : Int) < (o.length : Int)) (hd : ∀ i j, i < o.length → j < i → rd o (i : Int) ≠ rd o (j : Int)) (v : Int) (h0 : 0 ≤ v) (h1 : v < (o.length : Int)) :
  ∃ j, j < o.length ∧ rd o (j : Int) = v := by
 have hN : (o.map Int.toNat).Nodup := by
  rw [List.nodup_iff_pairwise_ne, List.pairwise_iff_getElem]
  intro i j hi hj hij
  rw [List.length_map] at hi hj
  simp only [List.getElem_map]
  have a := h i hi
  have b := h j hj
  have c := hd j i hj hij
  rw [Ag4 o i hi] at a c
  rw [Ag4 o j hj] at b c
  omega
 have hm := nodup_all o.length (o.map Int.toNat) hN (fun x hx => by
  obtain ⟨y, hy, rfl⟩ := List.mem_map.1 hx
  obtain ⟨i, hi, rfl⟩ := List.getElem_of_mem hy
  have a := h i hi
  rw [Ag4 o i hi] at a
  omega) (by simp) v.toNat (by omega)
 obtain ⟨y, hy, e⟩ := List.mem_map.1 hm
 obtain ⟨i, hi, rfl⟩ := List.getElem_of_mem hy
 refine ⟨i, hi, ?_⟩
 have a := h i hi
 rw [Ag4 o i hi] at a ⊢
 omega
end Go.Proofs.YtgichahebemmiaaDoor.Pure
set_option linter.unusedVariables false
namespace Go.Proofs.YtgichahebemmiaaDoor.Pure
open Go.RowKit Go.Proofs.YtgichahebemmiaaDoorW.PrintWords Go.Proofs.YtgichahebemmiaaDoor.Base
def idxN (n : Int) : List Int → Nat
 | [] => 0
 | x :: xs => if x = n then 0 else idxN n xs + 1
theorem At9 (n : Int) : ∀ l : List Int, n ∈ l → idxN n l < l.length
 | [], h => by simp at h
 | x :: xs, h => by
  unfold idxN
  by_cases e : x = n
  ·rw [if_pos e]; simp
  ·rw [if_neg e]
   rcases List.mem_cons.1 h with h | h
   ·exact absurd h.symm e
   ·have := At9 n xs h
    simp only [List.length_cons]; omega
theorem Ar4 (n : Int) : ∀ (l : List Int) (h : idxN n l < l.length), l[idxN n l] = n
 | [], h => by simp at h
 | x :: xs, h => by
  by_cases e : x = n
  ·have : idxN n (x :: xs) = 0 := by unfold idxN; rw [if_pos e]
   simp only [this, List.getElem_cons_zero]; exact e
  ·have hk : idxN n (x :: xs) = idxN n xs + 1 := by rw [idxN, if_neg e]
   simp only [hk, List.getElem_cons_succ]
   exact Ar4 n xs (by rw [hk] at h; simpa using h)
theorem idxN_first (n : Int) : ∀ (l : List Int) (j : Nat) (hj : j < l.length), j < idxN n l → l[j] ≠ n
 | [], j, hj, _ => by simp at hj
 | x :: xs, j, hj, h => by
  by_cases e : x = n
  ·rw [idxN, if_pos e] at h; omega
  ·rw [idxN, if_neg e] at h
   cases j with
   | zero => simpa using e
   | succ j => simpa using idxN_first n xs j (by simpa using hj) (by omega)
theorem placeN_idx (l : List Int) (n : Int) : Ai5 (fun j => n == rd l (j : Int)) l.length = if n ∈ l then (idxN n l : Int) else -1 := by
 rcases placeN_cases (fun j => n == rd l (j : Int)) l.length with ⟨h1, h2⟩ | ⟨j, hj, h1, h2, h3⟩
 ·rw [h1, if_neg]
  intro hm
  have hlt := At9 n l hm
  have := h2 (idxN n l) hlt
  rw [Ag4 l _ hlt, Ar4 n l hlt] at this
  simp at this
 ·have e : l[j] = n := by
   rw [Ag4 l j hj] at h2
   exact (beq_iff_eq.1 h2).symm
  have hm : n ∈ l := e ▸ List.getElem_mem hj
  rw [h1, if_pos hm]
  have hlt := At9 n l hm
  rcases Nat.lt_trichotomy j (idxN n l) with k | k | k
  ·exact absurd e (idxN_first n l j hj k)
  ·rw [k]
  ·have := h3 (idxN n l) k
   rw [Ag4 l _ hlt, Ar4 n l hlt] at this
   simp at this
end Go.Proofs.YtgichahebemmiaaDoor.Pure
set_option linter.unusedVariables false
namespace Go.Proofs.YtgichahebemmiaaDoor.Pure
open Go.RowKit Go.Proofs.YtgichahebemmiaaDoorW.PrintWords Go.Proofs.YtgichahebemmiaaDoor.Base
def Aj1 (ar : Int → Nat) : Nat → List Int → Option (List Int)
 | 0, t => some t
 | _ + 1, [] => none
 | k + 1, n :: t => Aj1 ar (k + ar n) t
theorem Al5 (ar : Int → Nat) (t : List Int) : Aj1 ar 0 t = some t := by cases t <;> rfl
theorem Am4 (ar : Int → Nat) (m : Nat) : ∀ (t : List Int) (k : Nat), Aj1 ar (k + m) t = (Aj1 ar k t).bind (Aj1 ar m)
 | t, 0 => by rw [Al5, Nat.zero_add]; rfl
 | [], k + 1 => by rw [show k + 1 + m = (k + m) + 1 by omega]; rfl
 | n :: t, k + 1 => by
  rw [show k + 1 + m = (k + m) + 1 by omega]
  show Aj1 ar (k + m + ar n) t = (Aj1 ar (k + ar n) t).bind (Aj1 ar m)
  rw [show k + m + ar n = k + ar n + m by omega]
  exact Am4 ar m t (k + ar n)
theorem skipN_succ (ar : Int → Nat) (t : List Int) (k : Nat) : Aj1 ar (k + 1) t = (Aj1 ar 1 t).bind (Aj1 ar k) := by
 rw [show k + 1 = 1 + k by omega]; exact Am4 ar k t 1
theorem skipN_cons (ar : Int → Nat) (n : Int) (t : List Int) (k : Nat) : Aj1 ar (k + 1) (n :: t) = Aj1 ar (k + ar n) t := rfl
theorem Al1 (ar : Int → Nat) : ∀ (t : List Int) (k : Nat) (u : List Int), Aj1 ar k t = some u → ∃ d, u = t.drop d ∧ d ≤ t.length ∧ k ≤ d
 | t, 0, u, h => by
  rw [Al5] at h
  obtain rfl := Option.some.inj h
  exact ⟨0, by simp, by omega, by omega⟩
 | [], k + 1, u, h => by cases h
 | n :: t, k + 1, u, h => by
  obtain ⟨d, e, hd, hk⟩ := Al1 ar t (k + ar n) u h
  exact ⟨d + 1, by rw [e]; rfl, by simp; omega, by omega⟩
def Ai8 (ar : Int → Nat) (term : List Int) (k at_ : Nat) : Option Nat := (Aj1 ar k (term.drop at_)).map fun u => term.length - u.length
theorem Ak0 {ar : Int → Nat} {term : List Int} {k at_ e : Nat} (hat : at_ ≤ term.length) (h : Ai8 ar term k at_ = some e) : Aj1 ar k (term.drop at_) = some (term.drop e) ∧ at_ + k ≤ e ∧ e ≤ term.length := by
 unfold Ai8 at h
 cases hs : Aj1 ar k (term.drop at_) with
 | none => rw [hs] at h; cases h
 | some u =>
  rw [hs] at h
  obtain ⟨d, e1, hd, hk⟩ := Al1 ar _ _ _ hs
  rw [List.length_drop] at hd
  have he : term.length - u.length = e := Option.some.inj h
  have hul : u.length = term.length - (at_ + d) := by rw [e1, List.drop_drop, List.length_drop]
  have hed : e = at_ + d := by omega
  refine ⟨?_, by omega, by omega⟩
  rw [e1, List.drop_drop, hed]
theorem Am9 (ar : Int → Nat) (term : List Int) (at_ : Nat) (hat : at_ ≤ term.length) : Ai8 ar term 0 at_ = some at_ := by
 unfold Ai8
 rw [Al5]
 simp only [Option.map_some, List.length_drop]
 congr 1; omega
theorem endN_out (ar : Int → Nat) (term : List Int) (k at_ : Nat) (hk : 0 < k) (hat : term.length ≤ at_) : Ai8 ar term k at_ = none := by
 unfold Ai8
 obtain ⟨m, rfl⟩ : ∃ m, k = m + 1 := ⟨k - 1, by omega⟩
 rw [List.drop_eq_nil_of_le hat]; rfl
theorem Ap0 (ar : Int → Nat) (term : List Int) (k at_ : Nat) (hat : at_ < term.length) : Ai8 ar term (k + 1) at_ = Ai8 ar term (k + ar term[at_]) (at_ + 1) := by
 unfold Ai8
 rw [List.drop_eq_getElem_cons hat, skipN_cons]
theorem Ao7 (ar : Int → Nat) (term : List Int) (k m at_ : Nat) (hat : at_ ≤ term.length) : Ai8 ar term (k + m) at_ = (Ai8 ar term k at_).bind fun e => Ai8 ar term m e := by
 cases h : Ai8 ar term k at_ with
 | none =>
  unfold Ai8 at h ⊢
  rw [Am4]
  cases hs : Aj1 ar k (term.drop at_) with
  | none => rfl
  | some u => rw [hs] at h; cases h
 | some e =>
  obtain ⟨hs, _, _⟩ := Ak0 hat h
  simp only [Option.bind_some]
  unfold Ai8
  rw [Am4, hs]
  rfl
end Go.Proofs.YtgichahebemmiaaDoor.Pure
set_option linter.unusedVariables false
namespace Go.Proofs.YtgichahebemmiaaDoor.Pure
open Go.RowKit Go.Proofs.YtgichahebemmiaaDoorW.PrintWords Go.Proofs.YtgichahebemmiaaDoor.Base
def Ap1 (ar : Int → Nat) (t : List Int) : Nat → Nat → List Nat
 | 0, _ => []
 | m + 1, e => e :: (match Ai8 ar t 1 e with
  | some e' => Ap1 ar t m e'
  | none => [])
theorem An5 {ar : Int → Nat} {t : List Int} {m e e' : Nat} (h : Ai8 ar t 1 e = some e') : Ap1 ar t (m + 1) e = e :: Ap1 ar t m e' := by
 rw [Ap1, h]
theorem endN_sub (ar : Int → Nat) (t : List Int) (h : Ai8 ar t 1 0 = some t.length) : ∀ at_, at_ < t.length → ∃ e, Ai8 ar t 1 at_ = some e := by
 have key : ∀ (t : List Int) (k at_ : Nat) (u : List Int), Aj1 ar (k + 1) t = some u → at_ + u.length < t.length → ∃ v, Aj1 ar 1 (t.drop at_) = some v := by
  intro t
  induction t with
  | nil => intro k at_ u h hl; simp at hl
  | cons n t ih =>
   intro k at_ u h hl
   cases at_ with
   | zero =>
    rw [skipN_succ] at h
    cases hs : Aj1 ar 1 (n :: t) with
    | none => rw [hs] at h; cases h
    | some v => exact ⟨v, hs⟩
   | succ a =>
    rw [skipN_cons] at h
    rw [List.drop_succ_cons]
    simp only [List.length_cons] at hl
    cases hm : k + ar n with
    | zero =>
     rw [hm, Al5] at h
     obtain rfl := Option.some.inj h
     omega
    | succ m =>
     rw [hm] at h
     exact ih m a u h (by omega)
 intro at_ hat
 unfold Ai8 at h
 cases hs : Aj1 ar 1 (t.drop 0) with
 | none => rw [hs] at h; cases h
 | some u =>
  rw [hs] at h
  have hu : t.length - u.length = t.length := Option.some.inj h
  obtain ⟨d, e, hd, hk⟩ := Al1 ar _ _ _ hs
  rw [List.drop_zero] at hs e hd
  have hul : u.length = t.length - d := by rw [e, List.length_drop]
  obtain ⟨v, hv⟩ := key t 0 at_ u hs (by omega)
  exact ⟨t.length - v.length, by unfold Ai8; rw [hv]; rfl⟩
def Ae2 (ar : Int → Nat) (t : List Int) (a : Nat) : List Nat := Ap1 ar t (ar (rd t (a : Int))) (a + 1)
theorem argsN_bound {ar : Int → Nat} {t : List Int} : ∀ (m e e' : Nat), e ≤ t.length → Ai8 ar t m e = some e' → (Ap1 ar t m e).length = m ∧ ∀ p ∈ Ap1 ar t m e, e ≤ p ∧ p < t.length ∧ ∃ q, Ai8 ar t 1 p = some q
 | 0, e, e', he, h => ⟨rfl, fun p hp => by cases hp⟩
 | m + 1, e, e', he, h => by
  rw [show m + 1 = 1 + m by omega, Ao7 ar t 1 m e he] at h
  cases h1 : Ai8 ar t 1 e with
  | none => rw [h1] at h; cases h
  | some q =>
   rw [h1] at h
   simp only [Option.bind_some] at h
   obtain ⟨_, b1, b2⟩ := Ak0 he h1
   obtain ⟨i1, i2⟩ := argsN_bound m q e' b2 h
   rw [An5 h1]
   refine ⟨by rw [List.length_cons, i1], fun p hp => ?_⟩
   rcases List.mem_cons.1 hp with rfl | hp
   ·exact ⟨Nat.le_refl _, by omega, q, h1⟩
   ·obtain ⟨c1, c2, c3⟩ := i2 p hp
    exact ⟨by omega, c2, c3⟩
theorem Ap8 {ar : Int → Nat} {t : List Int} {a e : Nat} (ha : a < t.length) (h : Ai8 ar t 1 a = some e) : Ai8 ar t (ar (rd t (a : Int))) (a + 1) = some e := by
 rw [Ap0 ar t 0 a ha, ← Ag4 t a ha, Nat.zero_add] at h
 exact h
theorem Ag0 {ar : Int → Nat} {t : List Int} {a e : Nat} (ha : a < t.length) (h : Ai8 ar t 1 a = some e) :
  (Ae2 ar t a).length = ar (rd t (a : Int)) ∧ ∀ p ∈ Ae2 ar t a, a < p ∧ p < t.length ∧ ∃ q, Ai8 ar t 1 p = some q := by
 obtain ⟨h1, h2⟩ := argsN_bound (ar (rd t (a : Int))) (a + 1) e (by omega) (Ap8 ha h)
 exact ⟨h1, fun p hp => by obtain ⟨x, y, z⟩ := h2 p hp; exact ⟨by omega, y, z⟩⟩
end Go.Proofs.YtgichahebemmiaaDoor.Pure
set_option linter.unusedVariables false
namespace Go.Proofs.YtgichahebemmiaaDoor.Pure
open Go.RowKit Go.Proofs.YtgichahebemmiaaDoorW.PrintWords Go.Proofs.YtgichahebemmiaaDoor.Base
def Whole (ar : Int → Nat) (t : List Int) : Prop := Aj1 ar 1 t = some []
end Go.Proofs.YtgichahebemmiaaDoor.Pure
set_option linter.unusedVariables false
namespace Go.Proofs.YtgichahebemmiaaDoor.Pure
open Go.RowKit Go.Proofs.YtgichahebemmiaaDoor.P Go.Proofs.YtgichahebemmiaaDoorW.PrintWords Go.Proofs.YtgichahebemmiaaDoorW.PrintLast Go.Proofs.YtgichahebemmiaaDoor.Base
def Aj3 (l : List S65) (n : Int) : Bool := An2 l n || decide (-12 ≤ n ∧ n ≤ -1)
def arL (l : List S65) (n : Int) : Nat := if n < 0 then 0 else (Ab4 l n).f1.toNat
theorem Ap9 (l : List S65) (hl : l.length ≤ 6) (n : Int) : spec_l3Node.f [(⟨l⟩ : S32)] n = some (Aj3 l n) := by
 unfold spec_l3Node.f Aj3
 rw [l2Symbol_eq l (by omega)]
 simp only [Option.bind_some]
 by_cases h : An2 l n = true
 ·rw [if_pos h, h]; rfl
 ·rw [if_neg h, At6, Bool.eq_false_iff.2 h]; rfl
theorem isNode_eq (l : List S65) (hl : l.length ≤ 6) (n : Int) : impl_isNode.f l n = some (Aj3 l n) := by
 unfold impl_isNode.f Aj3
 rw [isSymbol_eq l (by omega)]
 simp only [Option.bind_some]
 by_cases h : An2 l n = true
 ·rw [if_pos h, h]; rfl
 ·rw [if_neg h, Aq0, Bool.eq_false_iff.2 h]; rfl
def Au0 (l : List S65) (t : List Int) : Prop := ∀ i, i < t.length → Aj3 l (rd t (i : Int)) = true
theorem Ao6 {l : List S65} {n : Int} (h : Aj3 l n = true) (h0 : ¬ n < 0) : 0 ≤ n ∧ n < (l.length : Int) := by
 unfold Aj3 at h
 rw [Bool.or_eq_true] at h
 rcases h with h | h
 ·exact Ap6 h
 ·have := of_decide_eq_true h; omega
theorem Ao5 {l : List S65} (hr : Right l) {n : Int} (h : Aj3 l n = true) (h0 : ¬ n < 0) : (Ab4 l n).f1 = (arL l n : Int) ∧ arL l n ≤ 2 := by
 obtain ⟨a, b⟩ := Ao6 h h0
 have := hr.arities n.toNat (by omega)
 rw [Int.toNat_of_nonneg a] at this
 unfold arL
 rw [if_neg h0]
 omega
theorem Ao2 {l : List S65} (hr : Right l) {n : Int} (h : Aj3 l n = true) : arL l n ≤ 2 := by
 by_cases h0 : n < 0
 ·unfold arL; rw [if_pos h0]; omega
 ·exact (Ao5 hr h h0).2
def As5 (o : Option Nat) : Int := match o with
 | some e => (e : Int)
 | none => -1
theorem l3End_loop (l : List S65) (hr : Right l) (t : List Int) (ht : t.length ≤ 1048576) (hn : Au0 l t) (at_ : Nat) (hat : at_ < t.length) (h0 : ¬ rd t (at_ : Int) < 0)
  (ih : ∀ e, at_ < e → e ≤ t.length → Ev (fun k => spec_l3End.f k [(⟨l⟩ : S32)] t (e : Int)) (As5 (Ai8 (arL l) t 1 e))) :
  ∀ (m i e : Nat), i + m = arL l (rd t (at_ : Int)) → at_ < e → e ≤ t.length → Ev (fun k => spec_l3End.l0 k [(⟨l⟩ : S32)] t (at_ : Int) (e : Int) (i : Int)) (As5 (Ai8 (arL l) t m e)) := by
 obtain ⟨s0, s1⟩ := Ao6 (hn at_ hat) h0
 obtain ⟨ha, ha2⟩ := Ao5 hr (hn at_ hat) h0
 have e0 : (Ad2 [(⟨l⟩ : S32)] 0).f0 = l := rfl
 intro m
 induction m with
 | zero =>
  intro i e hi he hel
  refine Ac1 ?_
  simp only [spec_l3End.l0, e0]
  refine Aa6 (by simp) (Aa6 (by omega) (Aa6 (by omega) (Aa6 s0 (Aa6 s1 ?_))))
  rw [ha, Am9 _ _ _ hel]
  exact Ab7 (by omega) (Ab3 _)
 | succ m ihm =>
  intro i e hi he hel
  refine Ac1 ?_
  simp only [spec_l3End.l0, e0]
  refine Aa6 (by simp) (Aa6 (by omega) (Aa6 (by omega) (Aa6 s0 (Aa6 s1 ?_))))
  rw [ha]
  refine Aa6 (by omega) (Ab9 (ih e he hel) ?_)
  rw [show m + 1 = 1 + m by omega, Ao7 _ _ 1 m e hel]
  cases hE : Ai8 (arL l) t 1 e with
  | none => exact Aa6 (by simp [As5]) (Ab3 _)
  | some e' =>
   obtain ⟨_, h1, h2⟩ := Ak0 hel hE
   refine Ab7 (by simp [As5]) ?_
   rw [Ac7 (by omega)]
   simp only [Option.bind_some]
   exact ihm (i + 1) e' (by omega) (by omega) h2
theorem An1 (l : List S65) (hr : Right l) (t : List Int) (ht : t.length ≤ 1048576) (hn : Au0 l t) : ∀ (d at_ : Nat), at_ + d = t.length → Ev (fun k => spec_l3End.f k [(⟨l⟩ : S32)] t (at_ : Int)) (As5 (Ai8 (arL l) t 1 at_)) := by
 intro d
 induction d using Nat.strongRecOn with
 | _ d ih =>
  intro at_ hd
  refine Ac1 ?_
  simp only [spec_l3End.f]
  by_cases hat : t.length ≤ at_
  ·rw [endN_out _ _ _ _ (by omega) hat]
   exact Aa6 (by omega) (Ab3 _)
  have hat' : at_ < t.length := by omega
  refine Ab7 (by omega) (Aa6 (by omega) (Aa6 (by omega) ?_))
  rw [Ap0 _ _ 0 _ hat', ← Ag4 t at_ hat', Nat.zero_add, Ac7 (by omega)]
  by_cases h0 : rd t (at_ : Int) < 0
  ·refine Aa6 h0 ?_
   have : arL l (rd t (at_ : Int)) = 0 := by unfold arL; rw [if_pos h0]
   rw [this, Am9 _ _ _ (by omega)]
   exact Ab3 _
  ·refine Ab7 h0 ?_
   exact l3End_loop l hr t ht hn at_ hat' h0 (fun e he hel => ih (t.length - e) (by omega) e (by omega)) _ 0 (at_ + 1) (by omega) (by omega) (by omega)
def Av4 (n : Nat) (o : Option Nat) : Int := match o with
 | some e => (e : Int)
 | none => (n : Int) + 1
theorem arityOf_eq (l : List S65) (hr : Right l) (n : Int) (h : Aj3 l n = true) : impl_arityOf.f l n = some (arL l n : Int) := by
 unfold impl_arityOf.f
 by_cases h0 : n < 0
 ·rw [if_pos h0]; unfold arL; rw [if_pos h0]; rfl
 ·obtain ⟨s0, s1⟩ := Ao6 h h0
  rw [if_neg h0, if_pos s0, if_pos s1, (Ao5 hr h h0).1]
theorem endOf_l0 (l : List S65) (hr : Right l) (t : List Int) (ht : t.length ≤ 1048576) (hn : Au0 l t) : ∀ (d at_ o : Nat), at_ + d = t.length → o ≤ 2 * at_ + 1 → Ev (fun k => impl_endOf.l0 k t (at_ : Int) (o : Int) l) (Av4 t.length (Ai8 (arL l) t o at_)) := by
 intro d
 induction d with
 | zero =>
  intro at_ o hd ho
  refine Ac1 ?_
  simp only [impl_endOf.l0]
  cases o with
  | zero =>
   rw [Am9 _ _ _ (by omega)]
   exact Ab7 (by omega) (Ab3 _)
  | succ o =>
   rw [endN_out _ _ _ _ (by omega) (by omega)]
   refine Aa6 (by omega) (Aa6 (by omega) ?_)
   rw [Ac7 (by omega)]
   exact Ad3 (Ab3 _) (by simp [Av4])
 | succ d ih =>
  intro at_ o hd ho
  refine Ac1 ?_
  simp only [impl_endOf.l0]
  cases o with
  | zero =>
   rw [Am9 _ _ _ (by omega)]
   exact Ab7 (by omega) (Ab3 _)
  | succ o =>
   have hat : at_ < t.length := by omega
   refine Aa6 (by omega) (Ab7 (by omega) (Aa6 (by omega) (Aa6 (by omega) (Ae0 (arityOf_eq l hr _ (hn at_ hat)) ?_))))
   have ha := Ao2 hr (hn at_ hat)
   rw [Ap0 _ _ o _ hat, ← Ag4 t at_ hat, Ac7 (by omega)]
   generalize arL l (rd t (at_ : Int)) = a at *
   rw [Ag9 (x := (a : Int) - 1) (by omega) (by omega), Ag9 (by omega) (by omega), show ((o + 1 : Nat) : Int) + ((a : Int) - 1) = ((o + a : Nat) : Int) by omega]
   exact ih (at_ + 1) (o + a) (by omega) (by omega)
theorem Ar1 (l : List S65) (hr : Right l) (t : List Int) (ht : t.length ≤ 1048576) (hn : Au0 l t) (at_ : Nat) (hat : at_ ≤ t.length) : Ev (fun k => impl_endOf.f k l t (at_ : Int)) (Av4 t.length (Ai8 (arL l) t 1 at_)) := by
 unfold impl_endOf.f
 exact endOf_l0 l hr t ht hn (t.length - at_) at_ 1 (by omega) (by omega)
def Av3 (l : List S65) (t : List Int) : Bool := (Ad4 (fun j => !Aj3 l (rd t (j : Int))) t.length 0).isSome
theorem Ar7 {l : List S65} {t : List Int} (h : ¬ Av3 l t = true) : Au0 l t := by
 unfold Av3 at h
 have h1 : Ad4 (fun j => !Aj3 l (rd t (j : Int))) t.length 0 = none := by
  cases hf : Ad4 (fun j => !Aj3 l (rd t (j : Int))) t.length 0 with
  | none => rfl
  | some j => rw [hf] at h; exact absurd rfl h
 intro i hi
 have := (Ah9 t.length 0).1 h1 i (by omega) (by omega)
 simpa using this
def Au2 (l : List S65) (t : List Int) : Int :=
 if t.length < 1 ∨ t.length > 24 then 2 else if Av3 l t = true then 3 else if Ai8 (arL l) t 1 0 = some t.length then 0 else 1
def Am1 (l : List S65) (t : List Int) : Int := if At2 l = 0 then Au2 l t else At2 l
theorem l3Fault_ev (l : List S65) (hr : Right l) (t : List Int) (ht : t.length ≤ 1048576) : Ev (fun k => spec_l3Fault.f k [(⟨l⟩ : S32)] t) (Au2 l t) := by
 have hl := hr.len
 unfold spec_l3Fault.f Au2
 by_cases h1 : (t.length : Int) < 1
 ·rw [if_pos (.inl (by omega))]
  refine Aa6 h1 (Ac1 ?_)
  simp only [spec_l3Fault.j0]
  exact Aa6 (by simp) (Ab3 _)
 refine Ab7 h1 (Ac1 ?_)
 simp only [spec_l3Fault.j0]
 by_cases h2 : (t.length : Int) > 24
 ·rw [if_pos (.inr (by omega))]
  exact Aa6 (by simpa using h2) (Ab3 _)
 rw [if_neg (by omega)]
 refine Ab7 (by simpa using h2) ?_
 by_cases hb : Av3 l t = true
 ·rw [if_pos hb]
  unfold Av3 at hb
  cases hf : Ad4 (fun j => !Aj3 l (rd t (j : Int))) t.length 0 with
  | none => rw [hf] at hb; cases hb
  | some j =>
   obtain ⟨_, hj, hp, hall⟩ := Am2 _ _ _ hf
   have key : ∀ d i, i + d = j → Ev (fun k => spec_l3Fault.l0 k [(⟨l⟩ : S32)] t (i : Int)) 3 := by
    intro d
    induction d with
    | zero =>
     intro i hi
     obtain rfl : i = j := by omega
     refine Ac1 ?_
     simp only [spec_l3Fault.l0]
     refine Aa6 (by omega) (Aa6 (by omega) (Ae0 (Ap9 l (by omega) _) ?_))
     exact Ab7 (by simpa using hp) (Ab3 _)
    | succ d ih =>
     intro i hi
     refine Ac1 ?_
     simp only [spec_l3Fault.l0]
     refine Aa6 (by omega) (Aa6 (by omega) (Ae0 (Ap9 l (by omega) _) ?_))
     have := hall i (by omega) (by omega)
     rw [Ac7 (by omega)]
     exact Aa6 (by simpa using this) (ih (i + 1) (by omega))
   exact key j 0 (by omega)
 ·rw [if_neg hb]
  have hn := Ar7 hb
  have h := Ad5 t.length (fun j => if (!Aj3 l (rd t (j : Int))) = true then some 3 else none) (if Ai8 (arL l) t 1 0 = some t.length then 0 else 1) (fun k i => spec_l3Fault.l0 k [(⟨l⟩ : S32)] t i)
   (by
    simp only [spec_l3Fault.l0]
    refine Ab7 (by omega) (Ab9 (An1 l hr t ht hn t.length 0 (by omega)) ?_)
    by_cases he : Ai8 (arL l) t 1 0 = some t.length
    ·rw [he]; exact Aa6 rfl (Ad3 (Ab3 _) (if_pos rfl).symm)
    ·refine Ab7 ?_ (Ad3 (Ab3 _) (if_neg he).symm)
     cases hE : Ai8 (arL l) t 1 0 with
     | none => simp [As5] <;> omega
     | some e =>
      intro k
      have : e = t.length := by simp only [As5] at k; omega
      exact he (by rw [hE, this]))
   (fun i hi r hr => by
    simp only [spec_l3Fault.l0]
    refine Aa6 (by omega) (Aa6 (by omega) (Ae0 (Ap9 l (by omega) _) ?_))
    rw [Ac7 (by omega), hn i hi]
    exact Aa6 rfl (Ad3 hr (by simp)))
   t.length 0 (by omega)
  refine Ad3 h ?_
  exact scanN_none t.length 0 (fun j _ hj => by simp [hn j (by omega)])
theorem Term_bad (l : List S65) (hl : l.length ≤ 6) (t : List Int) (ht : t.length ≤ 1048576) :
  Ev (fun k => slices_ContainsFunc_int64_int64_impl_TermFault_1.f k t [(⟨l⟩ : S32)]) (Av3 l t) := by
 unfold slices_ContainsFunc_int64_int64_impl_TermFault_1.f slices_IndexFunc_int64_int64_impl_TermFault_1.f
 have h := Ad5 t.length (fun j => if (!Aj3 l (rd t (j : Int))) = true then some (j : Int) else none) (-1) (fun k i => slices_IndexFunc_int64_int64_impl_TermFault_1.l0 k t (t.length : Int) i [(⟨l⟩ : S32)])
  (by simp only [slices_IndexFunc_int64_int64_impl_TermFault_1.l0]; exact Ab7 (by omega) (Ab3 _))
  (fun i hi r hr => by
   simp only [slices_IndexFunc_int64_int64_impl_TermFault_1.l0]
   refine Aa6 (by omega) (Aa6 (by omega) (Aa6 (by omega) (Ae0 (a := !Aj3 l (rd t (i : Int))) ?_ ?_)))
   ·unfold impl_TermFault_1_with.f
    rw [if_pos (by simp)]
    exact At1 (isNode_eq l (by omega) _) rfl
   ·rw [Ac7 (by omega)]
    by_cases h : (!Aj3 l (rd t (i : Int))) = true
    ·rw [if_pos h]; exact Aa6 h (Ab3 _)
    ·rw [if_neg h]; exact Ab7 h hr)
  t.length 0 (by omega)
 rw [Af5 (fun j => !Aj3 l (rd t (j : Int))) (fun j => (j : Int)) (-1)] at h
 refine Ab9 h (Ad3 (Ab3 _) ?_)
 unfold Av3
 cases Ad4 (fun j => !Aj3 l (rd t (j : Int))) t.length 0 with
 | none => rfl
 | some j => simp
theorem TermFault_impl (l : List S65) (t : List Int) (ht : t.length ≤ 1048576) : Ev (fun k => impl_TermFault.f k l t) (Am1 l t) := by
 unfold impl_TermFault.f Am1
 refine Ab9 (SignatureFault_impl l) (Aj9 (fun h => ?_) (fun h => Ab3 _))
 have hr := Al6 l h
 have hl := hr.len
 unfold Au2
 by_cases h1 : (t.length : Int) < 1
 ·rw [if_pos (.inl (by omega))]
  refine Aa6 h1 (Ac1 ?_)
  simp only [impl_TermFault.j0]
  exact Aa6 (by simp) (Ab3 _)
 refine Ab7 h1 (Ac1 ?_)
 simp only [impl_TermFault.j0]
 by_cases h2 : (t.length : Int) > 24
 ·rw [if_pos (.inr (by omega))]
  exact Aa6 (by simpa using h2) (Ab3 _)
 rw [if_neg (by omega)]
 refine Ab7 (by simpa using h2) (Ab9 (Term_bad l (by omega) t ht) (Aj9 (fun hb => Ab3 _) (fun hb => ?_)))
 have hn := Ar7 hb
 refine Ab9 (Ar1 l hr t ht hn 0 (by omega)) ?_
 by_cases he : Ai8 (arL l) t 1 0 = some t.length
 ·rw [he]; exact Aa6 rfl (Ad3 (Ab3 _) (if_pos rfl).symm)
 ·refine Ab7 ?_ (Ad3 (Ab3 _) (if_neg he).symm)
  cases hE : Ai8 (arL l) t 1 0 with
  | none => simp [Av4] <;> omega
  | some e =>
   intro k
   have : e = t.length := by simp only [Av4] at k; omega
   exact he (by rw [hE, this])
structure RightT (l : List S65) (t : List Int) : Prop where
 sig : Right l
 len : 1 ≤ t.length ∧ t.length ≤ 24
 nodes : Au0 l t
 whole : Ai8 (arL l) t 1 0 = some t.length
theorem An0 {l : List S65} {t : List Int} (h : Am1 l t = 0) : RightT l t := by
 unfold Am1 at h
 by_cases hs : At2 l = 0
 ·rw [if_pos hs] at h
  unfold Au2 at h
  by_cases h1 : t.length < 1 ∨ t.length > 24
  ·rw [if_pos h1] at h; cases h
  rw [if_neg h1] at h
  by_cases h2 : Av3 l t = true
  ·rw [if_pos h2] at h; cases h
  rw [if_neg h2] at h
  by_cases h3 : Ai8 (arL l) t 1 0 = some t.length
  ·exact ⟨Al6 l hs, by omega, Ar7 h2, h3⟩
  ·rw [if_neg h3] at h; cases h
 ·rw [if_neg hs] at h; exact absurd h hs
end Go.Proofs.YtgichahebemmiaaDoor.Pure
set_option linter.unusedVariables false
namespace Go.Proofs.YtgichahebemmiaaDoor.Pure
open Go.RowKit Go.Proofs.YtgichahebemmiaaDoor.P Go.Proofs.YtgichahebemmiaaDoorW.PrintWords Go.Proofs.YtgichahebemmiaaDoorW.PrintLast Go.Proofs.YtgichahebemmiaaDoor.Base
def sbL (l : List S65) (t : List Int) (i : Nat) : List Int := (t.take ((Ai8 (arL l) t 1 i).getD 0)).drop i
theorem Aj6 {l : List S65} {t : List Int} (h : RightT l t) {i : Nat} (hi : i < t.length) : ∃ e, Ai8 (arL l) t 1 i = some e ∧ i < e ∧ e ≤ t.length ∧ sbL l t i = (t.take e).drop i := by
 obtain ⟨e, he⟩ := endN_sub _ t h.whole i hi
 obtain ⟨_, h1, h2⟩ := Ak0 (by omega) he
 exact ⟨e, he, h1, h2, by unfold sbL; rw [he]; rfl⟩
theorem sbL_length {l : List S65} {t : List Int} (h : RightT l t) (i : Nat) : (sbL l t i).length ≤ 24 := by
 have := h.len
 unfold sbL
 simp only [List.length_drop, List.length_take]; omega
theorem At4 : ∀ u v : List Int, u.length = v.length → Av2 (fun x y => decide (x = y)) u v = decide (u = v)
 | [], [], _ => by simp [Av2]
 | x :: u, y :: v, h => by
  have ih := At4 u v (by simpa using h)
  rw [Av2]
  by_cases e : x = y
  ·rw [if_pos (by simpa using e), ih]; simp [e]
  ·rw [if_neg (by simpa using e)]; simp [e]
 | [], _ :: _, h => by simp at h
 | _ :: _, [], h => by simp at h
theorem sliceEq_ev (u v : List Int) (hu : u.length ≤ 1048576) : Ev (fun k => slices_Equal_int64_int64.f k u v) (decide (u = v)) := by
 unfold slices_Equal_int64_int64.f
 by_cases hl : u.length = v.length
 ·have := Ar8 (fun x y => decide (x = y)) u v hl (fun k i => slices_Equal_int64_int64.l0 k u v (u.length : Int) i)
   (fun k => by simp only [slices_Equal_int64_int64.l0]; exact if_neg (by omega))
   (fun i ha hb r hr => by
    simp only [slices_Equal_int64_int64.l0]
    refine Aa6 (by omega) (Aa6 (by omega) (Aa6 (by omega) (Aa6 (by omega) ?_)))
    rw [Ac7 (by omega), Ag4 u i ha, Ag4 v i hb]
    by_cases e : u[i] = v[i]
    ·exact Aa6 e (Ad3 hr (by simp [e]))
    ·exact Ab7 e (Ad3 (Ab3 _) (by simp [e])))
   u.length 0 (by omega)
  rw [List.drop_zero, List.drop_zero, At4 u v hl] at this
  exact Aa6 (by omega) this
 ·exact Ab7 (by omega) (Ad3 (Ab3 _) (by rw [decide_eq_false (fun e => hl (by rw [e]))]))
theorem l1Same_ev (u v : List Int) (hu : u.length ≤ 1048576) : Ev (fun k => spec_l1Same.f k u v) (decide (u = v)) := by
 unfold spec_l1Same.f
 by_cases hl : u.length = v.length
 ·have := Ar8 (fun x y => decide (x = y)) u v hl (fun k i => spec_l1Same.l0 k u v i)
   (fun k => by simp only [spec_l1Same.l0]; exact if_neg (by omega))
   (fun i ha hb r hr => by
    simp only [spec_l1Same.l0]
    refine Aa6 (by omega) (Aa6 (by omega) (Aa6 (by omega) ?_))
    rw [Ac7 (by omega), Ag4 u i ha, Ag4 v i hb]
    by_cases e : u[i] = v[i]
    ·exact Aa6 e (Ad3 hr (by simp [e]))
    ·exact Ab7 e (Ad3 (Ab3 _) (by simp [e])))
   u.length 0 (by omega)
  rw [List.drop_zero, List.drop_zero, At4 u v hl] at this
  exact Aa6 (by omega) this
 ·exact Ab7 (by omega) (Ad3 (Ab3 _) (by rw [decide_eq_false (fun e => hl (by rw [e]))]))
theorem cmpContains_ev (s : List Int) (hs : s.length ≤ 1048576) (x : Int) : Ev (fun k => slices_Contains_int64_int64.f k s x) (decide (x ∈ s)) := by
 unfold slices_Contains_int64_int64.f
 refine Ab9 (Ad3 (Ai2 s (by omega) x) (placeN_idx s x)) (Ad3 (Ab3 _) ?_)
 by_cases h : x ∈ s
 ·rw [if_pos h, decide_eq_true h]; exact decide_eq_true (by omega)
 ·rw [if_neg h, decide_eq_false h]; exact decide_eq_false (by omega)
theorem cmpCount_ev (t : List Int) (n : Int) (ht : t.length ≤ 1048576) : ∃ c : Nat, (0 < c ↔ n ∈ t) ∧ Ev (fun k => spec_l3Count.f k t n) (c : Int) := by
 have key : ∀ (d i c : Nat), i + d = t.length → c ≤ i → ∃ r : Nat, (c < r ↔ n ∈ t.drop i) ∧ c ≤ r ∧ Ev (fun k => spec_l3Count.l0 k t n (c : Int) (i : Int)) (r : Int) := by
  intro d
  induction d with
  | zero =>
   intro i c hi hc
   refine ⟨c, by rw [List.drop_eq_nil_of_le (by omega)]; simp, Nat.le_refl _, Ac1 ?_⟩
   simp only [spec_l3Count.l0]
   exact Ab7 (by omega) (Ab3 _)
  | succ d ih =>
   intro i c hi hc
   have hd := At8 t i (by omega)
   by_cases h : rd t (i : Int) = n
   ·obtain ⟨r, h1, h2, h3⟩ := ih (i + 1) (c + 1) (by omega) (by omega)
    refine ⟨r, ?_, by omega, Ac1 ?_⟩
    ·rw [hd, List.mem_cons]
     exact ⟨fun _ => .inl h.symm, fun _ => by omega⟩
    ·simp only [spec_l3Count.l0]
     refine Aa6 (by omega) (Aa6 (by omega) (Aa6 h ?_))
     rw [Ac7 (by omega), Ac7 (by omega)]
     exact h3
   ·obtain ⟨r, h1, h2, h3⟩ := ih (i + 1) c (by omega) (by omega)
    refine ⟨r, ?_, h2, Ac1 ?_⟩
    ·rw [hd, List.mem_cons, h1]
     exact ⟨.inr, fun q => q.resolve_left (fun e => h e.symm)⟩
    ·simp only [spec_l3Count.l0]
     refine Aa6 (by omega) (Aa6 (by omega) (Ab7 h ?_))
     rw [Ac7 (by omega)]
     exact h3
 obtain ⟨r, h1, _, h3⟩ := key t.length 0 0 (by omega) (by omega)
 exact ⟨r, by simpa using h1, h3⟩
theorem An4 {l : List S65} {t : List Int} (h : RightT l t) {i : Nat} (hi : i < t.length) : Ev (fun k => impl_subterm.f k l t (i : Int)) (sbL l t i) := by
 obtain ⟨e, he, h1, h2, hs⟩ := Aj6 h hi
 have hl := h.len
 have e2 := Ar1 l h.sig t (by omega) h.nodes i (by omega)
 rw [he] at e2
 unfold impl_subterm.f
 rw [hs]
 refine Ab9 e2 (Aa6 (by omega) (Aa6 (by simp only [Av4]; omega) (Aa6 (by simp only [Av4]; omega) ?_)))
 simp only [Av4, Int.toNat_natCast]
 exact Ab3 _
theorem cmpArgs_l0 (l : List S65) (hr : Right l) (t : List Int) (ht : t.length ≤ 1048576) (hn : Au0 l t) (n : Nat) : ∀ (m i e e' : Nat) (acc : List Int), i + m = n → n ≤ 2 → e ≤ t.length → Ai8 (arL l) t m e = some e' → acc.length ≤ 1000 + i →
  Ev (fun k => impl_argumentsOf.l0 k t acc (e : Int) (n : Int) (i : Int) l) (acc ++ (Ap1 (arL l) t m e).map fun p : Nat => (p : Int)) := by
 intro m
 induction m with
 | zero =>
  intro i e e' acc hi hn2 he hE hacc
  refine Ac1 ?_
  simp only [impl_argumentsOf.l0]
  refine Ab7 (by omega) (Ad3 (Ab3 _) ?_)
  simp [Ap1]
 | succ m ihm =>
  intro i e e' acc hi hn2 he hE hacc
  refine Ac1 ?_
  simp only [impl_argumentsOf.l0]
  rw [show m + 1 = 1 + m by omega, Ao7 _ _ 1 m e he] at hE
  cases h1 : Ai8 (arL l) t 1 e with
  | none => rw [h1] at hE; cases hE
  | some q =>
   rw [h1] at hE
   simp only [Option.bind_some] at hE
   obtain ⟨_, b1, b2⟩ := Ak0 he h1
   have hend := Ar1 l hr t ht hn e he
   rw [h1] at hend
   refine Aa6 (by omega) (Aa6 (by omega) (Ab9 hend ?_))
   rw [Ac7 (by omega), An5 h1]
   refine Ad3 (ihm (i + 1) q e' (acc ++ [(e : Int)]) (by omega) hn2 b2 hE (by simp; omega)) ?_
   simp
theorem cmpArgs_ev {l : List S65} {t : List Int} (h : RightT l t) {a : Nat} (ha : a < t.length) : Ev (fun k => impl_argumentsOf.f k l t (a : Int)) ((Ae2 (arL l) t a).map fun p : Nat => (p : Int)) := by
 obtain ⟨e, he, h1, h2, _⟩ := Aj6 h ha
 have hl := h.len
 unfold impl_argumentsOf.f
 refine Aa6 (by omega) (Aa6 (by omega) (Ae0 (arityOf_eq l h.sig _ (h.nodes a ha)) ?_))
 rw [Ac7 (by omega)]
 have := cmpArgs_l0 l h.sig t (by omega) h.nodes (arL l (rd t (a : Int))) (arL l (rd t (a : Int))) 0 (a + 1) e [] (by omega) (Ao2 h.sig (h.nodes a ha)) (by omega) (Ap8 ha he) (by simp)
 exact Ad3 this (by simp [Ae2])
theorem starts_ev {l : List S65} {t : List Int} (h : RightT l t) {a : Nat} (ha : a < t.length) (h0 : ¬ rd t (a : Int) < 0) : Ev (fun k => spec_l7Starts.f k [(⟨l⟩ : S32)] t (a : Int)) ((Ae2 (arL l) t a).map fun p : Nat => (p : Int)) := by
 obtain ⟨e, he, h1, h2, _⟩ := Aj6 h ha
 have hl := h.len
 have hx := Ao6 (h.nodes a ha) h0
 obtain ⟨hc, hc2⟩ := Ao5 h.sig (h.nodes a ha) h0
 have e0 : (Ad2 [(⟨l⟩ : S32)] 0).f0 = l := rfl
 have key : ∀ (m i q q' : Nat) (acc : List Int), i + m = arL l (rd t (a : Int)) → q ≤ t.length → Ai8 (arL l) t m q = some q' → acc.length ≤ 1000 + i →
   Ev (fun k => spec_l7Starts.l0 k [(⟨l⟩ : S32)] t (a : Int) acc (q : Int) (i : Int)) (acc ++ (Ap1 (arL l) t m q).map fun p : Nat => (p : Int)) := by
  intro m
  induction m with
  | zero =>
   intro i q q' acc hi hq hE hacc
   refine Ac1 ?_
   simp only [spec_l7Starts.l0, e0, List.length_singleton]
   refine Aa6 (by omega) (Aa6 (by omega) (Aa6 (by omega) (Aa6 (by omega) (Aa6 (by omega) (Ab7 (by omega) (Ad3 (Ab3 _) ?_))))))
   simp [Ap1]
  | succ m ihm =>
   intro i q q' acc hi hq hE hacc
   refine Ac1 ?_
   simp only [spec_l7Starts.l0, e0, List.length_singleton]
   rw [show m + 1 = 1 + m by omega, Ao7 _ _ 1 m q hq] at hE
   cases h1 : Ai8 (arL l) t 1 q with
   | none => rw [h1] at hE; cases hE
   | some q2 =>
    rw [h1] at hE
    simp only [Option.bind_some] at hE
    obtain ⟨_, b1, b2⟩ := Ak0 hq h1
    have hend := An1 l h.sig t (by omega) h.nodes (t.length - q) q (by omega)
    rw [h1] at hend
    refine Aa6 (by omega) (Aa6 (by omega) (Aa6 (by omega) (Aa6 (by omega) (Aa6 (by omega) (Aa6 (by omega) (Aa6 (by omega) (Ab9 hend ?_)))))))
    rw [Ac7 (by omega), An5 h1]
    refine Ad3 (ihm (i + 1) q2 q' (acc ++ [(q : Int)]) (by omega) b2 hE (by simp; omega)) ?_
    simp
 unfold spec_l7Starts.f
 rw [Ac7 (by omega)]
 have := key (arL l (rd t (a : Int))) 0 (a + 1) e [] (by omega) (by omega) (Ap8 ha he) (by simp)
 exact Ad3 this (by simp [Ae2])
theorem l7Equal_ev {l : List S65} {a b : List Int} (ha : RightT l a) (hb : RightT l b) {i j : Nat} (hi : i < a.length) (hj : j < b.length) : Ev (fun k => spec_l7Equal.f k [(⟨l⟩ : S32)] a (i : Int) b (j : Int)) (decide (sbL l a i = sbL l b j)) := by
 obtain ⟨e, he, h1, h2, hs⟩ := Aj6 ha hi
 obtain ⟨f, hf, h3, h4, ht⟩ := Aj6 hb hj
 have hla := ha.len
 have hlb := hb.len
 have e1 := An1 l ha.sig a (by omega) ha.nodes (a.length - i) i (by omega)
 have e2 := An1 l hb.sig b (by omega) hb.nodes (b.length - j) j (by omega)
 rw [he] at e1
 rw [hf] at e2
 rw [hs, ht]
 unfold spec_l7Equal.f
 have hsame := l1Same_ev ((a.take e).drop i) ((b.take f).drop j) (by simp only [List.length_drop, List.length_take]; omega)
 refine Ab9 e1 (Aa6 (by omega) (Aa6 (by simp only [As5]; omega) (Aa6 (by simp only [As5]; omega) (Ab9 e2 (Aa6 (by omega) (Aa6 (by simp only [As5]; omega) (Aa6 (by simp only [As5]; omega) ?_)))))))
 simp only [As5, Int.toNat_natCast]
 exact Ab9 hsame (Ab3 _)
theorem cmpSame_ev {l : List S65} {a b o : List Int} (ha : RightT l a) (hb : RightT l b) {i j : Nat} (hi : i < a.length) (hj : j < b.length) : Ev (fun k => impl_comparer_same.f k [(⟨⟨l⟩, o, a, b, 0⟩ : S79)] (i : Int) (j : Int)) (decide (sbL l a i = sbL l b j)) := by
 unfold impl_comparer_same.f
 have e0 : (Aa3 [(⟨⟨l⟩, o, a, b, 0⟩ : S79)] 0).f0.f0 = l := rfl
 have e2 : (Aa3 [(⟨⟨l⟩, o, a, b, 0⟩ : S79)] 0).f2 = a := rfl
 have e3 : (Aa3 [(⟨⟨l⟩, o, a, b, 0⟩ : S79)] 0).f3 = b := rfl
 rw [e0, e2, e3]
 exact Aa6 (by simp) (Ab9 (An4 ha hi) (Ab9 (An4 hb hj) (Ab9 (sliceEq_ev _ _ (by have := sbL_length ha i; omega)) (Ab3 _))))
theorem cmpRank_ev (o : List Int) (ho : o.length ≤ 1048576) (n : Int) : Ev (fun k => spec_l2Rank.f k o n) (Ai5 (fun j => n == rd o (j : Int)) o.length) := by
 unfold spec_l2Rank.f
 have h := Ad5 o.length (fun j => if (n == rd o (j : Int)) = true then some (j : Int) else none) (-1) (fun k i => spec_l2Rank.l0 k o n i)
  (by simp only [spec_l2Rank.l0]; exact Ab7 (by omega) (Ab3 _))
  (fun i hi r hr => by
   simp only [spec_l2Rank.l0]
   refine Aa6 (by omega) (Aa6 (by omega) ?_)
   rw [Ac7 (by omega)]
   by_cases h : rd o (i : Int) = n
   ·exact Aa6 h (Ad3 (Ab3 _) (by simp [h]))
   ·exact Ab7 h (Ad3 hr (by have h' : ¬ n = rd o (i : Int) := fun e => h e.symm; simp [h'])))
  o.length 0 (by omega)
 rw [Am3 (fun j => n == rd o (j : Int))] at h
 exact h
end Go.Proofs.YtgichahebemmiaaDoor.Pure
set_option linter.unusedVariables false
namespace Go.Proofs.YtgichahebemmiaaDoor.Pure
open Go.RowKit Go.Proofs.YtgichahebemmiaaDoor.P Go.Proofs.YtgichahebemmiaaDoorW.PrintWords Go.Proofs.YtgichahebemmiaaDoorW.PrintLast Go.Proofs.YtgichahebemmiaaDoor.Base
theorem cmp_unif (n : Nat) (P : Nat → Nat → Prop) (hmono : ∀ i K K', K ≤ K' → P i K → P i K') (h : ∀ i, i < n → ∃ K, P i K) : ∃ K, ∀ i, i < n → P i K := by
 induction n with
 | zero => exact ⟨0, fun i hi => by omega⟩
 | succ n ih =>
  obtain ⟨K, hK⟩ := ih (fun i hi => h i (by omega))
  obtain ⟨K', hK'⟩ := h n (by omega)
  refine ⟨max K K', fun i hi => ?_⟩
  by_cases e : i = n
  ·subst e; exact hmono _ _ _ (by omega) hK'
  ·exact hmono _ _ _ (by omega) (hK i (by omega))
theorem cmp_sym {l : List S65} {n : Int} (h : Aj3 l n = true) (h0 : ¬ n < 0) : An2 l n = true := by
 unfold Aj3 at h
 rw [Bool.or_eq_true] at h
 rcases h with h | h
 ·exact h
 ·have := of_decide_eq_true h; omega
theorem cmp_right {l : List S65} {o : List Int} (h : Ar3 l o = 0) : Right l ∧ Av8 l o = 0 := by
 unfold Ar3 at h
 by_cases hs : At2 l = 0
 ·rw [if_pos hs] at h; exact ⟨Al6 l hs, h⟩
 ·rw [if_neg hs] at h; exact absurd h hs
theorem As8 {l : List S65} {o : List Int} (h : Ar3 l o = 0) :
  o.length = l.length ∧ (∀ i, i < o.length → An2 l (rd o (i : Int)) = true) ∧ ∀ i j, i < o.length → j < i → rd o (i : Int) ≠ rd o (j : Int) := by
 obtain ⟨_, hg⟩ := cmp_right h
 unfold Av8 at hg
 by_cases hl : o.length = l.length
 ·rw [if_pos hl] at hg
  by_cases hb : (Ad4 (fun j => !An2 l (rd o (j : Int))) o.length 0).isSome = true
  ·rw [if_pos hb] at hg; cases hg
  ·rw [if_neg hb] at hg
   have h1 : Ad4 (fun j => !An2 l (rd o (j : Int))) o.length 0 = none := by
    cases hf : Ad4 (fun j => !An2 l (rd o (j : Int))) o.length 0 with
    | none => rfl
    | some j => rw [hf] at hb; exact absurd rfl hb
   refine ⟨hl, fun i hi => ?_, fun i j hi hj => ?_⟩
   ·have := (Ah9 o.length 0).1 h1 i (by omega) (by omega)
    simpa using this
   ·rcases scanN_cases (Ag5 o) 0 o.length 0 with ⟨h2, _⟩ | ⟨q, _, _, h3⟩
    ·have hi2 := h2 i (by omega) (by omega)
     unfold Ag5 at hi2
     by_cases hd : As0 o i = true
     ·rw [if_pos hd] at hi2; cases hi2
     unfold As0 at hd
     have h4 : Ad4 (fun j => rd o (i : Int) == rd o (j : Int)) i 0 = none := by
      cases hf : Ad4 (fun j => rd o (i : Int) == rd o (j : Int)) i 0 with
      | none => rfl
      | some j => rw [hf] at hd; exact absurd rfl hd
     have := (Ah9 i 0).1 h4 j (by omega) (by omega)
     simpa using this
    ·rw [hg] at h3
     unfold Ag5 at h3
     by_cases hd : As0 o q = true
     ·rw [if_pos hd] at h3; cases h3
     ·rw [if_neg hd] at h3; cases h3
 ·rw [if_neg hl] at hg; cases hg
theorem cmp_place {l : List S65} {o : List Int} (h : Ar3 l o = 0) {n : Int} (hn : An2 l n = true) :
  ∃ j, j < o.length ∧ Ai5 (fun j => n == rd o (j : Int)) o.length = (j : Int) ∧ rd o (j : Int) = n := by
 obtain ⟨hl, hs, hd⟩ := As8 h
 obtain ⟨h0, h1⟩ := Ap6 hn
 obtain ⟨q, hq, e⟩ := perm_place o (fun i hi => by
  have := Ap6 (hs i hi); omega) hd n h0 (by omega)
 rcases placeN_cases (fun j => n == rd o (j : Int)) o.length with ⟨_, h2⟩ | ⟨j, hj, h2, h3, _⟩
 ·have := h2 q hq
  simp [e] at this
 ·exact ⟨j, hj, h2, by simpa using (beq_iff_eq.1 h3).symm⟩
end Go.Proofs.YtgichahebemmiaaDoor.Pure
set_option linter.unusedVariables false
set_option linter.unusedSectionVars false
namespace Go.Proofs.YtgichahebemmiaaDoor.Pure
open Go.RowKit Go.Proofs.YtgichahebemmiaaDoor.P Go.Proofs.YtgichahebemmiaaDoorW.PrintWords Go.Proofs.YtgichahebemmiaaDoorW.PrintLast Go.Proofs.YtgichahebemmiaaDoor.Base
def Aq2 (l : List S65) (a b : List Int) (g : Nat → Nat → Bool) : List Nat → List Nat → Bool
 | p :: ps, q :: qs => if sbL l a p = sbL l b q then Aq2 l a b g ps qs else g p q
 | _, _ => false
def rkP (o : List Int) (n : Int) : Int := Ai5 (fun j => n == rd o (j : Int)) o.length
def At7 (l : List S65) (o a b : List Int) (g : Nat → Nat → Bool) (i j : Nat) : Bool :=
 if rd b (j : Int) < 0 then (if rd a (i : Int) ≥ 0 then decide (rd b (j : Int) ∈ sbL l a i) else false)
 else if rd a (i : Int) < 0 then false
 else if (Ae2 (arL l) a i).any (fun p => decide (sbL l a p = sbL l b j) || g p j) = true then true
 else if rkP o (rd a (i : Int)) < rkP o (rd b (j : Int)) then false
 else if (Ae2 (arL l) b j).all (fun q => g i q) = true then
  (if rd a (i : Int) = rd b (j : Int) then Aq2 l a b g (Ae2 (arL l) a i) (Ae2 (arL l) b j) else true)
 else false
def gB (l : List S65) (o a b : List Int) : Nat → Nat → Nat → Bool
 | 0, _, _ => false
 | f + 1, i, j => At7 l o a b (gB l o a b f) i j
def gT (l : List S65) (o a b : List Int) (i j : Nat) : Bool := gB l o a b (a.length + b.length) i j
theorem lexB_congr {l : List S65} {a b : List Int} {g g' : Nat → Nat → Bool} : ∀ ps qs : List Nat, (∀ p ∈ ps, ∀ q ∈ qs, g p q = g' p q) → Aq2 l a b g ps qs = Aq2 l a b g' ps qs
 | p :: ps, q :: qs, h => by
  rw [Aq2, Aq2, lexB_congr ps qs (fun x hx y hy => h x (by simp [hx]) y (by simp [hy])), h p (by simp) q (by simp)]
 | [], _, _ => by simp [Aq2]
 | _ :: _, [], _ => by simp [Aq2]
section
variable {l : List S65} {o a b : List Int} (ha : RightT l a) (hb : RightT l b)
include ha hb
theorem Aj5 {i : Nat} (hi : i < a.length) : ∀ p ∈ Ae2 (arL l) a i, i < p ∧ p < a.length := by
 obtain ⟨e, he, _⟩ := Aj6 ha hi
 exact fun p hp => ⟨((Ag0 hi he).2 p hp).1, ((Ag0 hi he).2 p hp).2.1⟩
theorem cellB_congr {g g' : Nat → Nat → Bool} {i j : Nat} (hi : i < a.length) (hj : j < b.length) (h : ∀ p q, p < a.length → q < b.length → i ≤ p → j ≤ q → i + j < p + q → g p q = g' p q) : At7 l o a b g i j = At7 l o a b g' i j := by
 have hA := Aj5 ha hb hi
 have hB := Aj5 hb ha hj
 unfold At7
 by_cases hy : rd b (j : Int) < 0
 ·rw [if_pos hy, if_pos hy]
 rw [if_neg hy, if_neg hy]
 have e1 : (Ae2 (arL l) a i).any (fun p => decide (sbL l a p = sbL l b j) || g p j) = (Ae2 (arL l) a i).any (fun p => decide (sbL l a p = sbL l b j) || g' p j) := by
  rw [Bool.eq_iff_iff, List.any_eq_true, List.any_eq_true]
  constructor
  ·rintro ⟨p, hp, h1⟩; exact ⟨p, hp, by rw [← h p j (hA p hp).2 hj (by have := hA p hp; omega) (Nat.le_refl _) (by have := hA p hp; omega)]; exact h1⟩
  ·rintro ⟨p, hp, h1⟩; exact ⟨p, hp, by rw [h p j (hA p hp).2 hj (by have := hA p hp; omega) (Nat.le_refl _) (by have := hA p hp; omega)]; exact h1⟩
 have e2 : (Ae2 (arL l) b j).all (fun q => g i q) = (Ae2 (arL l) b j).all (fun q => g' i q) := by
  rw [Bool.eq_iff_iff, List.all_eq_true, List.all_eq_true]
  constructor
  ·intro h1 q hq; rw [← h i q hi (hB q hq).2 (Nat.le_refl _) (by have := hB q hq; omega) (by have := hB q hq; omega)]; exact h1 q hq
  ·intro h1 q hq; rw [h i q hi (hB q hq).2 (Nat.le_refl _) (by have := hB q hq; omega) (by have := hB q hq; omega)]; exact h1 q hq
 have e3 := lexB_congr (l := l) (a := a) (b := b) (g := g) (g' := g') (Ae2 (arL l) a i) (Ae2 (arL l) b j) (fun p hp q hq => h p q (hA p hp).2 (hB q hq).2 (by have := hA p hp; omega) (by have := hB q hq; omega) (by have := hA p hp; have := hB q hq; omega))
 rw [e1, e2, e3]
theorem gB_more : ∀ (f g i j : Nat), i < a.length → j < b.length → a.length + b.length ≤ f + i + j → a.length + b.length ≤ g + i + j → gB l o a b f i j = gB l o a b g i j
 | 0, g, i, j, hi, hj, h1, h2 => by omega
 | f + 1, 0, i, j, hi, hj, h1, h2 => by omega
 | f + 1, g + 1, i, j, hi, hj, h1, h2 => by
  rw [gB, gB]
  exact cellB_congr ha hb hi hj (fun p q hp hq h3 h4 h5 => gB_more f g p q hp hq (by omega) (by omega))
theorem gT_eq {i j : Nat} (hi : i < a.length) (hj : j < b.length) : gT l o a b i j = At7 l o a b (gT l o a b) i j := by
 have e : gT l o a b i j = gB l o a b (a.length + b.length + 1) i j := gB_more ha hb _ _ i j hi hj (by omega) (by omega)
 rw [e, gB]
 rfl
end
def gM (l : List S65) (o a b : List Int) (m : Nat) (p q : Int) : Option Bool := if 0 ≤ p ∧ p < (a.length : Int) ∧ 0 ≤ q ∧ q < (b.length : Int) ∧ (m : Int) < p + q then some (gT l o a b p.toNat q.toNat) else none
section
variable {l : List S65} {o a b : List Int} (ha : RightT l a) (hb : RightT l b) (ho : Ar3 l o = 0)
include ha hb
theorem At5 {m p q : Nat} (hp : p < a.length) (hq : q < b.length) (h : m < p + q) : gM l o a b m (p : Int) (q : Int) = some (gT l o a b p q) := by
 unfold gM
 rw [if_pos (by omega)]
 simp
include ho
theorem isGr_l2 {i j : Nat} (hi : i < a.length) (hj : j < b.length) : ∀ (ps qs xs ys : List Nat), ps.length = qs.length → (Ae2 (arL l) a i) = xs ++ ps → (Ae2 (arL l) b j) = ys ++ qs → xs.length = ys.length →
  Ev (fun k => impl_comparer_isGreater.l2 (gM l o a b (i + j)) k [(⟨⟨l⟩, o, a, b, 0⟩ : S79)] ((Ae2 (arL l) b j).map fun p : Nat => (p : Int)) ((Ae2 (arL l) a i).map fun p : Nat => (p : Int)) (((Ae2 (arL l) a i).map fun p : Nat => (p : Int)).length : Int) (xs.length : Int)) (Aq2 l a b (gT l o a b) ps qs)
 | [], qs, xs, ys, h1, h2, h3, h4 => by
  refine Ac1 ?_
  simp only [impl_comparer_isGreater.l2]
  refine Ab7 (by rw [List.length_map, h2]; simp) (Ad3 (Ab3 _) (by cases qs <;> simp [Aq2]))
 | p :: ps, [], xs, ys, h1, h2, h3, h4 => by simp at h1
 | p :: ps, q :: qs, xs, ys, h1, h2, h3, h4 => by
  have hA := Aj5 ha hb hi
  have hB := Aj5 hb ha hj
  have hp := hA p (by rw [h2]; simp)
  have hq := hB q (by rw [h3]; simp)
  have ih := isGr_l2 hi hj ps qs (xs ++ [p]) (ys ++ [q]) (by simpa using h1) (by rw [h2]; simp) (by rw [h3]; simp) (by simp [h4])
  have hla : (Ae2 (arL l) a i).length ≤ 2 := by
   obtain ⟨e, he, _⟩ := Aj6 ha hi
   rw [(Ag0 hi he).1]; exact Ao2 ha.sig (ha.nodes i hi)
  have hl2 : xs.length + (ps.length + 1) ≤ 2 := by rw [h2] at hla; simpa using hla
  have r1 : rd ((Ae2 (arL l) a i).map fun p : Nat => (p : Int)) (xs.length : Int) = (p : Int) := by
   rw [Ag4 _ _ (by rw [h2]; simp)]; simp [h2]
  have r2 : rd ((Ae2 (arL l) b j).map fun p : Nat => (p : Int)) (xs.length : Int) = (q : Int) := by
   rw [h4, Ag4 _ _ (by rw [h3]; simp)]; simp [h3]
  refine Ac1 ?_
  simp only [impl_comparer_isGreater.l2]
  rw [r1, r2, Ac7 (by omega)]
  refine Aa6 (by rw [List.length_map, h2]; simp; omega) (Aa6 (by omega) (Aa6 (by rw [List.length_map, h2]; simp; omega) (Aa6 (by rw [List.length_map, h3, h4]; simp; omega) (Ab9 (cmpSame_ev ha hb hp.2 hq.2) ?_))))
  rw [Aq2]
  by_cases e : sbL l a p = sbL l b q
  ·rw [if_pos e]
   refine Aa6 (by simpa using e) ?_
   simpa using ih
  ·rw [if_neg e]
   exact Ab7 (by simpa using e) (Ae0 (At5 ha hb hp.2 hq.2 (by omega)) (Ab3 _))
theorem rank_facts {x y : Int} (hx : An2 l x = true) (hy : An2 l y = true) : ∃ p q : Nat, p < o.length ∧ q < o.length ∧ rkP o x = p ∧ rkP o y = q ∧ (p = q ↔ x = y) := by
 obtain ⟨p, hp, h1, h2⟩ := cmp_place ho hx
 obtain ⟨q, hq, h3, h4⟩ := cmp_place ho hy
 refine ⟨p, q, hp, hq, h1, h3, fun e => ?_, fun e => ?_⟩
 ·rw [← h2, ← h4, e]
 ·subst e
  have : ((p : Nat) : Int) = (q : Int) := h1.symm.trans h3
  omega
theorem isGr_ev {i j : Nat} (hi : i < a.length) (hj : j < b.length) : Ev (fun k => impl_comparer_isGreater.f (gM l o a b (i + j)) k [(⟨⟨l⟩, o, a, b, 0⟩ : S79)] (i : Int) (j : Int)) (gT l o a b i j) := by
 have e0 : (Aa3 [(⟨⟨l⟩, o, a, b, 0⟩ : S79)] 0).f0.f0 = l := rfl
 have e1 : (Aa3 [(⟨⟨l⟩, o, a, b, 0⟩ : S79)] 0).f1 = o := rfl
 have e2 : (Aa3 [(⟨⟨l⟩, o, a, b, 0⟩ : S79)] 0).f2 = a := rfl
 have e3 : (Aa3 [(⟨⟨l⟩, o, a, b, 0⟩ : S79)] 0).f3 = b := rfl
 have hla := ha.len
 have hlb := hb.len
 have hol : o.length ≤ 6 := by have := (As8 ho).1; have := ha.sig.len; omega
 have hA := Aj5 ha hb hi
 have hB := Aj5 hb ha hj
 rw [gT_eq ha hb hi hj]
 unfold impl_comparer_isGreater.f At7
 rw [e0, e2, e3]
 refine Aa6 (by simp) (Aa6 (by omega) (Aa6 (by omega) (Aa6 (by omega) (Aa6 (by omega) ?_))))
 by_cases hy : rd b (j : Int) < 0
 ·rw [if_pos hy]
  refine Aa6 hy ?_
  by_cases hx : rd a (i : Int) ≥ 0
  ·rw [if_pos hx]
   exact Aa6 hx (Ab9 (An4 ha hi) (Ab9 (cmpContains_ev _ (by have := sbL_length ha i; omega) _) (Ab3 _)))
  ·rw [if_neg hx]; exact Ab7 hx (Ab3 _)
 rw [if_neg hy]
 refine Ab7 hy ?_
 by_cases hx : rd a (i : Int) < 0
 ·rw [if_pos hx]; exact Aa6 hx (Ab3 _)
 rw [if_neg hx]
 refine Ab7 hx (Ab9 (cmpArgs_ev ha hi) (Ab9 (cmpArgs_ev hb hj) ?_))
 obtain ⟨xs, hxs⟩ : ∃ xs, xs = Ae2 (arL l) a i := ⟨_, rfl⟩
 obtain ⟨ys, hys⟩ : ∃ ys, ys = Ae2 (arL l) b j := ⟨_, rfl⟩
 have hlx : xs.length = arL l (rd a (i : Int)) ∧ xs.length ≤ 2 := by
  obtain ⟨e, he, _⟩ := Aj6 ha hi
  rw [hxs, (Ag0 hi he).1]; exact ⟨rfl, Ao2 ha.sig (ha.nodes i hi)⟩
 have hly : ys.length = arL l (rd b (j : Int)) ∧ ys.length ≤ 2 := by
  obtain ⟨e, he, _⟩ := Aj6 hb hj
  rw [hys, (Ag0 hj he).1]; exact ⟨rfl, Ao2 hb.sig (hb.nodes j hj)⟩
 have hsx : An2 l (rd a (i : Int)) = true := cmp_sym (ha.nodes i hi) hx
 have hsy : An2 l (rd b (j : Int)) = true := cmp_sym (hb.nodes j hj) hy
 obtain ⟨rp, rq, hrp, hrq, er1, er2, hiff⟩ := rank_facts ha hb ho hsx hsy
 have h2 : ∀ hxy : rd a (i : Int) = rd b (j : Int), Ev (fun k => impl_comparer_isGreater.l2 (gM l o a b (i + j)) k [(⟨⟨l⟩, o, a, b, 0⟩ : S79)] (ys.map fun p : Nat => (p : Int)) (xs.map fun p : Nat => (p : Int)) ((xs.map fun p : Nat => (p : Int)).length : Int) 0) (Aq2 l a b (gT l o a b) xs ys) := by
  intro hxy
  have := isGr_l2 ha hb ho hi hj xs ys [] [] (by rw [hlx.1, hly.1, hxy]) (by rw [← hxs]; simp) (by rw [← hys]; simp) rfl
  rw [← hxs, ← hys] at this
  simpa using this
 rw [← hxs, ← hys]
 rw [← hxs] at hA
 rw [← hys] at hB
 -- what comes behind the second loop
 have h1 : ∀ (d n : Nat), n + d = ys.length → Ev (fun k => impl_comparer_isGreater.l1 (gM l o a b (i + j)) k [(⟨⟨l⟩, o, a, b, 0⟩ : S79)] (i : Int) (xs.map fun p : Nat => (p : Int)) (ys.map fun p : Nat => (p : Int)) ((rp : Int) - rq) (ys.map fun p : Nat => (p : Int)) ((ys.map fun p : Nat => (p : Int)).length : Int) (n : Int))
   (if (ys.drop n).all (fun q => gT l o a b i q) = true then (if (rp : Int) - rq > 0 then true else Aq2 l a b (gT l o a b) xs ys) else false) ∨ ¬ ((rp : Int) - rq > 0) ∧ rp ≠ rq := by
  by_cases hcase : ¬ ((rp : Int) - rq > 0) ∧ rp ≠ rq
  ·exact fun _ _ _ => .inr hcase
  intro d
  induction d with
  | zero =>
   intro n hn
   refine .inl (Ac1 ?_)
   simp only [impl_comparer_isGreater.l1]
   rw [List.drop_eq_nil_of_le (by omega)]
   refine Ab7 (by rw [List.length_map]; omega) ?_
   simp only [List.all_nil, if_true]
   by_cases hg : (rp : Int) - rq > 0
   ·rw [if_pos hg]; exact Aa6 hg (Ab3 _)
   ·rw [if_neg hg]
    have he : rp = rq := by omega
    exact Ab7 hg (h2 (hiff.1 he))
  | succ d ih =>
   intro n hn
   have hn2 : n < ys.length := by omega
   have hq := hB _ (List.getElem_mem hn2)
   rcases ih (n + 1) (by omega) with ih | ih
   ·refine .inl (Ac1 ?_)
    simp only [impl_comparer_isGreater.l1]
    have r1 : rd (ys.map fun p : Nat => (p : Int)) (n : Int) = (ys[n] : Int) := by rw [Ag4 _ _ (by simpa using hn2)]; simp
    rw [r1, Ac7 (by omega), List.drop_eq_getElem_cons hn2, List.all_cons]
    refine Aa6 (by rw [List.length_map]; omega) (Aa6 (by omega) (Aa6 (by rw [List.length_map]; omega) (Ae0 (At5 ha hb hi hq.2 (by omega)) ?_)))
    by_cases hg : gT l o a b i ys[n] = true
    ·rw [hg, Bool.true_and]
     exact Aa6 rfl ih
    ·have hg' : gT l o a b i ys[n] = false := by simpa using hg
     rw [hg', Bool.false_and, if_neg (by simp)]
     exact Ab7 (by simp) (Ab3 _)
   ·exact .inr ih
 -- behind the first loop
 have hrest : Ev (fun k => if 0 < ([(⟨⟨l⟩, o, a, b, 0⟩ : S79)].length : Int) then ((slices_Index_int64_int64.f k o (rd a (i : Int))).bind fun t175 => ((slices_Index_int64_int64.f k o (rd b (j : Int))).bind fun t178 => (if (wrap64 (t175 - t178)) < 0 then (some false) else (impl_comparer_isGreater.l1 (gM l o a b (i + j)) k [(⟨⟨l⟩, o, a, b, 0⟩ : S79)] (i : Int) (xs.map fun p : Nat => (p : Int)) (ys.map fun p : Nat => (p : Int)) (wrap64 (t175 - t178)) (ys.map fun p : Nat => (p : Int)) ((ys.map fun p : Nat => (p : Int)).length : Int) 0)))) else none)
   (if rkP o (rd a (i : Int)) < rkP o (rd b (j : Int)) then false else if ys.all (fun q => gT l o a b i q) = true then (if rd a (i : Int) = rd b (j : Int) then Aq2 l a b (gT l o a b) xs ys else true) else false) := by
  refine Aa6 (by simp) (Ab9 (Ai2 o (by omega) _) (Ab9 (Ai2 o (by omega) _) ?_))
  have er1' : Ai5 (fun j => rd a (i : Int) == rd o (j : Int)) o.length = rp := er1
  have er2' : Ai5 (fun q => rd b (j : Int) == rd o (q : Int)) o.length = rq := er2
  rw [er1', er2', er1, er2, Ag9 (by omega) (by omega)]
  by_cases hlt : (rp : Int) < rq
  ·rw [if_pos hlt]; exact Aa6 (by omega) (Ab3 _)
  rw [if_neg hlt]
  refine Ab7 (by omega) ?_
  rcases h1 ys.length 0 (by omega) with h1 | h1
  ·rw [List.drop_zero] at h1
   refine Ad3 h1 ?_
   by_cases hall : ys.all (fun q => gT l o a b i q) = true
   ·rw [if_pos hall, if_pos hall]
    by_cases hxy : rd a (i : Int) = rd b (j : Int)
    ·rw [if_pos hxy, if_neg (by have := hiff.2 hxy; omega)]
    ·rw [if_neg hxy, if_pos (by have : rp ≠ rq := fun e => hxy (hiff.1 e); omega)]
   ·rw [if_neg hall, if_neg hall]
  ·omega
 have h0 : ∀ (d n : Nat), n + d = xs.length → Ev (fun k => impl_comparer_isGreater.l0 (gM l o a b (i + j)) k [(⟨⟨l⟩, o, a, b, 0⟩ : S79)] (i : Int) (j : Int) (rd a (i : Int)) (rd b (j : Int)) (xs.map fun p : Nat => (p : Int)) (ys.map fun p : Nat => (p : Int)) (xs.map fun p : Nat => (p : Int)) ((xs.map fun p : Nat => (p : Int)).length : Int) (n : Int))
   (if (xs.drop n).any (fun p => decide (sbL l a p = sbL l b j) || gT l o a b p j) = true then true else (if rkP o (rd a (i : Int)) < rkP o (rd b (j : Int)) then false else if ys.all (fun q => gT l o a b i q) = true then (if rd a (i : Int) = rd b (j : Int) then Aq2 l a b (gT l o a b) xs ys else true) else false)) := by
  intro d
  induction d with
  | zero =>
   intro n hn
   refine Ac1 ?_
   simp only [impl_comparer_isGreater.l0]
   rw [List.drop_eq_nil_of_le (by omega), e1]
   refine Ab7 (by rw [List.length_map]; omega) ?_
   simp only [List.any_nil, Bool.false_eq_true, if_false]
   exact hrest
  | succ d ih =>
   intro n hn
   have hn2 : n < xs.length := by omega
   have hp := hA _ (List.getElem_mem hn2)
   refine Ac1 ?_
   simp only [impl_comparer_isGreater.l0]
   have r1 : rd (xs.map fun p : Nat => (p : Int)) (n : Int) = (xs[n] : Int) := by rw [Ag4 _ _ (by simpa using hn2)]; simp
   rw [r1, Ac7 (by omega), List.drop_eq_getElem_cons hn2, List.any_cons]
   refine Aa6 (by rw [List.length_map]; omega) (Aa6 (by omega) (Aa6 (by rw [List.length_map]; omega) (Ab9 (cmpSame_ev ha hb hp.2 hj) ?_)))
   by_cases he : sbL l a xs[n] = sbL l b j
   ·refine Aa6 (by simpa using he) (Ad3 (Ab3 _) ?_)
    rw [if_pos (by simp [he])]
   ·refine Ab7 (by simpa using he) (Ae0 (At5 ha hb hp.2 hj (by omega)) ?_)
    by_cases hg : gT l o a b xs[n] j = true
    ·refine Aa6 hg (Ad3 (Ab3 _) ?_)
     rw [if_pos (by simp [hg])]
    ·refine Ab7 hg (Ad3 (ih (n + 1) (by omega)) ?_)
     have hg' : gT l o a b xs[n] j = false := by simpa using hg
     simp [he, hg']
 have := h0 xs.length 0 (by omega)
 rw [List.drop_zero] at this
 exact this
theorem greater_ev : ∀ (d i j : Nat), a.length + b.length ≤ d + i + j → i < a.length → j < b.length → ∃ K, ∀ k, K ≤ k → impl_comparer_greater.f k [(⟨⟨l⟩, o, a, b, 0⟩ : S79)] (i : Int) (j : Int) = some (gT l o a b i j) := by
 intro d
 induction d with
 | zero => intro i j h hi hj; omega
 | succ d ih =>
  intro i j h hi hj
  have hla := ha.len
  have hlb := hb.len
  -- one number of rounds for all pairs further on
  obtain ⟨K, hK⟩ := cmp_unif a.length (fun p K => ∀ q, q < b.length → a.length + b.length ≤ d + p + q → ∀ k, K ≤ k → impl_comparer_greater.f k [(⟨⟨l⟩, o, a, b, 0⟩ : S79)] (p : Int) (q : Int) = some (gT l o a b p q))
   (fun p K K' hKK hP q hq hm k hk => hP q hq hm k (by omega)) (fun p hp => by
    obtain ⟨K, hK⟩ := cmp_unif b.length (fun q K => a.length + b.length ≤ d + p + q → ∀ k, K ≤ k → impl_comparer_greater.f k [(⟨⟨l⟩, o, a, b, 0⟩ : S79)] (p : Int) (q : Int) = some (gT l o a b p q))
     (fun q K K' hKK hP hm k hk => hP hm k (by omega)) (fun q hq => by
      by_cases hm : a.length + b.length ≤ d + p + q
      ·obtain ⟨K, hK⟩ := ih p q hm hp hq
       exact ⟨K, fun _ => hK⟩
      ·exact ⟨0, fun h => absurd h hm⟩)
    exact ⟨K, fun q hq => hK q hq⟩)
  obtain ⟨N, hN⟩ := isGr_ev ha hb ho hi hj
  refine ⟨max K (N + 1) + 1, fun k hk => ?_⟩
  obtain ⟨k, rfl⟩ : ∃ m, k = m + 1 := ⟨k - 1, by omega⟩
  obtain ⟨k', rfl⟩ : ∃ m, k = m + 1 := ⟨k - 1, by omega⟩
  rw [impl_comparer_greater.f_succ, if_pos (by omega)]
  refine impl_comparer_isGreater.mono (g := gM l o a b (i + j)) (fun p q r hr => ?_) _ _ _ k' _ (hN k' (by omega))
  unfold gM at hr
  by_cases hc : 0 ≤ p ∧ p < (a.length : Int) ∧ 0 ≤ q ∧ q < (b.length : Int) ∧ ((i + j : Nat) : Int) < p + q
  ·rw [if_pos hc] at hr
   obtain ⟨p', rfl⟩ : ∃ n : Nat, p = n := ⟨p.toNat, by omega⟩
   obtain ⟨q', rfl⟩ : ∃ n : Nat, q = n := ⟨q.toNat, by omega⟩
   rw [hK p' (by omega) q' (by omega) (by omega) (k' + 1) (by omega)]
   simpa using hr
  ·rw [if_neg hc] at hr; cases hr
theorem isGreater_ev : Ev (fun k => impl_isGreater.f k l o a b) (gT l o a b 0 0) := by
 have hla := ha.len
 have hlb := hb.len
 obtain ⟨K, hK⟩ := greater_ev ha hb ho (a.length + b.length) 0 0 (by omega) (by omega) (by omega)
 exact ⟨K, fun k hk => hK k hk⟩
end
end Go.Proofs.YtgichahebemmiaaDoor.Pure
set_option linter.unusedVariables false
set_option linter.unusedSectionVars false
namespace Go.Proofs.YtgichahebemmiaaDoor.Pure
open Go.RowKit Go.Proofs.YtgichahebemmiaaDoor.P Go.Proofs.YtgichahebemmiaaDoorW.PrintWords Go.Proofs.YtgichahebemmiaaDoorW.PrintLast Go.Proofs.YtgichahebemmiaaDoor.Base
theorem tab_idx {p q m n : Nat} (hp : p < m) (hq : q < n) (hm : m ≤ 24) (hn : n ≤ 24) : wrap64 (wrap64 ((p : Int) * (n : Int)) + (q : Int)) = ((p * n + q : Nat) : Int) ∧ p * n + q < m * n ∧ p * n ≤ 576 := by
 have h1 : (p + 1) * n ≤ m * n := Nat.mul_le_mul_right _ hp
 rw [Nat.succ_mul] at h1
 have h2 : p * n ≤ 24 * 24 := Nat.mul_le_mul (by omega) hn
 refine ⟨?_, by omega, by omega⟩
 have e : (p : Int) * (n : Int) = ((p * n : Nat) : Int) := by push_cast; rfl
 rw [e, Ag9 (x := ((p * n : Nat) : Int)) (by omega) (by omega), Ag9 (by omega) (by omega)]
 push_cast; rfl
theorem rdOf_nat (T : List Bool) (n : Nat) : An9 false T (n : Int) = T.getD n false := by
 unfold An9
 rw [Int.toNat_natCast]
def Aq4 (l : List S65) (o a b : List Int) (T : List Bool) (n : Nat) : Prop := T.length = a.length * b.length ∧ ∀ p q, p < a.length → q < b.length → n ≤ p * b.length + q → T.getD (p * b.length + q) false = gT l o a b p q
section
variable {l : List S65} {o a b : List Int} (ha : RightT l a) (hb : RightT l b) (ho : Ar3 l o = 0)
include ha hb ho
theorem Au6 {T : List Bool} {n : Nat} (hT : Aq4 l o a b T n) {p q : Nat} (hp : p < a.length) (hq : q < b.length) (h : n ≤ p * b.length + q) :
  0 ≤ wrap64 (wrap64 ((p : Int) * (b.length : Int)) + (q : Int)) ∧ wrap64 (wrap64 ((p : Int) * (b.length : Int)) + (q : Int)) < (T.length : Int) ∧ An9 false T (wrap64 (wrap64 ((p : Int) * (b.length : Int)) + (q : Int))) = gT l o a b p q := by
 obtain ⟨e, h1, _⟩ := tab_idx hp hq ha.len.2 hb.len.2
 rw [e, rdOf_nat, hT.1]
 exact ⟨by omega, by omega, hT.2 p q hp hq h⟩
theorem cell_l2 {T : List Bool} {i j : Nat} (hi : i < a.length) (hj : j < b.length) (hT : Aq4 l o a b T (i * b.length + j + 1)) : ∀ (ps qs xs ys : List Nat), ps.length = qs.length → (Ae2 (arL l) a i) = xs ++ ps → (Ae2 (arL l) b j) = ys ++ qs → xs.length = ys.length →
  Ev (fun k => spec_l7Cell.l2 k [(⟨l⟩ : S32)] a b T (b.length : Int) ((Ae2 (arL l) a i).map fun p : Nat => (p : Int)) ((Ae2 (arL l) b j).map fun p : Nat => (p : Int)) (xs.length : Int)) (Aq2 l a b (gT l o a b) ps qs)
 | [], qs, xs, ys, h1, h2, h3, h4 => by
  refine Ac1 ?_
  simp only [spec_l7Cell.l2]
  refine Ab7 (by rw [List.length_map, h2]; simp) (Ac1 ?_)
  simp only [spec_l7Cell.j3]
  exact Ab7 (by simp) (Ad3 (Ab3 _) (by cases qs <;> simp [Aq2]))
 | p :: ps, [], xs, ys, h1, h2, h3, h4 => by simp at h1
 | p :: ps, q :: qs, xs, ys, h1, h2, h3, h4 => by
  have hA := Aj5 ha hb hi
  have hB := Aj5 hb ha hj
  have hp := hA p (by rw [h2]; simp)
  have hq := hB q (by rw [h3]; simp)
  have ih := cell_l2 hi hj hT ps qs (xs ++ [p]) (ys ++ [q]) (by simpa using h1) (by rw [h2]; simp) (by rw [h3]; simp) (by simp [h4])
  have hla : (Ae2 (arL l) a i).length ≤ 2 := by
   obtain ⟨e, he, _⟩ := Aj6 ha hi
   rw [(Ag0 hi he).1]; exact Ao2 ha.sig (ha.nodes i hi)
  have hl2 : xs.length + (ps.length + 1) ≤ 2 := by rw [h2] at hla; simpa using hla
  have r1 : rd ((Ae2 (arL l) a i).map fun p : Nat => (p : Int)) (xs.length : Int) = (p : Int) := by
   rw [Ag4 _ _ (by rw [h2]; simp)]; simp [h2]
  have r2 : rd ((Ae2 (arL l) b j).map fun p : Nat => (p : Int)) (xs.length : Int) = (q : Int) := by
   rw [h4, Ag4 _ _ (by rw [h3]; simp)]; simp [h3]
  have hm : (i + 1) * b.length ≤ p * b.length := Nat.mul_le_mul_right _ hp.1
  rw [Nat.succ_mul] at hm
  obtain ⟨t1, t2, t3⟩ := Au6 ha hb ho hT hp.2 hq.2 (by omega)
  refine Ac1 ?_
  simp only [spec_l7Cell.l2]
  refine Aa6 (by rw [List.length_map, h2]; simp; omega) (Ac1 ?_)
  simp only [spec_l7Cell.j3]
  rw [r1, r2, Ac7 (by omega)]
  refine Aa6 (decide_eq_true (by rw [List.length_map, h3, h4]; simp; omega)) (Aa6 (by omega) (Aa6 (by rw [List.length_map, h2]; simp; omega) (Aa6 (by rw [List.length_map, h3, h4]; simp; omega) (Ab9 (l7Equal_ev ha hb hp.2 hq.2) ?_))))
  rw [Aq2]
  by_cases e : sbL l a p = sbL l b q
  ·rw [if_pos e]
   refine Aa6 (by simpa using e) ?_
   simpa using ih
  ·rw [if_neg e]
   exact Ab7 (by simpa using e) (Aa6 t1 (Aa6 t2 (Ad3 (Ab3 _) t3)))
theorem cell_ev {T : List Bool} {i j : Nat} (hi : i < a.length) (hj : j < b.length) (hT : Aq4 l o a b T (i * b.length + j + 1)) : Ev (fun k => spec_l7Cell.f k [(⟨l⟩ : S32)] o a b (i : Int) (j : Int) T) (gT l o a b i j) := by
 have hla := ha.len
 have hlb := hb.len
 have hol : o.length ≤ 6 := by have := (As8 ho).1; have := ha.sig.len; omega
 have hA := Aj5 ha hb hi
 have hB := Aj5 hb ha hj
 rw [gT_eq ha hb hi hj]
 unfold spec_l7Cell.f At7
 refine Aa6 (by omega) (Aa6 (by omega) ?_)
 by_cases hy : rd b (j : Int) < 0
 ·rw [if_pos hy]
  refine Aa6 hy (Aa6 (by omega) (Aa6 (by omega) ?_))
  by_cases hx : rd a (i : Int) ≥ 0
  ·rw [if_pos hx]
   obtain ⟨e, he, h1, h2, hs⟩ := Aj6 ha hi
   have e1 := An1 l ha.sig a (by omega) ha.nodes (a.length - i) i (by omega)
   rw [he] at e1
   obtain ⟨c, hc, hcev⟩ := cmpCount_ev ((a.take e).drop i) (rd b (j : Int)) (by simp only [List.length_drop, List.length_take]; omega)
   refine Aa6 hx (Ab9 e1 (Aa6 (by simp only [As5]; omega) (Aa6 (by simp only [As5]; omega) ?_)))
   simp only [As5, Int.toNat_natCast]
   refine Ab9 hcev (Ad3 (Ab3 _) ?_)
   rw [hs]
   by_cases hm : rd b (j : Int) ∈ (a.take e).drop i
   ·rw [decide_eq_true hm]; exact decide_eq_true (by have := hc.2 hm; omega)
   ·rw [decide_eq_false hm]; exact decide_eq_false (fun h => hm (hc.1 (by omega)))
  ·rw [if_neg hx]; exact Ab7 hx (Ab3 _)
 rw [if_neg hy]
 refine Ab7 hy (Aa6 (by omega) (Aa6 (by omega) ?_))
 by_cases hx : rd a (i : Int) < 0
 ·rw [if_pos hx]; exact Aa6 hx (Ab3 _)
 rw [if_neg hx]
 refine Ab7 hx (Ab9 (starts_ev ha hi hx) ?_)
 obtain ⟨xs, hxs⟩ : ∃ xs, xs = Ae2 (arL l) a i := ⟨_, rfl⟩
 obtain ⟨ys, hys⟩ : ∃ ys, ys = Ae2 (arL l) b j := ⟨_, rfl⟩
 have hlx : xs.length = arL l (rd a (i : Int)) ∧ xs.length ≤ 2 := by
  obtain ⟨e, he, _⟩ := Aj6 ha hi
  rw [hxs, (Ag0 hi he).1]; exact ⟨rfl, Ao2 ha.sig (ha.nodes i hi)⟩
 have hly : ys.length = arL l (rd b (j : Int)) ∧ ys.length ≤ 2 := by
  obtain ⟨e, he, _⟩ := Aj6 hb hj
  rw [hys, (Ag0 hj he).1]; exact ⟨rfl, Ao2 hb.sig (hb.nodes j hj)⟩
 have h2 : ∀ hxy : rd a (i : Int) = rd b (j : Int), Ev (fun k => spec_l7Cell.l2 k [(⟨l⟩ : S32)] a b T (b.length : Int) (xs.map fun p : Nat => (p : Int)) (ys.map fun p : Nat => (p : Int)) 0) (Aq2 l a b (gT l o a b) xs ys) := by
  intro hxy
  have := cell_l2 ha hb ho hi hj hT xs ys [] [] (by rw [hlx.1, hly.1, hxy]) (by rw [← hxs]; simp) (by rw [← hys]; simp) rfl
  rw [← hxs, ← hys] at this
  simpa using this
 have hst := starts_ev hb hj hy
 rw [← hys] at hst
 rw [← hxs, ← hys]
 rw [← hxs] at hA
 rw [← hys] at hB
 have h1 : ∀ (d n : Nat), n + d = ys.length → Ev (fun k => spec_l7Cell.l1 k [(⟨l⟩ : S32)] a b (i : Int) (j : Int) T (b.length : Int) (xs.map fun p : Nat => (p : Int)) (ys.map fun p : Nat => (p : Int)) (n : Int))
   (if (ys.drop n).all (fun q => gT l o a b i q) = true then (if rd a (i : Int) = rd b (j : Int) then Aq2 l a b (gT l o a b) xs ys else true) else false) := by
  intro d
  induction d with
  | zero =>
   intro n hn
   refine Ac1 ?_
   simp only [spec_l7Cell.l1]
   rw [List.drop_eq_nil_of_le (by omega)]
   refine Ab7 (by rw [List.length_map]; omega) (Aa6 (by omega) (Aa6 (by omega) (Aa6 (by omega) (Aa6 (by omega) ?_))))
   simp only [List.all_nil, if_true]
   by_cases hxy : rd a (i : Int) = rd b (j : Int)
   ·rw [if_pos hxy]; exact Aa6 hxy (h2 hxy)
   ·rw [if_neg hxy]; exact Ab7 hxy (Ab3 _)
  | succ d ih =>
   intro n hn
   have hn2 : n < ys.length := by omega
   have hq := hB _ (List.getElem_mem hn2)
   obtain ⟨t1, t2, t3⟩ := Au6 ha hb ho hT hi hq.2 (by omega)
   refine Ac1 ?_
   simp only [spec_l7Cell.l1]
   have r1 : rd (ys.map fun p : Nat => (p : Int)) (n : Int) = (ys[n] : Int) := by rw [Ag4 _ _ (by simpa using hn2)]; simp
   rw [r1, Ac7 (by omega), List.drop_eq_getElem_cons hn2, List.all_cons, t3]
   refine Aa6 (by rw [List.length_map]; omega) (Aa6 (by omega) (Aa6 t1 (Aa6 t2 ?_)))
   by_cases hg : gT l o a b i ys[n] = true
   ·rw [hg, Bool.true_and]
    exact Aa6 rfl (ih (n + 1) (by omega))
   ·have hg' : gT l o a b i ys[n] = false := by simpa using hg
    rw [hg', Bool.false_and, if_neg (by simp)]
    exact Ab7 (by simp) (Ab3 _)
 have h0 : ∀ (d n : Nat), n + d = xs.length → Ev (fun k => spec_l7Cell.l0 k [(⟨l⟩ : S32)] o a b (i : Int) (j : Int) T (b.length : Int) (xs.map fun p : Nat => (p : Int)) (n : Int))
   (if (xs.drop n).any (fun p => decide (sbL l a p = sbL l b j) || gT l o a b p j) = true then true else (if rkP o (rd a (i : Int)) < rkP o (rd b (j : Int)) then false else if ys.all (fun q => gT l o a b i q) = true then (if rd a (i : Int) = rd b (j : Int) then Aq2 l a b (gT l o a b) xs ys else true) else false)) := by
  intro d
  induction d with
  | zero =>
   intro n hn
   refine Ac1 ?_
   simp only [spec_l7Cell.l0]
   rw [List.drop_eq_nil_of_le (by omega)]
   refine Ab7 (by rw [List.length_map]; omega) (Aa6 (by omega) (Aa6 (by omega) (Ab9 (cmpRank_ev o (by omega) _) (Aa6 (by omega) (Aa6 (by omega) (Ab9 (cmpRank_ev o (by omega) _) ?_))))))
   simp only [List.any_nil, Bool.false_eq_true, if_false]
   by_cases hlt : rkP o (rd a (i : Int)) < rkP o (rd b (j : Int))
   ·rw [if_pos hlt]; exact Aa6 hlt (Ab3 _)
   ·rw [if_neg hlt]
    refine Ab7 hlt (Ab9 hst ?_)
    have := h1 ys.length 0 (by omega)
    rwa [List.drop_zero] at this
  | succ d ih =>
   intro n hn
   have hn2 : n < xs.length := by omega
   have hp := hA _ (List.getElem_mem hn2)
   have hm : (i + 1) * b.length ≤ xs[n] * b.length := Nat.mul_le_mul_right _ hp.1
   rw [Nat.succ_mul] at hm
   obtain ⟨t1, t2, t3⟩ := Au6 ha hb ho hT hp.2 hj (by omega)
   refine Ac1 ?_
   simp only [spec_l7Cell.l0]
   have r1 : rd (xs.map fun p : Nat => (p : Int)) (n : Int) = (xs[n] : Int) := by rw [Ag4 _ _ (by simpa using hn2)]; simp
   rw [r1, Ac7 (by omega), List.drop_eq_getElem_cons hn2, List.any_cons, t3]
   refine Aa6 (by rw [List.length_map]; omega) (Aa6 (by omega) (Aa6 t1 (Aa6 t2 ?_)))
   by_cases hg : gT l o a b xs[n] j = true
   ·refine Aa6 hg (Ad3 (Ab3 _) ?_)
    rw [if_pos (by simp [hg])]
   ·refine Ab7 hg (Ab9 (l7Equal_ev ha hb hp.2 hj) ?_)
    have hg' : gT l o a b xs[n] j = false := by simpa using hg
    by_cases he : sbL l a xs[n] = sbL l b j
    ·refine Aa6 (by simpa using he) (Ad3 (Ab3 _) ?_)
     rw [if_pos (by simp [he])]
    ·refine Ab7 (by simpa using he) (Ad3 (ih (n + 1) (by omega)) ?_)
     simp [he, hg']
 have := h0 xs.length 0 (by omega)
 rw [List.drop_zero] at this
 exact this
theorem tab_row {i : Nat} (hi : i < a.length) (hprev : ∀ T, Aq4 l o a b T (i * b.length) → ∃ T', Aq4 l o a b T' 0 ∧ Ev (fun k => spec_l7Table.l0 k [(⟨l⟩ : S32)] o a b (b.length : Int) T ((i : Int) - 1)) T') :
  ∀ (j : Nat), j ≤ b.length → ∀ T, Aq4 l o a b T (i * b.length + j) → ∃ T', Aq4 l o a b T' 0 ∧ Ev (fun k => spec_l7Table.l1 k [(⟨l⟩ : S32)] o a b (b.length : Int) T (i : Int) ((j : Int) - 1)) T' := by
 have hla := ha.len
 have hlb := hb.len
 intro j
 induction j with
 | zero =>
  intro hj T hT
  obtain ⟨T', h1, h2⟩ := hprev T hT
  refine ⟨T', h1, Ac1 ?_⟩
  simp only [spec_l7Table.l1]
  rw [Ag9 (x := (i : Int) - 1) (by omega) (by omega)]
  exact Ab7 (by omega) h2
 | succ j ih =>
  intro hj T hT
  obtain ⟨e, h1, h2⟩ := tab_idx hi (show j < b.length by omega) hla.2 hlb.2
  have hT' : Aq4 l o a b (T.set (i * b.length + j) (gT l o a b i j)) (i * b.length + j) := by
   refine ⟨by rw [List.length_set]; exact hT.1, fun p q hp hq hle => ?_⟩
   rw [List.getD_eq_getElem?_getD]
   by_cases hpq : i * b.length + j = p * b.length + q
   ·have hip : i = p := by
     have a1 : (i * b.length + j) / b.length = i := by rw [Nat.mul_comm, Nat.mul_add_div (by omega), Nat.div_eq_of_lt (by omega), Nat.add_zero]
     have a2 : (p * b.length + q) / b.length = p := by rw [Nat.mul_comm, Nat.mul_add_div (by omega), Nat.div_eq_of_lt (by omega), Nat.add_zero]
     rw [← a1, ← a2, hpq]
    subst hip
    have hjq : j = q := by omega
    subst hjq
    rw [List.getElem?_set_self (by rw [hT.1]; exact h1)]
    rfl
   ·rw [List.getElem?_set_ne hpq, ← List.getD_eq_getElem?_getD]
    exact hT.2 p q hp hq (by omega)
  obtain ⟨T', h3, h4⟩ := ih (by omega) _ hT'
  refine ⟨T', h3, Ac1 ?_⟩
  simp only [spec_l7Table.l1]
  have ej : ((j + 1 : Nat) : Int) - 1 = (j : Int) := by omega
  rw [ej, e, Ag9 (x := (j : Int) - 1) (by omega) (by omega)]
  refine Aa6 (by omega) (Ab9 (cell_ev ha hb ho hi (by omega) (by rw [Nat.add_assoc]; exact hT)) (Aa6 (by omega) (Aa6 (by rw [hT.1]; omega) ?_)))
  rw [Int.toNat_natCast]
  exact h4
theorem tab_all : ∀ (i : Nat), i ≤ a.length → ∀ T, Aq4 l o a b T (i * b.length) → ∃ T', Aq4 l o a b T' 0 ∧ Ev (fun k => spec_l7Table.l0 k [(⟨l⟩ : S32)] o a b (b.length : Int) T ((i : Int) - 1)) T' := by
 have hla := ha.len
 have hlb := hb.len
 intro i
 induction i with
 | zero =>
  intro hi T hT
  refine ⟨T, by simpa using hT, Ac1 ?_⟩
  simp only [spec_l7Table.l0]
  exact Ab7 (by omega) (Ab3 _)
 | succ i ih =>
  intro hi T hT
  rw [Nat.succ_mul] at hT
  obtain ⟨T', h1, h2⟩ := tab_row ha hb ho (show i < a.length by omega) (ih (by omega)) b.length (Nat.le_refl _) T hT
  refine ⟨T', h1, Ac1 ?_⟩
  simp only [spec_l7Table.l0]
  have ej : ((i + 1 : Nat) : Int) - 1 = (i : Int) := by omega
  rw [ej, Ag9 (x := (b.length : Int) - 1) (by omega) (by omega)]
  exact Aa6 (by omega) h2
theorem over_ev : Ev (fun k => spec_l7Over.f k [(⟨l⟩ : S32)] o a b) (gT l o a b 0 0) := by
 have hla := ha.len
 have hlb := hb.len
 have hm : a.length * b.length ≤ 24 * 24 := Nat.mul_le_mul hla.2 hlb.2
 have hm1 : 1 * 1 ≤ a.length * b.length := Nat.mul_le_mul hla.1 hlb.1
 have e : (a.length : Int) * (b.length : Int) = ((a.length * b.length : Nat) : Int) := by push_cast; rfl
 obtain ⟨T, h1, h2⟩ := tab_all ha hb ho a.length (Nat.le_refl _) (List.replicate (a.length * b.length) false) ⟨by simp, fun p q hp hq h => by
  have : (p + 1) * b.length ≤ a.length * b.length := Nat.mul_le_mul_right _ hp
  rw [Nat.succ_mul] at this
  omega⟩
 unfold spec_l7Over.f spec_l7Table.f
 rw [e, Ag9 (x := ((a.length * b.length : Nat) : Int)) (by omega) (by omega), Ag9 (x := (a.length : Int) - 1) (by omega) (by omega), Int.toNat_natCast]
 refine Ab9 (Aa6 (by omega) (Aa6 (by omega) h2)) (Aa6 (by rw [h1.1]; omega) (Ad3 (Ab3 _) ?_))
 have h3 := h1.2 0 0 (by omega) (by omega) (Nat.zero_le _)
 rw [show (0 : Int) = ((0 : Nat) : Int) from rfl, rdOf_nat]
 simpa using h3
end
end Go.Proofs.YtgichahebemmiaaDoor.Pure
set_option linter.unusedVariables false
namespace Go.Proofs.YtgichahebemmiaaDoor.Pure
open Go.RowKit Go.Proofs.YtgichahebemmiaaDoor.P Go.Proofs.YtgichahebemmiaaDoorW.PrintWords Go.Proofs.YtgichahebemmiaaDoorW.PrintLast Go.Proofs.YtgichahebemmiaaDoor.Base
theorem ordF_sig {l : List S65} {o : List Int} (h : Ar3 l o = 0) : At2 l = 0 := by
 unfold Ar3 at h
 by_cases hs : At2 l = 0
 ·exact hs
 ·rw [if_neg hs] at h; exact absurd h hs
end Go.Proofs.YtgichahebemmiaaDoor.Pure
set_option linter.unusedVariables false
namespace Go.Proofs.YtgichahebemmiaaDoor.Pure
open Go.RowKit Go.Proofs.YtgichahebemmiaaDoor.P Go.Proofs.YtgichahebemmiaaDoorW.PrintWords Go.Proofs.YtgichahebemmiaaDoorW.PrintLast Go.Proofs.YtgichahebemmiaaDoor.Base
theorem toInt64S_l0 (l : List Int) (hl : l.length ≤ 35184372088832) : ∀ (d i : Nat), i + d = l.length → Ev (fun k => laws_toInt64S.l0 k l (Ao4 0 l i) (i : Int)) l := by
 intro d
 induction d with
 | zero =>
  intro i hi
  refine Ac1 ?_
  simp only [laws_toInt64S.l0]
  refine Ab7 (by omega) ?_
  obtain rfl : i = l.length := by omega
  rw [Ap2]
  exact Ab3 _
 | succ d ih =>
  intro i hi
  refine Ac1 ?_
  simp only [laws_toInt64S.l0]
  refine Aa6 (by omega) (Aa6 (by omega) (Aa6 (by rw [Ak7 _ _ _ (by omega)]; omega) ?_))
  rw [Ac7 (by omega), Int.toNat_natCast, Aq1 0 l i (by omega) _ (rd_some l i (by omega))]
  exact ih (i + 1) (by omega)
theorem toInt64S_ev (l : List Int) (hl : l.length ≤ 35184372088832) : Ev (fun k => laws_toInt64S.f k l) l := by
 unfold laws_toInt64S.f
 refine Aa6 (by omega) (Aa6 (by omega) ?_)
 rw [Int.toNat_natCast, ← An7]
 exact toInt64S_l0 l hl l.length 0 (by omega)
theorem eqInt64S_l0 (a b : List Int) (hab : a.length = b.length) (hl : a.length ≤ 9223372036854775807) : ∀ (d i : Nat), i + d = a.length → Ev (fun k => laws_eqInt64S.l0 k a b (i : Int)) (decide (a.drop i = b.drop i)) := by
 intro d
 induction d with
 | zero =>
  intro i hi
  refine Ac1 ?_
  simp only [laws_eqInt64S.l0]
  refine Ab7 (by omega) ?_
  rw [List.drop_eq_nil_of_le (by omega), List.drop_eq_nil_of_le (by omega)]
  exact Ab3 _
 | succ d ih =>
  intro i hi
  refine Ac1 ?_
  simp only [laws_eqInt64S.l0]
  refine Aa6 (by omega) (Aa6 (by omega) (Aa6 (by omega) ?_))
  rw [At8 a i (by omega), At8 b i (by omega)]
  by_cases h : rd a (i : Int) = rd b (i : Int)
  ·refine Aa6 h ?_
   rw [Ac7 (by omega)]
   refine Ad3 (ih (i + 1) (by omega)) ?_
   simp [h]
  ·refine Ab7 h ?_
   refine Ad3 (Ab3 _) ?_
   simp [h]
theorem eqInt64S_ev (a b : List Int) (hl : a.length ≤ 9223372036854775807) : Ev (fun k => laws_eqInt64S.f k a b) (decide (a = b)) := by
 unfold laws_eqInt64S.f
 by_cases h : a.length = b.length
 ·refine Aa6 (by omega) ?_
  exact eqInt64S_l0 a b h hl a.length 0 (by omega)
 ·refine Ab7 (by omega) ?_
  refine Ad3 (Ab3 _) ?_
  have : ¬ a = b := fun e => h (by rw [e])
  simp [this]
end Go.Proofs.YtgichahebemmiaaDoor.Pure
set_option linter.unusedVariables false
namespace Go.Proofs.YtgichahebemmiaaDoor.Pure
open Go.RowKit Go.Proofs.YtgichahebemmiaaDoor.P Go.Proofs.YtgichahebemmiaaDoorW.PrintWords Go.Proofs.YtgichahebemmiaaDoorW.PrintLast Go.Proofs.YtgichahebemmiaaDoor.Base
theorem eqIntResult_same (a b : Int) : laws_eqIntResult.f a b a b = some true := by
 unfold laws_eqIntResult.f; simp
end Go.Proofs.YtgichahebemmiaaDoor.Pure
set_option linter.unusedVariables false
namespace Go.Proofs.YtgichahebemmiaaDoor.Pure
open Go.RowKit Go.Proofs.YtgichahebemmiaaDoor.P Go.Proofs.YtgichahebemmiaaDoorW.PrintWords Go.Proofs.YtgichahebemmiaaDoorW.PrintLast Go.Proofs.YtgichahebemmiaaDoor.Base
theorem Aj8 (xs : List (List Int)) (i : Nat) (h : i < xs.length) : Ac9 xs (i : Int) = xs[i] := by
 unfold Ac9; exact getD_get xs i _ h
theorem szInt64S_cases (l : List Int) (hl : l.length ≤ maxLen) (v : Int) (h0 : 0 ≤ v) (h1 : v ≤ 1048576) :
  laws_szInt64S.f l v = some (-1) ∨ ∃ u, laws_szInt64S.f l v = some u ∧ 0 ≤ u ∧ u ≤ v ∧ (l.length : Int) ≤ v := by
 unfold maxLen at hl
 unfold laws_szInt64S.f
 rw [Ag9 (x := v - (l.length : Int)) (by omega) (by omega)]
 by_cases h : v - (l.length : Int) < 0
 ·rw [if_pos h]; exact .inl rfl
 ·rw [if_neg h]; exact .inr ⟨_, rfl, by omega, by omega, by omega⟩
theorem szInt64SS_ev (l : List (List Int)) (hl : l.length ≤ maxLen ∧ ∀ x ∈ l, x.length ≤ maxLen) (v : Int) (h0 : 0 ≤ v) (h1 : v ≤ 1048576) :
  ∃ r, Ev (fun k => laws_szInt64SS.f k l v) r ∧ (¬ r < 0 → r ≤ v ∧ (l.length : Int) ≤ v ∧ ∀ x ∈ l, x.length ≤ 1048576) := by
 have hm := hl.1
 unfold maxLen at hm
 unfold laws_szInt64SS.f
 rw [Ag9 (x := v - (l.length : Int)) (by omega) (by omega)]
 by_cases h : v - (l.length : Int) < 0
 ·exact ⟨-1, Aa6 h (Ab3 _), fun h => absurd (by omega) h⟩
 obtain ⟨r, hr, hg⟩ := loop_sz (fun x : List Int => x.length ≤ 1048576) 1048576 l (fun k v i => laws_szInt64SS.l0 k l v i)
  (fun k v => by simp only [laws_szInt64SS.l0]; rw [if_neg (by omega)])
  (fun i ha v h0 h1 => by
   simp only [laws_szInt64SS.l0]
   rcases szInt64S_cases l[i] (hl.2 _ (List.getElem_mem ha)) v h0 h1 with e | ⟨u, e, u0, uv, hq⟩
   ·exact .inl (Aa6 (by omega) (Aa6 (by omega) (Ae0 (by rw [Aj8 l i ha]; exact e) (Aa6 (by omega) (Ab3 _)))))
   ·refine .inr ⟨u, u0, uv, by omega, fun r hr => Aa6 (by omega) (Aa6 (by omega) (Ae0 (by rw [Aj8 l i ha]; exact e) (Ab7 (by omega) ?_)))⟩
    rw [Ac7 (by omega)]; exact hr)
  l.length 0 (v - (l.length : Int)) (by omega) (by omega) (by omega)
 refine ⟨r, Ab7 h hr, fun hn => ?_⟩
 obtain ⟨g1, g2⟩ := hg hn
 exact ⟨by omega, by omega, fun x hx => g2 x (by simpa using hx)⟩
theorem toInt64SS_ev (l : List (List Int)) (hl : l.length ≤ 1048576) (hx : ∀ x ∈ l, x.length ≤ 1048576) : Ev (fun k => laws_toInt64SS.f k l) l := by
 unfold laws_toInt64SS.f
 refine Aa6 (by omega) (Aa6 (by omega) ?_)
 have h := loop_map (fun x : List Int => x) [] l (fun k ys i => laws_toInt64SS.l0 k l ys i)
  (fun k ys => by simp only [laws_toInt64SS.l0]; rw [if_neg (by omega)])
  (fun i ha ys r hy hr => by
   simp only [laws_toInt64SS.l0]
   refine Aa6 (by omega) (Aa6 (by omega) ?_)
   rw [Aj8 l i ha, Ac7 (by omega), Int.toNat_natCast]
   have := hx _ (List.getElem_mem ha)
   exact Ab9 (toInt64S_ev _ (by omega)) (Aa6 (by omega) hr))
  l.length 0 (by omega)
 rw [List.map_id'] at h
 rw [An7] at h
 rw [Int.toNat_natCast]
 exact h
theorem eqInt64SS_ev (l : List (List Int)) (hl : l.length ≤ 1048576) (hx : ∀ x ∈ l, x.length ≤ 1048576) : Ev (fun k => laws_eqInt64SS.f k l l) true := by
 unfold laws_eqInt64SS.f
 refine Aa6 rfl ?_
 have h := Ar8 (fun x y : List Int => decide (x = y)) l l rfl (fun k i => laws_eqInt64SS.l0 k l l i)
  (fun k => by simp only [laws_eqInt64SS.l0]; rw [if_neg (by omega)])
  (fun i ha hb r hr => by
   simp only [laws_eqInt64SS.l0]
   refine Aa6 (by omega) (Aa6 (by omega) (Aa6 (by omega) ?_))
   rw [Aj8 l i ha, Ac7 (by omega)]
   have := hx _ (List.getElem_mem ha)
   refine Ab9 (eqInt64S_ev _ _ (by omega)) (Aa6 (by simp) ?_)
   simpa using hr)
  l.length 0 (by omega)
 rw [List.drop_zero] at h
 exact Ad3 h (allB_self _ (fun x => by simp) l)
end Go.Proofs.YtgichahebemmiaaDoor.Pure
set_option linter.unusedVariables false
namespace Go.Proofs.YtgichahebemmiaaDoor.Pure
open Go.RowKit Go.Proofs.YtgichahebemmiaaDoor.P Go.Proofs.YtgichahebemmiaaDoorW.PrintWords Go.Proofs.YtgichahebemmiaaDoorW.PrintLast Go.Proofs.YtgichahebemmiaaDoor.Base
def As3 (t : List Int) : Bool := (Ad4 (fun j => decide (rd t (j : Int) < 0)) t.length 0).isSome
theorem l3Ground_ev (t : List Int) (ht : t.length ≤ 1048576) : Ev (fun k => spec_l3Ground.f k t) (!As3 t) := by
 unfold spec_l3Ground.f
 have h := Ad5 t.length (fun j => if decide (rd t (j : Int) < 0) = true then some false else none) true (fun k i => spec_l3Ground.l0 k t i)
  (by simp only [spec_l3Ground.l0]; exact Ab7 (by omega) (Ab3 _))
  (fun i hi r hr => by
   simp only [spec_l3Ground.l0]
   refine Aa6 (by omega) (Aa6 (by omega) ?_)
   rw [Ac7 (by omega)]
   by_cases h : rd t (i : Int) < 0
   ·exact Aa6 h (Ad3 (Ab3 _) (by simp [h]))
   ·exact Ab7 h (Ad3 hr (by simp [h])))
  t.length 0 (by omega)
 rw [Af5 (fun j => decide (rd t (j : Int) < 0)) (fun _ => false) true] at h
 refine Ad3 h ?_
 unfold As3
 cases Ad4 (fun j => decide (rd t (j : Int) < 0)) t.length 0 <;> rfl
theorem hasVars_ev (t : List Int) (ht : t.length ≤ 1048576) : Ev (fun k => impl_hasVars.f k t) (As3 t) := by
 unfold impl_hasVars.f slices_ContainsFunc_int64_int64_impl_hasVars_1.f slices_IndexFunc_int64_int64_impl_hasVars_1.f
 refine Ab9 (a := As3 t) ?_ (Ab3 _)
 have h := Ad5 t.length (fun j => if decide (rd t (j : Int) < 0) = true then some (j : Int) else none) (-1) (fun k i => slices_IndexFunc_int64_int64_impl_hasVars_1.l0 k t (t.length : Int) i)
  (by simp only [slices_IndexFunc_int64_int64_impl_hasVars_1.l0]; exact Ab7 (by omega) (Ab3 _))
  (fun i hi r hr => by
   simp only [slices_IndexFunc_int64_int64_impl_hasVars_1.l0]
   refine Aa6 (by omega) (Aa6 (by omega) (Aa6 (by omega) (Ae0 rfl ?_)))
   rw [Ac7 (by omega)]
   by_cases h : decide (rd t (i : Int) < 0) = true
   ·rw [if_pos h]; exact Aa6 h (Ab3 _)
   ·rw [if_neg h]; exact Ab7 h hr)
  t.length 0 (by omega)
 rw [Af5 (fun j => decide (rd t (j : Int) < 0)) (fun j => (j : Int)) (-1)] at h
 refine Ab9 h (Ad3 (Ab3 _) ?_)
 unfold As3
 cases Ad4 (fun j => decide (rd t (j : Int) < 0)) t.length 0 with
 | none => rfl
 | some j => simp
end Go.Proofs.YtgichahebemmiaaDoor.Pure
set_option linter.unusedVariables false
namespace Go.Proofs.YtgichahebemmiaaDoor.Pure
open Go.RowKit Go.Proofs.YtgichahebemmiaaDoor.P Go.Proofs.YtgichahebemmiaaDoorW.PrintWords Go.Proofs.YtgichahebemmiaaDoorW.PrintLast Go.Proofs.YtgichahebemmiaaDoor.Base
def Ao1 (l : List S65) (xs : List (List Int)) (j : Nat) : Option Int := if Am1 l (Ac9 xs (j : Int)) = 0 then (if As3 (Ac9 xs (j : Int)) = true then some 1 else none) else some (Am1 l (Ac9 xs (j : Int)))
def Ar9 (l : List S65) (xs : List (List Int)) : Int := if (xs.length : Int) > 12 then 2 else Ai9 (Ao1 l xs) 0 xs.length 0
def As6 (g : Nat → Nat → Bool) : Nat → Nat → Nat → Nat
 | 0, _, b => b
 | d + 1, i, b => As6 g d (i + 1) (if g i b = true then i else b)
def grG (l : List S65) (o : List Int) (xs : List (List Int)) (i j : Nat) : Bool := gT l o (Ac9 xs (i : Int)) (Ac9 xs (j : Int)) 0 0
def grR (l : List S65) (o : List Int) (xs : List (List Int)) : Int × Int :=
 if Ar3 l o = 0 then (if Ar9 l xs = 0 then (if (xs.length : Int) = 0 then (4, 0) else (0, (As6 (grG l o xs) (xs.length - 1) 1 0 : Nat))) else (Ar9 l xs, 0)) else (Ar3 l o, 0)
section
variable {l : List S65} {o : List Int} {xs : List (List Int)}
theorem rl_le (hx : ∀ x ∈ xs, x.length ≤ 1048576) (i : Nat) (hi : i < xs.length) : (Ac9 xs (i : Int)).length ≤ 1048576 := by
 rw [Aj8 xs i hi]; exact hx _ (List.getElem_mem hi)
theorem sorts_right (h : Ar9 l xs = 0) : xs.length ≤ 12 ∧ ∀ i, i < xs.length → Am1 l (Ac9 xs (i : Int)) = 0 := by
 unfold Ar9 at h
 by_cases h12 : (xs.length : Int) > 12
 ·rw [if_pos h12] at h; cases h
 rw [if_neg h12] at h
 refine ⟨by omega, fun i hi => ?_⟩
 rcases scanN_cases (Ao1 l xs) 0 xs.length 0 with ⟨h2, _⟩ | ⟨j, _, _, h3⟩
 ·have := h2 i (by omega) (by omega)
  unfold Ao1 at this
  by_cases ht : Am1 l (Ac9 xs (i : Int)) = 0
  ·exact ht
  ·rw [if_neg ht] at this; cases this
 ·rw [h] at h3
  unfold Ao1 at h3
  by_cases ht : Am1 l (Ac9 xs (j : Int)) = 0
  ·rw [if_pos ht] at h3
   split at h3 <;> simp at h3
  ·rw [if_neg ht] at h3
   exact absurd (Option.some.inj h3) ht
theorem sort_spec (hs : At2 l = 0) (hl : xs.length ≤ 1048576) (hx : ∀ x ∈ xs, x.length ≤ 1048576) : Ev (fun k => spec_l7Sortable.f k [(⟨l⟩ : S32)] xs) (Ar9 l xs) := by
 unfold spec_l7Sortable.f Ar9
 refine Aj9 (fun _ => Ab3 _) (fun _ => ?_)
 exact Ad5 xs.length (Ao1 l xs) 0 (fun k i => spec_l7Sortable.l0 k [(⟨l⟩ : S32)] xs i)
  (by simp only [spec_l7Sortable.l0]; exact Ab7 (by omega) (Ab3 _))
  (fun i hi r hr => by
   simp only [spec_l7Sortable.l0]
   have hle := rl_le hx i hi
   have ht := l3Fault_ev l (Al6 l hs) (Ac9 xs (i : Int)) hle
   have e : Au2 l (Ac9 xs (i : Int)) = Am1 l (Ac9 xs (i : Int)) := by unfold Am1; rw [if_pos hs]
   rw [e] at ht
   refine Aa6 (by omega) (Aa6 (by omega) (Ab9 ht ?_))
   unfold Ao1
   by_cases h0 : Am1 l (Ac9 xs (i : Int)) = 0
   ·rw [if_pos h0]
    refine Aa6 h0 (Ab9 (l3Ground_ev _ hle) ?_)
    rw [Ac7 (by omega)]
    by_cases hv : As3 (Ac9 xs (i : Int)) = true
    ·rw [if_pos hv]; exact Ab7 (by simp [hv]) (Ab3 _)
    ·rw [if_neg hv]; exact Aa6 (by simp [hv]) hr
   ·rw [if_neg h0]; exact Ab7 h0 (Ab3 _))
  xs.length 0 (by omega)
theorem sort_impl (ho : o.length ≤ 1048576) (hl : xs.length ≤ 1048576) (hx : ∀ x ∈ xs, x.length ≤ 1048576) : Ev (fun k => impl_sortFault.f k l o xs) (if Ar3 l o = 0 then Ar9 l xs else Ar3 l o) := by
 unfold impl_sortFault.f Ar9
 refine Ab9 (OrderFault_impl l o ho) (Aj9 (fun _ => Aj9 (fun _ => Ab3 _) (fun _ => ?_)) (fun _ => Ab3 _))
 exact Ad5 xs.length (Ao1 l xs) 0 (fun k i => impl_sortFault.l0 k xs (xs.length : Int) i l)
  (by simp only [impl_sortFault.l0]; exact Ab7 (by omega) (Ab3 _))
  (fun i hi r hr => by
   simp only [impl_sortFault.l0]
   have hle := rl_le hx i hi
   refine Aa6 (by omega) (Aa6 (by omega) (Aa6 (by omega) (Ab9 (TermFault_impl l _ hle) ?_)))
   unfold Ao1
   by_cases h0 : Am1 l (Ac9 xs (i : Int)) = 0
   ·rw [if_pos h0]
    refine Aa6 h0 (Ab9 (hasVars_ev _ hle) ?_)
    rw [Ac7 (by omega)]
    by_cases hv : As3 (Ac9 xs (i : Int)) = true
    ·rw [if_pos hv]; exact Aa6 hv (Ab3 _)
    ·rw [if_neg hv]; exact Ab7 hv hr
   ·rw [if_neg h0]; exact Ab7 h0 (Ab3 _))
  xs.length 0 (by omega)
theorem Ap4 (ho : Ar3 l o = 0) (hl : xs.length ≤ 12) (ht : ∀ i, i < xs.length → Am1 l (Ac9 xs (i : Int)) = 0) : ∀ (d i b : Nat), i + d = xs.length → b < xs.length → Ev (fun k => spec_GreatestOf.l0 k o xs (b : Int) (i : Int) l) (0, (As6 (grG l o xs) d i b : Nat))
 | 0, i, b, h, hb => by
  refine Ac1 ?_
  simp only [spec_GreatestOf.l0]
  exact Ab7 (by omega) (Ab3 _)
 | d + 1, i, b, h, hb => by
  have hi := An0 (ht i (by omega))
  have hbb := An0 (ht b hb)
  have ih1 := Ap4 ho hl ht d (i + 1) i (by omega) (by omega)
  have ih2 := Ap4 ho hl ht d (i + 1) b (by omega) hb
  refine Ac1 ?_
  simp only [spec_GreatestOf.l0]
  rw [Ac7 (by omega), As6]
  refine Aa6 (by omega) (Aa6 (by omega) (Aa6 (by omega) (Aa6 (by omega) (Ab9 (over_ev hi hbb ho) ?_))))
  by_cases hg : grG l o xs i b = true
  ·rw [if_pos hg]; exact Aa6 hg ih1
  ·rw [if_neg hg]; exact Ab7 hg ih2
theorem Ap5 (ho : Ar3 l o = 0) (hl : xs.length ≤ 12) (ht : ∀ i, i < xs.length → Am1 l (Ac9 xs (i : Int)) = 0) : ∀ (d i b : Nat), i + d = xs.length → b < xs.length → Ev (fun k => impl_GreatestOf.l0 k o xs (b : Int) xs (xs.length : Int) (i : Int) l) (0, (As6 (grG l o xs) d i b : Nat))
 | 0, i, b, h, hb => by
  refine Ac1 ?_
  simp only [impl_GreatestOf.l0]
  exact Ab7 (by omega) (Ab3 _)
 | d + 1, i, b, h, hb => by
  have hi := An0 (ht i (by omega))
  have hbb := An0 (ht b hb)
  have ih1 := Ap5 ho hl ht d (i + 1) i (by omega) (by omega)
  have ih2 := Ap5 ho hl ht d (i + 1) b (by omega) hb
  refine Ac1 ?_
  simp only [impl_GreatestOf.l0]
  rw [Ac7 (by omega), As6]
  refine Aa6 (by omega) (Aa6 (by omega) (Aa6 (by omega) (Aa6 (by omega) (Aa6 (by omega) (Ab9 (isGreater_ev hi hbb ho) ?_)))))
  by_cases hg : grG l o xs i b = true
  ·rw [if_pos hg]; exact Aa6 hg ih1
  ·rw [if_neg hg]; exact Ab7 hg ih2
theorem GreatestOf_spec (ho : o.length ≤ 1048576) (hl : xs.length ≤ 1048576) (hx : ∀ x ∈ xs, x.length ≤ 1048576) : Ev (fun k => spec_GreatestOf.f k l o xs) (grR l o xs) := by
 unfold spec_GreatestOf.f grR
 refine Ab9 (OrderFault_spec l o ho) (Aj9 (fun h0 => Ab9 (sort_spec (ordF_sig h0) hl hx) (Aj9 (fun h1 => Aj9 (fun _ => Ab3 _) (fun h2 => ?_)) (fun _ => Ab3 _))) (fun _ => Ab3 _))
 obtain ⟨h3, h4⟩ := sorts_right h1
 exact Ap4 h0 h3 h4 (xs.length - 1) 1 0 (by omega) (by omega)
theorem GreatestOf_impl (ho : o.length ≤ 1048576) (hl : xs.length ≤ 1048576) (hx : ∀ x ∈ xs, x.length ≤ 1048576) : Ev (fun k => impl_GreatestOf.f k l o xs) (grR l o xs) := by
 unfold impl_GreatestOf.f grR
 refine Ab9 (sort_impl ho hl hx) ?_
 by_cases h0 : Ar3 l o = 0
 ·rw [if_pos h0, if_pos h0]
  refine Aj9 (fun h1 => Aj9 (fun _ => Ab3 _) (fun h2 => ?_)) (fun _ => Ab3 _)
  obtain ⟨h3, h4⟩ := sorts_right h1
  have := Ap5 h0 h3 h4 xs.length 0 0 (by omega) (by omega)
  obtain ⟨m, hm⟩ : ∃ m, xs.length = m + 1 := ⟨xs.length - 1, by omega⟩
  refine Ad3 this ?_
  rw [hm, As6]
  simp
 ·rw [if_neg h0, if_neg h0]; exact Ab7 h0 (Ab3 _)
end
theorem FnExactGreatestOf (l : List S61) (o : List Int) (xs : List (List Int)) (hl : Av6 l) (wo : o.length ≤ maxLen ∧ ∀ x ∈ o, (Lit.int .i64 x).wf = true) (wx : xs.length ≤ maxLen ∧ ∀ x ∈ xs, x.length ≤ maxLen ∧ ∀ y ∈ x, (Lit.int .i64 y).wf = true) : ∃ k, laws_FnExactGreatestOf.f k l o xs = some true := by
 refine ev_ex (g := fun k => laws_FnExactGreatestOf.f k l o xs) ?_
 unfold laws_FnExactGreatestOf.f
 by_cases bo : (o.length : Int) > 1048576
 ·exact Aa6 bo (Ab3 _)
 refine Ab7 bo ?_
 obtain ⟨r, hr, h1⟩ := szSignature_ev l hl 1048576 (by omega) (by omega)
 refine Ab9 hr ?_
 by_cases hr0 : r < 0
 ·exact Aa6 hr0 (Ab3 _)
 have h1 := h1 hr0
 refine Ab7 hr0 ?_
 obtain ⟨q, hq, h2⟩ := szInt64SS_ev xs ⟨wx.1, fun x hx => (wx.2 x hx).1⟩ r (by omega) (by omega)
 refine Ab9 hq ?_
 by_cases hq0 : q < 0
 ·exact Aa6 hq0 (Ab3 _)
 obtain ⟨_, h3, hx⟩ := h2 hq0
 have t := toSignature_ev l (by omega)
 have e := eqSignature_ev (l.map toI) (by rw [List.length_map]; omega)
 have to_ := toInt64S_ev o (by omega)
 have eo := eqInt64S_ev o o (by omega)
 have tx := toInt64SS_ev xs (by omega) hx
 have ex := eqInt64SS_ev xs (by omega) hx
 have hs := GreatestOf_spec (l := l.map toI) (o := o) (xs := xs) (by omega) (by omega) hx
 have hp := GreatestOf_impl (l := l.map toI) (o := o) (xs := xs) (by omega) (by omega) hx
 exact Ab7 hq0 (Ab9 t (Ab9 to_ (Ab9 tx (Ab9 hs (Ab9 t (Ab9 to_ (Ab9 tx (Ab9 hp (Ae0 (eqIntResult_same _ _) (Aa6 rfl (Ab9 t (Ab9 e (Aa6 rfl (Ab9 to_ (Ab9 eo (Aa6 (by simp) (Ab9 tx (Ab9 ex (Aa6 rfl (Ab3 _))))))))))))))))))))
end Go.Proofs.YtgichahebemmiaaDoor.Pure
