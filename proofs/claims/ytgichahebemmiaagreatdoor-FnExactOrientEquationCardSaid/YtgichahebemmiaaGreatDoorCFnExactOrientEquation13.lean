/- A part of the proof of the law FnExactOrientEquation. -/
import Derived.Lib.Strings
import Derived.Laws.StructEq
import Derived.Test.YtgichahebemmiaaGreatDoorCFnExactOrientEquation0
import Derived.Test.YtgichahebemmiaaGreatDoorCFnExactOrientEquation1
import Derived.Test.YtgichahebemmiaaGreatDoorCFnExactOrientEquation2
import Derived.Test.YtgichahebemmiaaGreatDoorCFnExactOrientEquation3
import Derived.Test.YtgichahebemmiaaGreatDoorCFnExactOrientEquation4
import Derived.Test.YtgichahebemmiaaGreatDoorCFnExactOrientEquation5
import Derived.Test.YtgichahebemmiaaGreatDoorCFnExactOrientEquation6
import Derived.Test.YtgichahebemmiaaGreatDoorCFnExactOrientEquation7
import Derived.Test.YtgichahebemmiaaGreatDoorCFnExactOrientEquation8
import Derived.Test.YtgichahebemmiaaGreatDoorCFnExactOrientEquation9
import Derived.Test.YtgichahebemmiaaGreatDoorCFnExactOrientEquation10
import Derived.Test.YtgichahebemmiaaGreatDoorCFnExactOrientEquation11
import Derived.Test.YtgichahebemmiaaGreatDoorCFnExactOrientEquation12
set_option linter.unusedVariables false
namespace Go.Proofs.YtgichahebemmiaaGreatDoor.Pure
open Go.RowKit Go.Proofs.YtgichahebemmiaaGreatDoor.P Go.Proofs.YtgichahebemmiaaGreatDoorW.PrintWords Go.Proofs.YtgichahebemmiaaGreatDoorW.PrintLast Go.Proofs.YtgichahebemmiaaGreatDoor.Base
def toI (x : S74) : S79 := ⟨x.f0, x.f1⟩
theorem At2 (xs : List S74) (i : Nat) (h : i < xs.length) : Ah1 xs (i : Int) = xs[i] := by
 simp [Ah1, List.getD_eq_getElem?_getD, List.getElem?_eq_getElem h]
def Aw6 (l : List S74) : Prop := l.length ≤ maxLen ∧ ∀ x ∈ l, x.f0.size ≤ maxLen ∧ (Lit.int .i64 x.f1).wf = true
theorem szSymbolS_l0 (l : List S74) (hl : Aw6 l) : ∀ (d i : Nat) (a : Int), i + d = l.length → 0 ≤ a → a ≤ 1048576 →
  ∃ r, Ev (fun k => laws_szSymbolS.l0 k l a (i : Int)) r ∧ (0 ≤ r → r ≤ a) := by
 intro d
 induction d with
 | zero =>
  intro i a hi h0 h1
  refine ⟨a, Ab2 ?_, fun _ => Int.le_refl _⟩
  simp only [laws_szSymbolS.l0]
  exact Aa9 (by omega) (Aa4 _)
 | succ d ih =>
  intro i a hi h0 h1
  have hi' : i < l.length := by omega
  have hx := (hl.2 _ (List.getElem_mem hi')).1
  unfold maxLen at hx
  have hm := hl.1
  unfold maxLen at hm
  have hw : wrap64 (a - ((l[i]).f0.size : Int)) = a - ((l[i]).f0.size : Int) := Af3 (by omega) (by omega)
  by_cases hn : a - ((l[i]).f0.size : Int) < 0
  ·refine ⟨-1, Ab2 ?_, fun h => by omega⟩
   simp only [laws_szSymbolS.l0]
   refine Aa3 (by omega) (Aa3 (by omega) ?_)
   rw [At2 l i hi']
   refine Ac4 (a := -1) ?_ (Aa3 (by omega) (Aa4 _))
   unfold laws_szSymbol.f
   rw [hw, if_pos hn]
  ·obtain ⟨r, hr, hle⟩ := ih (i + 1) (a - ((l[i]).f0.size : Int)) (by omega) (by omega) (by omega)
   refine ⟨r, Ab2 ?_, fun h => by have := hle h; omega⟩
   simp only [laws_szSymbolS.l0]
   refine Aa3 (by omega) (Aa3 (by omega) ?_)
   rw [At2 l i hi', Ac2 (by omega)]
   refine Ac4 (a := a - ((l[i]).f0.size : Int)) ?_ (Aa9 hn hr)
   unfold laws_szSymbol.f
   rw [hw, if_neg hn]
theorem szSignature_ev (l : List S74) (hl : Aw6 l) (a : Int) (h0 : 0 ≤ a) (h1 : a ≤ 1048576) :
  ∃ r, Ev (fun k => laws_szSignature.f k l a) r ∧ (¬ r < 0 → (l.length : Int) ≤ a ∧ r ≤ a) := by
 have hm := hl.1
 unfold maxLen at hm
 have hw : wrap64 (a - (l.length : Int)) = a - (l.length : Int) := Af3 (by omega) (by omega)
 by_cases hn : a - (l.length : Int) < 0
 ·refine ⟨-1, ?_, fun h => by omega⟩
  unfold laws_szSignature.f
  refine Aa8 (a := -1) ?_ (Aa3 (by omega) (Aa4 _))
  unfold laws_szSymbolS.f
  rw [hw]
  exact Aa3 hn (Aa4 _)
 ·obtain ⟨r, hr, hle⟩ := szSymbolS_l0 l hl l.length 0 (a - (l.length : Int)) (by omega) (by omega) (by omega)
  have hs : Ev (fun k => laws_szSymbolS.f k l a) r := by
   unfold laws_szSymbolS.f
   rw [hw]
   exact Aa9 hn hr
  by_cases hr0 : r < 0
  ·refine ⟨-1, ?_, fun h => by omega⟩
   unfold laws_szSignature.f
   exact Aa8 hs (Aa3 hr0 (Aa4 _))
  ·refine ⟨r, ?_, fun h => ?_⟩
   ·unfold laws_szSignature.f
    exact Aa8 hs (Aa9 hr0 (Aa4 _))
   ·have := hle (by omega)
    omega
theorem toSymbolS_l0 (l : List S74) (hl : l.length ≤ 1048576) : ∀ (d i : Nat), i + d = l.length → Ev (fun k => laws_toSymbolS.l0 k l (Aq4 z79 (l.map toI) i) (i : Int)) (l.map toI) := by
 intro d
 induction d with
 | zero =>
  intro i hi
  refine Ab2 ?_
  simp only [laws_toSymbolS.l0]
  refine Aa9 (by omega) ?_
  have e : i = (l.map toI).length := by rw [List.length_map]; omega
  rw [e, cpart_end]
  exact Aa4 _
 | succ d ih =>
  intro i hi
  have hi' : i < l.length := by omega
  refine Ab2 ?_
  simp only [laws_toSymbolS.l0]
  refine Aa3 (by omega) (Aa3 (by omega) ?_)
  unfold laws_toSymbol.f
  refine Ac4 rfl (Aa3 (by rw [cpart_length _ _ _ (by rw [List.length_map]; omega), List.length_map]; omega) ?_)
  rw [At2 l i hi', Ac2 (by omega), Int.toNat_natCast, cpart_set z79 (l.map toI) i (by rw [List.length_map]; omega) (⟨(l[i]).f0, (l[i]).f1⟩ : S79) (by rw [List.getElem?_map, List.getElem?_eq_getElem hi']; rfl)]
  exact ih (i + 1) (by omega)
theorem toSignature_ev (l : List S74) (hl : l.length ≤ 1048576) : Ev (fun k => laws_toSignature.f k l) (l.map toI) := by
 unfold laws_toSignature.f
 refine Aa8 (a := l.map toI) ?_ (Aa4 _)
 unfold laws_toSymbolS.f
 refine Aa3 (by omega) (Aa3 (by omega) ?_)
 have := toSymbolS_l0 l hl l.length 0 (by omega)
 rw [cpart_zero, List.length_map] at this
 rw [Int.toNat_natCast]
 exact this
theorem eqSymbolS_l0 (a : List S79) (hl : a.length ≤ 9223372036854775807) : ∀ (d i : Nat), i + d = a.length → Ev (fun k => laws_eqSymbolS.l0 k a a (i : Int)) true := by
 intro d
 induction d with
 | zero =>
  intro i hi
  refine Ab2 ?_
  simp only [laws_eqSymbolS.l0]
  exact Aa9 (by omega) (Aa4 _)
 | succ d ih =>
  intro i hi
  refine Ab2 ?_
  simp only [laws_eqSymbolS.l0]
  refine Aa3 (by omega) (Aa3 (by omega) (Aa3 (by omega) (Ac4 (a := true) ?_ (Aa3 rfl ?_))))
  ·unfold laws_eqSymbol.f
   rw [if_pos rfl, if_pos rfl]
  ·rw [Ac2 (by omega)]
   exact ih (i + 1) (by omega)
theorem eqSignature_ev (a : List S79) (hl : a.length ≤ 9223372036854775807) : Ev (fun k => laws_eqSignature.f k a a) true := by
 unfold laws_eqSignature.f
 refine Aa8 (a := true) ?_ (Aa3 rfl (Aa4 _))
 unfold laws_eqSymbolS.f
 exact Aa3 rfl (eqSymbolS_l0 a hl a.length 0 (by omega))
end Go.Proofs.YtgichahebemmiaaGreatDoor.Pure
set_option linter.unusedVariables false
namespace Go.Proofs.YtgichahebemmiaaGreatDoor.Pure
open Go.RowKit Go.Proofs.YtgichahebemmiaaGreatDoor.P Go.Proofs.YtgichahebemmiaaGreatDoorW.PrintWords Go.Proofs.YtgichahebemmiaaGreatDoorW.PrintLast Go.Proofs.YtgichahebemmiaaGreatDoor.Base
theorem bt_get (s : ByteArray) (i : Nat) (h : i < s.data.toList.length) : bt s (i : Int) = ((s.data.toList[i]).toNat : Int) := by
 have hs : i < s.size := by rw [Lib.size_eq]; exact h
 unfold bt
 rw [dif_pos (by simpa using hs)]
 rfl
theorem l2Name_l0 (s : ByteArray) (hl : s.size ≤ 3) : ∀ (d i : Nat), i + d = s.size → Ev (fun k => spec_l2Name.l0 k s (i : Int)) ((s.data.toList.drop i).all Ai3) := by
 have hz := Lib.size_eq s
 intro d
 induction d with
 | zero =>
  intro i hi
  refine Ab2 ?_
  simp only [spec_l2Name.l0]
  refine Aa9 (by omega) (Ac6 (Aa4 _) ?_)
  rw [List.drop_eq_nil_of_le (by omega)]; rfl
 | succ d ih =>
  intro i hi
  have hi' : i < s.data.toList.length := by omega
  refine Ab2 ?_
  simp only [spec_l2Name.l0]
  refine Aa3 (by omega) (Aa3 (by omega) ?_)
  rw [bt_get s i hi', List.drop_eq_getElem_cons hi', Ac2 (by omega)]
  generalize s.data.toList[i] = b
  by_cases h1 : (b.toNat : Int) < 97
  ·refine Aa3 h1 (Ac6 (Aa4 _) ?_)
   have : Ai3 b = false := by unfold Ai3; simp; omega
   simp [this]
  refine Aa9 h1 ?_
  by_cases h2 : (b.toNat : Int) > 122
  ·refine Aa3 h2 (Ac6 (Aa4 _) ?_)
   have : Ai3 b = false := by unfold Ai3; simp; omega
   simp [this]
  refine Aa9 h2 (Ac6 (ih (i + 1) (by omega)) ?_)
  have : Ai3 b = true := by unfold Ai3; simp; omega
  simp [this]
theorem l2Name_ev (s : ByteArray) : Ev (fun k => spec_l2Name.f k s) (Aq5 s) := by
 unfold spec_l2Name.f Aq5
 by_cases h1 : (s.size : Int) < 1
 ·refine Aa3 h1 (Ab2 ?_)
  simp only [spec_l2Name.j0]
  exact Aa3 (by simp) (Ac6 (Aa4 _) (by simp; omega))
 refine Aa9 h1 (Ab2 ?_)
 simp only [spec_l2Name.j0]
 by_cases h2 : (s.size : Int) > 3
 ·exact Aa3 (by simpa using h2) (Ac6 (Aa4 _) (by simp; omega))
 refine Aa9 (by simpa using h2) (Ac6 (l2Name_l0 s (by omega) s.size 0 (by omega)) ?_)
 have : decide (1 ≤ s.size ∧ s.size ≤ 3) = true := by simp; omega
 rw [this]; rfl
theorem isName_eq (s : ByteArray) : impl_isName.f s = some (Aq5 s) := by
 unfold impl_isName.f Aq5
 by_cases h1 : (s.size : Int) ≥ 1
 ·rw [if_pos h1]
  by_cases h2 : (s.size : Int) ≤ 3
  ·rw [if_pos h2]
   have ht : strings_Trim.f s abc = some ⟨(Lib.trimS s.data.toList abc.data.toList).toArray⟩ := by
    unfold strings_Trim.f
    exact if_pos ⟨by omega, by decide, by decide +kernel⟩
   refine At5 ht ?_
   have : decide (1 ≤ s.size ∧ s.size ≤ 3) = true := by simp; omega
   rw [this, Lib.toList_data]
   simp only [Bool.true_and]
   rw [← trim_abc]
  ·rw [if_neg h2]
   have : decide (1 ≤ s.size ∧ s.size ≤ 3) = false := by simp; omega
   rw [this]; rfl
 ·rw [if_neg h1]
  have : decide (1 ≤ s.size ∧ s.size ≤ 3) = false := by simp; omega
  rw [this]; rfl
def Ag2 (l : List S79) (i : Nat) : List UInt8 := (Aa7 l (i : Int)).f0.toList
def Ai5 (l : List S79) (i : Nat) : Option Int :=
 if Aq5 (Aa7 l (i : Int)).f0 = true then (if 0 ≤ (Aa7 l (i : Int)).f1 ∧ (Aa7 l (i : Int)).f1 ≤ 2 then none else some 3) else some 5
def Aw0 (l : List S79) (i : Nat) : Bool := (Ad1 (fun j => Ag2 l i == Ag2 l j) i 0).isSome
def Ag9 (l : List S79) (i : Nat) : Option Int := if Aw0 l i = true then some 6 else none
def An5 (l : List S79) : Bool := (Ad1 (fun j => (Aa7 l (j : Int)).f1 == 0) l.length 0).isSome
def Au5 (l : List S79) : Int :=
 if l.length < 1 ∨ l.length > 6 then 2 else Aj7 (Ai5 l) (Aj7 (Ag9 l) (if An5 l = true then 0 else 4) l.length 0) l.length 0
theorem Aq1 (a b c : Int) : impl_within.f a b c = some (decide (b ≤ a ∧ a ≤ c)) := by
 unfold impl_within.f
 by_cases h : a ≥ b
 ·rw [if_pos h]
  by_cases h' : a ≤ c
  ·simp [h']; omega
  ·simp [h']
 ·rw [if_neg h]
  simp; omega
theorem Au3 (a b c : Int) : spec_l1In.f a b c = some (decide (b ≤ a ∧ a ≤ c)) := by
 unfold spec_l1In.f
 by_cases h : a ≥ b
 ·rw [if_pos h]
  by_cases h' : a ≤ c
  ·simp [h']; omega
  ·simp [h']
 ·rw [if_neg h]
  simp; omega
theorem Sig_l3 (l : List S79) (hl : l.length ≤ 6) : Ev (fun k => spec_SignatureFault.l3 k (l.length : Int) 0 l) (if An5 l = true then 0 else 4) := by
 have h := Ae0 l.length (fun j => if ((Aa7 l (j : Int)).f1 == 0) = true then some 0 else none) 4 (fun k i => spec_SignatureFault.l3 k (l.length : Int) i l)
  (by simp only [spec_SignatureFault.l3]; exact Aa9 (by omega) (Aa4 _))
  (fun i hi r hr => by
   simp only [spec_SignatureFault.l3]
   refine Aa3 (by omega) (Aa3 (by omega) (Aa3 (by omega) ?_))
   rw [Ac2 (by omega)]
   by_cases h : (Aa7 l (i : Int)).f1 = 0
   ·refine Aa3 h (Ac6 (Aa4 _) (by simp [h]))
   ·refine Aa9 h (Ac6 hr (by simp [h])))
  l.length 0 (by omega)
 refine Ac6 h ?_
 rw [Ag7 (fun j => (Aa7 l (j : Int)).f1 == 0) (fun _ => (0 : Int)) 4]
 unfold An5
 cases Ad1 (fun j => (Aa7 l (j : Int)).f1 == 0) l.length 0 <;> rfl
theorem Sig_l2 (l : List S79) (hl : l.length ≤ 6) (i : Nat) (hi : i < l.length) (r : Int) (hr : Ev (fun k => spec_SignatureFault.l1 k (l.length : Int) ((i + 1 : Nat) : Int) l) r) :
  Ev (fun k => spec_SignatureFault.l2 k (l.length : Int) (i : Int) 0 l) ((Ag9 l i).getD r) := by
 have h := Ae0 i (fun j => if (Ag2 l i == Ag2 l j) = true then some 6 else none) r (fun k j => spec_SignatureFault.l2 k (l.length : Int) (i : Int) j l)
  (by simp only [spec_SignatureFault.l2]; refine Aa9 (by omega) ?_; rw [Ac2 (by omega)]; exact hr)
  (fun j hj r hr => by
   simp only [spec_SignatureFault.l2]
   refine Aa3 (by omega) (Aa3 (by omega) (Aa3 (by omega) (Aa3 (by omega) (Aa3 (by omega) ?_))))
   rw [Ac2 (by omega)]
   by_cases h : Ag2 l i = Ag2 l j
   ·refine Aa3 h (Ac6 (Aa4 _) (by simp [h]))
   ·refine Aa9 h (Ac6 hr (by simp [h])))
  i 0 (by omega)
 refine Ac6 h ?_
 rw [Ag7 (fun j => Ag2 l i == Ag2 l j) (fun _ => (6 : Int)) r]
 unfold Ag9 Aw0
 cases Ad1 (fun j => Ag2 l i == Ag2 l j) i 0 <;> rfl
theorem Sig_l1 (l : List S79) (hl : l.length ≤ 6) : Ev (fun k => spec_SignatureFault.l1 k (l.length : Int) 0 l) (Aj7 (Ag9 l) (if An5 l = true then 0 else 4) l.length 0) :=
 Ae0 l.length (Ag9 l) (if An5 l = true then 0 else 4) (fun k i => spec_SignatureFault.l1 k (l.length : Int) i l)
  (by simp only [spec_SignatureFault.l1]; exact Aa9 (by omega) (Sig_l3 l hl))
  (fun i hi r hr => by
   simp only [spec_SignatureFault.l1]
   exact Aa3 (by omega) (Sig_l2 l hl i hi r hr))
  l.length 0 (by omega)
theorem Sig_l0 (l : List S79) (hl : l.length ≤ 6) : Ev (fun k => spec_SignatureFault.l0 k (l.length : Int) 0 l) (Aj7 (Ai5 l) (Aj7 (Ag9 l) (if An5 l = true then 0 else 4) l.length 0) l.length 0) :=
 Ae0 l.length (Ai5 l) _ (fun k i => spec_SignatureFault.l0 k (l.length : Int) i l)
  (by simp only [spec_SignatureFault.l0]; exact Aa9 (by omega) (Sig_l1 l hl))
  (fun i hi r hr => by
   simp only [spec_SignatureFault.l0]
   refine Aa3 (by omega) (Aa3 (by omega) (Aa3 (by omega) (Aa8 (l2Name_ev _) ?_)))
   unfold Ai5
   by_cases h : Aq5 (Aa7 l (i : Int)).f0 = true
   ·refine Aa3 h (Ac4 (Au3 _ _ _) ?_)
    rw [if_pos h, Ac2 (by omega)]
    by_cases h' : 0 ≤ (Aa7 l (i : Int)).f1 ∧ (Aa7 l (i : Int)).f1 ≤ 2
    ·rw [if_pos h']
     exact Aa3 (by simpa using h') hr
    ·rw [if_neg h']
     exact Aa9 (by simpa using h') (Aa4 _)
   ·rw [if_neg h]
    exact Aa9 h (Aa4 _))
  l.length 0 (by omega)
theorem SignatureFault_spec (l : List S79) : Ev (fun k => spec_SignatureFault.f k l) (Au5 l) := by
 unfold spec_SignatureFault.f Au5
 by_cases h1 : (l.length : Int) < 1
 ·rw [if_pos (.inl (by omega))]
  refine Aa3 h1 (Ab2 ?_)
  simp only [spec_SignatureFault.j0]
  exact Aa3 (by simp) (Aa4 _)
 refine Aa9 h1 (Ab2 ?_)
 simp only [spec_SignatureFault.j0]
 by_cases h2 : (l.length : Int) > 6
 ·rw [if_pos (.inr (by omega))]
  exact Aa3 (by simpa using h2) (Aa4 _)
 ·rw [if_neg (by omega)]
  exact Aa9 (by simpa using h2) (Sig_l0 l (by omega))
theorem symbolIndex_ev (l : List S79) (hl : l.length ≤ 1048576) (s : ByteArray) : Ev (fun k => impl_symbolIndex.f k l s) (Ai9 (fun j => Ag2 l j == s.toList) l.length) := by
 unfold impl_symbolIndex.f
 refine Aa8 (a := Ai9 (fun j => Ag2 l j == s.toList) l.length) ?_ (Aa4 _)
 unfold slices_IndexFunc_impl_Symbol_impl_Symbol_impl_symbolIndex_1.f
 have h := Ae0 l.length (fun j => if (Ag2 l j == s.toList) = true then some (j : Int) else none) (-1) (fun k i => slices_IndexFunc_impl_Symbol_impl_Symbol_impl_symbolIndex_1.l0 k l (l.length : Int) i [s])
  (by simp only [slices_IndexFunc_impl_Symbol_impl_Symbol_impl_symbolIndex_1.l0]; exact Aa9 (by omega) (Aa4 _))
  (fun i hi r hr => by
   simp only [slices_IndexFunc_impl_Symbol_impl_Symbol_impl_symbolIndex_1.l0]
   refine Aa3 (by omega) (Aa3 (by omega) (Aa3 (by omega) (Ac4 (a := Ag2 l i == s.toList) ?_ ?_)))
   ·unfold impl_symbolIndex_1_with.f
    rw [if_pos (by simp)]
    rfl
   ·rw [Ac2 (by omega)]
    by_cases h : (Ag2 l i == s.toList) = true
    ·rw [if_pos h]; exact Aa3 h (Aa4 _)
    ·rw [if_neg h]; exact Aa9 h hr)
  l.length 0 (by omega)
 rw [Am2 (fun j => Ag2 l j == s.toList)] at h
 exact h
theorem dup_place (l : List S79) (i : Nat) (hi : i < l.length) : Ai9 (fun j => Ag2 l j == (Aa7 l (i : Int)).f0.toList) l.length = (i : Int) ↔ Aw0 l i = false := by
 unfold Aw0
 have hn : (Ad1 (fun j => Ag2 l i == Ag2 l j) i 0).isSome = false ↔ ∀ j, j < i → (Ag2 l i == Ag2 l j) = false := by
  rw [Option.isSome_eq_false_iff, Option.isNone_iff_eq_none, Ai0]
  exact ⟨fun h j hj => h j (by omega) (by omega), fun h j _ hj => h j (by omega)⟩
 rw [hn]
 rcases placeN_cases (fun j => Ag2 l j == (Aa7 l (i : Int)).f0.toList) l.length with ⟨h1, h2⟩ | ⟨j, hj, h1, h2, h3⟩
 ·have := h2 i hi
  simp [Ag2] at this
 ·rw [h1]
  constructor
  ·intro e
   obtain rfl : j = i := by omega
   intro m hm
   have := h3 m hm
   simp only [beq_eq_false_iff_ne, ne_eq] at this ⊢
   exact fun e => this e.symm
  ·intro h
   have hji : ¬ j < i := fun hlt => by
    have := h j hlt
    simp only [beq_eq_false_iff_ne, ne_eq] at this
    exact this (by simpa [Ag2] using (eq_comm.1 (beq_iff_eq.1 h2)))
   have hij : ¬ i < j := fun hlt => by
    have := h3 i hlt
    simp [Ag2] at this
   omega
theorem ISig_last (l : List S79) (hl : l.length ≤ 6) : Ev (fun k => slices_ContainsFunc_impl_Symbol_impl_Symbol_impl_SignatureFault_1.f k l) (An5 l) := by
 unfold slices_ContainsFunc_impl_Symbol_impl_Symbol_impl_SignatureFault_1.f slices_IndexFunc_impl_Symbol_impl_Symbol_impl_SignatureFault_1.f
 have h := Ae0 l.length (fun j => if ((Aa7 l (j : Int)).f1 == 0) = true then some (j : Int) else none) (-1) (fun k i => slices_IndexFunc_impl_Symbol_impl_Symbol_impl_SignatureFault_1.l0 k l (l.length : Int) i)
  (by simp only [slices_IndexFunc_impl_Symbol_impl_Symbol_impl_SignatureFault_1.l0]; exact Aa9 (by omega) (Aa4 _))
  (fun i hi r hr => by
   simp only [slices_IndexFunc_impl_Symbol_impl_Symbol_impl_SignatureFault_1.l0]
   refine Aa3 (by omega) (Aa3 (by omega) (Aa3 (by omega) (Ac4 rfl ?_)))
   rw [Ac2 (by omega)]
   by_cases h : ((Aa7 l (i : Int)).f1 == 0) = true
   ·rw [if_pos h]; exact Aa3 h (Aa4 _)
   ·rw [if_neg h]; exact Aa9 h hr)
  l.length 0 (by omega)
 rw [Ag7 (fun j => (Aa7 l (j : Int)).f1 == 0) (fun j => (j : Int)) (-1)] at h
 refine Aa8 h (Ac6 (Aa4 _) ?_)
 unfold An5
 cases Ad1 (fun j => (Aa7 l (j : Int)).f1 == 0) l.length 0 with
 | none => rfl
 | some j => simp
theorem ISig_l1 (l : List S79) (hl : l.length ≤ 6) : Ev (fun k => impl_SignatureFault.l1 k l (l.length : Int) 0 l) (Aj7 (Ag9 l) (if An5 l = true then 0 else 4) l.length 0) :=
 Ae0 l.length (Ag9 l) (if An5 l = true then 0 else 4) (fun k i => impl_SignatureFault.l1 k l (l.length : Int) i l)
  (by
   simp only [impl_SignatureFault.l1]
   refine Aa9 (by omega) (Aa8 (ISig_last l hl) ?_)
   by_cases h : An5 l = true
   ·exact Ac6 (Aa3 h (Aa4 _)) (if_pos h).symm
   ·exact Ac6 (Aa9 h (Aa4 _)) (if_neg h).symm)
  (fun i hi r hr => by
   simp only [impl_SignatureFault.l1]
   refine Aa3 (by omega) (Aa3 (by omega) (Aa3 (by omega) (Aa8 (symbolIndex_ev l (by omega) _) ?_)))
   have hd := dup_place l i hi
   rw [Ac2 (by omega)]
   unfold Ag9
   by_cases h : Aw0 l i = true
   ·rw [if_pos h]
    exact Aa9 (fun e => by rw [hd.1 e] at h; cases h) (Aa4 _)
   ·rw [if_neg h]
    exact Aa3 (hd.2 (Bool.eq_false_iff.2 h)) hr)
  l.length 0 (by omega)
theorem SignatureFault_impl (l : List S79) : Ev (fun k => impl_SignatureFault.f k l) (Au5 l) := by
 unfold impl_SignatureFault.f Au5
 by_cases h1 : (l.length : Int) < 1
 ·rw [if_pos (.inl (by omega))]
  refine Aa3 h1 (Ab2 ?_)
  simp only [impl_SignatureFault.j0]
  exact Aa3 (by simp) (Aa4 _)
 refine Aa9 h1 (Ab2 ?_)
 simp only [impl_SignatureFault.j0]
 by_cases h2 : (l.length : Int) > 6
 ·rw [if_pos (.inr (by omega))]
  exact Aa3 (by simpa using h2) (Aa4 _)
 rw [if_neg (by omega)]
 refine Aa9 (by simpa using h2) ?_
 exact Ae0 l.length (Ai5 l) _ (fun k i => impl_SignatureFault.l0 k l (l.length : Int) i l)
  (by simp only [impl_SignatureFault.l0]; exact Aa9 (by omega) (ISig_l1 l (by omega)))
  (fun i hi r hr => by
   simp only [impl_SignatureFault.l0]
   refine Aa3 (by omega) (Aa3 (by omega) (Aa3 (by omega) (Ac4 (isName_eq _) ?_)))
   unfold Ai5
   by_cases h : Aq5 (Aa7 l (i : Int)).f0 = true
   ·refine Aa3 h (Ac4 (Aq1 _ _ _) ?_)
    rw [if_pos h, Ac2 (by omega)]
    by_cases h' : 0 ≤ (Aa7 l (i : Int)).f1 ∧ (Aa7 l (i : Int)).f1 ≤ 2
    ·rw [if_pos h']
     exact Aa3 (by simpa using h') hr
    ·rw [if_neg h']
     exact Aa9 (by simpa using h') (Aa4 _)
   ·rw [if_neg h]
    exact Aa9 h (Aa4 _))
  l.length 0 (by omega)
structure Right (l : List S79) : Prop where
 len : 1 ≤ l.length ∧ l.length ≤ 6
 names : ∀ i, i < l.length → Aq5 (Aa7 l (i : Int)).f0 = true
 arities : ∀ i, i < l.length → 0 ≤ (Aa7 l (i : Int)).f1 ∧ (Aa7 l (i : Int)).f1 ≤ 2
 apart : ∀ i, i < l.length → Aw0 l i = false
theorem Al0 (l : List S79) (h : Au5 l = 0) : Right l := by
 unfold Au5 at h
 by_cases h1 : l.length < 1 ∨ l.length > 6
 ·rw [if_pos h1] at h; omega
 rw [if_neg h1] at h
 have hlen : 1 ≤ l.length ∧ l.length ≤ 6 := by omega
 rcases scanN_cases (Ai5 l) (Aj7 (Ag9 l) (if An5 l = true then 0 else 4) l.length 0) l.length 0 with ⟨h2, h3⟩ | ⟨j, _, _, h3⟩
 ·rw [h3] at h
  rcases scanN_cases (Ag9 l) (if An5 l = true then 0 else 4) l.length 0 with ⟨h4, h5⟩ | ⟨j, _, _, h5⟩
  ·refine ⟨hlen, fun i hi => ?_, fun i hi => ?_, fun i hi => ?_⟩
   ·have := h2 i (by omega) (by omega)
    unfold Ai5 at this
    by_cases hn : Aq5 (Aa7 l (i : Int)).f0 = true
    ·exact hn
    ·rw [if_neg hn] at this; cases this
   ·have := h2 i (by omega) (by omega)
    unfold Ai5 at this
    by_cases hn : Aq5 (Aa7 l (i : Int)).f0 = true
    ·rw [if_pos hn] at this
     by_cases ha : 0 ≤ (Aa7 l (i : Int)).f1 ∧ (Aa7 l (i : Int)).f1 ≤ 2
     ·exact ha
     ·rw [if_neg ha] at this; cases this
    ·rw [if_neg hn] at this; cases this
   ·have := h4 i (by omega) (by omega)
    unfold Ag9 at this
    by_cases hd : Aw0 l i = true
    ·rw [if_pos hd] at this; cases this
    ·exact Bool.eq_false_iff.2 hd
  ·rw [h] at h5
   unfold Ag9 at h5
   by_cases hd : Aw0 l j = true
   ·rw [if_pos hd] at h5; cases h5
   ·rw [if_neg hd] at h5; cases h5
 ·rw [h] at h3
  unfold Ai5 at h3
  by_cases hn : Aq5 (Aa7 l (j : Int)).f0 = true
  ·rw [if_pos hn] at h3
   by_cases ha : 0 ≤ (Aa7 l (j : Int)).f1 ∧ (Aa7 l (j : Int)).f1 ≤ 2
   ·rw [if_pos ha] at h3; cases h3
   ·rw [if_neg ha] at h3; cases h3
  ·rw [if_neg hn] at h3; cases h3
end Go.Proofs.YtgichahebemmiaaGreatDoor.Pure
set_option linter.unusedVariables false
namespace Go.Proofs.YtgichahebemmiaaGreatDoor.Pure
open Go.RowKit Go.Proofs.YtgichahebemmiaaGreatDoor.P Go.Proofs.YtgichahebemmiaaGreatDoorW.PrintWords Go.Proofs.YtgichahebemmiaaGreatDoorW.PrintLast Go.Proofs.YtgichahebemmiaaGreatDoor.Base
def An7 (l : List S79) (n : Int) : Bool := decide (0 ≤ n ∧ n ≤ (l.length : Int) - 1)
theorem l2Symbol_eq (l : List S79) (hl : l.length ≤ 1048576) (n : Int) : spec_l2Symbol.f [(⟨l⟩ : S36)] n = some (An7 l n) := by
 unfold spec_l2Symbol.f
 rw [if_pos (by simp)]
 show (spec_l1In.f n 0 (wrap64 ((l.length : Int) - 1))).bind _ = _
 rw [Au3, Af3 (by omega) (by omega)]
 rfl
theorem isSymbol_eq (l : List S79) (hl : l.length ≤ 1048576) (n : Int) : impl_isSymbol.f l n = some (An7 l n) := by
 unfold impl_isSymbol.f
 rw [Aq1, Af3 (by omega) (by omega)]
 rfl
theorem Aq8 {l : List S79} {n : Int} (h : An7 l n = true) : 0 ≤ n ∧ n < (l.length : Int) := by
 unfold An7 at h
 have := of_decide_eq_true h
 omega
end Go.Proofs.YtgichahebemmiaaGreatDoor.Pure
set_option linter.unusedVariables false
namespace Go.Proofs.YtgichahebemmiaaGreatDoor.Pure
open Go.RowKit Go.Proofs.YtgichahebemmiaaGreatDoor.P Go.Proofs.YtgichahebemmiaaGreatDoorW.PrintWords Go.Proofs.YtgichahebemmiaaGreatDoorW.PrintLast Go.Proofs.YtgichahebemmiaaGreatDoor.Base
theorem Ai6 (o : List Int) (ho : o.length ≤ 9000000000000000000) (v : Int) : Ev (fun k => slices_Index_int64_int64.f k o v) (Ai9 (fun j => v == rd o (j : Int)) o.length) := by
 unfold slices_Index_int64_int64.f
 have h := Ae0 o.length (fun j => if (v == rd o (j : Int)) = true then some (j : Int) else none) (-1) (fun k i => slices_Index_int64_int64.l0 k o v (o.length : Int) i)
  (by simp only [slices_Index_int64_int64.l0]; exact Aa9 (by omega) (Aa4 _))
  (fun i hi r hr => by
   simp only [slices_Index_int64_int64.l0]
   refine Aa3 (by omega) (Aa3 (by omega) (Aa3 (by omega) ?_))
   rw [Ac2 (by omega)]
   by_cases h : v = rd o (i : Int)
   ·exact Aa3 h (Ac6 (Aa4 _) (by simp [h]))
   ·exact Aa9 h (Ac6 hr (by simp [h])))
  o.length 0 (by omega)
 rw [Am2 (fun j => v == rd o (j : Int))] at h
 exact h
theorem slicesContains_ev (o : List Int) (ho : o.length ≤ 9000000000000000000) (v : Int) : Ev (fun k => slices_Contains_int64_int64.f k o v) (Ad1 (fun j => v == rd o (j : Int)) o.length 0).isSome := by
 unfold slices_Contains_int64_int64.f
 refine Aa8 (Ai6 o ho v) (Ac6 (Aa4 _) ?_)
 unfold Ai9
 cases Ad1 (fun j => v == rd o (j : Int)) o.length 0 with
 | none => rfl
 | some j => simp
theorem scanN_const {R : Type} (p : Nat → Bool) (c e : R) (d i : Nat) : Aj7 (fun j => if p j = true then some c else none) e d i = if (Ad1 p d i).isSome = true then c else e := by
 rw [Ag7 p (fun _ => c) e]
 cases Ad1 p d i <;> rfl
theorem firstN_congr {p q : Nat → Bool} : ∀ (d i : Nat), (∀ j, i ≤ j → j < i + d → p j = q j) → Ad1 p d i = Ad1 q d i
 | 0, _, _ => rfl
 | d + 1, i, h => by
  rw [Ad1, Ad1, h i (by omega) (by omega), firstN_congr d (i + 1) (fun j h1 h2 => h j (by omega) (by omega))]
def As8 (o : List Int) (i : Nat) : Bool := (Ad1 (fun j => rd o (i : Int) == rd o (j : Int)) i 0).isSome
def Ag3 (o : List Int) (i : Nat) : Option Int := if As8 o i = true then some 6 else none
def Ax0 (l : List S79) (o : List Int) : Int :=
 if o.length = l.length then (if (Ad1 (fun j => !An7 l (rd o (j : Int))) o.length 0).isSome = true then 3 else Aj7 (Ag3 o) 0 o.length 0) else 2
def As4 (l : List S79) (o : List Int) : Int := if Au5 l = 0 then Ax0 l o else Au5 l
theorem Order_l2 (o : List Int) (ho : o.length ≤ 1048576) (i : Nat) (hi : i < o.length) (r : Int) (hr : Ev (fun k => spec_l2Order.l1 k o ((i + 1 : Nat) : Int)) r) : Ev (fun k => spec_l2Order.l2 k o (i : Int) 0) ((Ag3 o i).getD r) := by
 have h := Ae0 i (fun j => if (rd o (i : Int) == rd o (j : Int)) = true then some 6 else none) r (fun k j => spec_l2Order.l2 k o (i : Int) j)
  (by simp only [spec_l2Order.l2]; refine Aa9 (by omega) ?_; rw [Ac2 (by omega)]; exact hr)
  (fun j hj r hr => by
   simp only [spec_l2Order.l2]
   refine Aa3 (by omega) (Aa3 (by omega) (Aa3 (by omega) (Aa3 (by omega) (Aa3 (by omega) ?_))))
   rw [Ac2 (by omega)]
   by_cases h : rd o (i : Int) = rd o (j : Int)
   ·exact Aa3 h (Ac6 (Aa4 _) (by simp [h]))
   ·exact Aa9 h (Ac6 hr (by simp [h])))
  i 0 (by omega)
 refine Ac6 h ?_
 rw [scanN_const (fun j => rd o (i : Int) == rd o (j : Int)) 6 r]
 unfold Ag3 As8
 cases (Ad1 (fun j => rd o (i : Int) == rd o (j : Int)) i 0).isSome <;> rfl
theorem Order_l1 (o : List Int) (ho : o.length ≤ 1048576) : Ev (fun k => spec_l2Order.l1 k o 0) (Aj7 (Ag3 o) 0 o.length 0) :=
 Ae0 o.length (Ag3 o) 0 (fun k i => spec_l2Order.l1 k o i)
  (by simp only [spec_l2Order.l1]; exact Aa9 (by omega) (Aa4 _))
  (fun i hi r hr => by
   simp only [spec_l2Order.l1]
   exact Aa3 (by omega) (Order_l2 o ho i hi r hr))
  o.length 0 (by omega)
theorem l2Order_ev (l : List S79) (hl : l.length ≤ 6) (o : List Int) (ho : o.length ≤ 1048576) : Ev (fun k => spec_l2Order.f k [(⟨l⟩ : S36)] o) (Ax0 l o) := by
 unfold spec_l2Order.f Ax0
 have e : (Ad0 [(⟨l⟩ : S36)] 0).f0 = l := rfl
 simp only [e]
 refine Aa3 (by simp) ?_
 by_cases hlen : o.length = l.length
 ·rw [if_pos hlen]
  refine Aa3 (by omega) ?_
  have h := Ae0 o.length (fun j => if (!An7 l (rd o (j : Int))) = true then some 3 else none) (Aj7 (Ag3 o) 0 o.length 0) (fun k i => spec_l2Order.l0 k [(⟨l⟩ : S36)] o i)
   (by simp only [spec_l2Order.l0]; exact Aa9 (by omega) (Order_l1 o ho))
   (fun i hi r hr => by
    simp only [spec_l2Order.l0]
    refine Aa3 (by omega) (Aa3 (by omega) (Ac4 (l2Symbol_eq l (by omega) _) ?_))
    rw [Ac2 (by omega)]
    by_cases h : An7 l (rd o (i : Int)) = true
    ·exact Aa3 h (Ac6 hr (by simp [h]))
    ·exact Aa9 h (Ac6 (Aa4 _) (by simp [h])))
   o.length 0 (by omega)
  rw [scanN_const (fun j => !An7 l (rd o (j : Int))) 3] at h
  exact h
 ·rw [if_neg hlen]
  exact Aa9 (by omega) (Aa4 _)
theorem OrderFault_spec (l : List S79) (o : List Int) (ho : o.length ≤ 1048576) : Ev (fun k => spec_OrderFault.f k l o) (As4 l o) := by
 unfold spec_OrderFault.f As4
 refine Aa8 (SignatureFault_spec l) (Ai7 (fun h => ?_) (fun h => Aa4 _))
 have hl := (Al0 l h).len
 exact Aa8 (l2Order_ev l (by omega) o ho) (Aa4 _)
theorem Order_notSym (l : List S79) (hl : l.length ≤ 6) (o : List Int) (ho : o.length ≤ 1048576) :
  Ev (fun k => slices_ContainsFunc_int64_int64_impl_OrderFault_1.f k o [(⟨l⟩ : S36)]) (Ad1 (fun j => !An7 l (rd o (j : Int))) o.length 0).isSome := by
 unfold slices_ContainsFunc_int64_int64_impl_OrderFault_1.f slices_IndexFunc_int64_int64_impl_OrderFault_1.f
 have h := Ae0 o.length (fun j => if (!An7 l (rd o (j : Int))) = true then some (j : Int) else none) (-1) (fun k i => slices_IndexFunc_int64_int64_impl_OrderFault_1.l0 k o (o.length : Int) i [(⟨l⟩ : S36)])
  (by simp only [slices_IndexFunc_int64_int64_impl_OrderFault_1.l0]; exact Aa9 (by omega) (Aa4 _))
  (fun i hi r hr => by
   simp only [slices_IndexFunc_int64_int64_impl_OrderFault_1.l0]
   refine Aa3 (by omega) (Aa3 (by omega) (Aa3 (by omega) (Ac4 (a := !An7 l (rd o (i : Int))) ?_ ?_)))
   ·unfold impl_OrderFault_1_with.f
    rw [if_pos (by simp)]
    exact At5 (isSymbol_eq l (by omega) _) rfl
   ·rw [Ac2 (by omega)]
    by_cases h : (!An7 l (rd o (i : Int))) = true
    ·rw [if_pos h]; exact Aa3 h (Aa4 _)
    ·rw [if_neg h]; exact Aa9 h hr)
  o.length 0 (by omega)
 rw [Ag7 (fun j => !An7 l (rd o (j : Int))) (fun j => (j : Int)) (-1)] at h
 refine Aa8 h (Ac6 (Aa4 _) ?_)
 cases Ad1 (fun j => !An7 l (rd o (j : Int))) o.length 0 with
 | none => rfl
 | some j => simp
theorem Order_l0 (o : List Int) (ho : o.length ≤ 1048576) : Ev (fun k => impl_OrderFault.l0 k o o (o.length : Int) 0) (Aj7 (Ag3 o) 0 o.length 0) :=
 Ae0 o.length (Ag3 o) 0 (fun k i => impl_OrderFault.l0 k o o (o.length : Int) i)
  (by simp only [impl_OrderFault.l0]; exact Aa9 (by omega) (Aa4 _))
  (fun i hi r hr => by
   simp only [impl_OrderFault.l0]
   have hc := slicesContains_ev (o.take i) (by rw [List.length_take]; omega) (rd o (i : Int))
   have hd : (Ad1 (fun j => rd o (i : Int) == rd (o.take i) (j : Int)) (o.take i).length 0).isSome = As8 o i := by
    unfold As8
    rw [List.length_take, Nat.min_eq_left (by omega)]
    rw [firstN_congr i 0 (q := fun j => rd o (i : Int) == rd o (j : Int)) (fun j _ hj => by
     rw [Af7 (o.take i) j (by rw [List.length_take]; omega), Af7 o j (by omega), List.getElem_take])]
   rw [hd] at hc
   refine Aa3 (by omega) (Aa3 (by omega) (Aa3 (by omega) (Aa3 (by omega) ?_)))
   rw [Int.toNat_natCast, Ac2 (by omega)]
   refine Aa8 hc ?_
   unfold Ag3
   by_cases h : As8 o i = true
   ·rw [if_pos h]; exact Aa3 h (Aa4 _)
   ·rw [if_neg h]; exact Aa9 h hr)
  o.length 0 (by omega)
theorem OrderFault_impl (l : List S79) (o : List Int) (ho : o.length ≤ 1048576) : Ev (fun k => impl_OrderFault.f k l o) (As4 l o) := by
 unfold impl_OrderFault.f As4
 refine Aa8 (SignatureFault_impl l) (Ai7 (fun h => ?_) (fun h => Aa4 _))
 have hl := (Al0 l h).len
 unfold Ax0
 by_cases hlen : o.length = l.length
 ·rw [if_pos hlen]
  exact Aa3 (by omega) (Aa8 (Order_notSym l (by omega) o ho) (Ai7 (fun hn => Aa4 _) (fun hn => Order_l0 o ho)))
 ·rw [if_neg hlen]; exact Aa9 (by omega) (Aa4 _)
end Go.Proofs.YtgichahebemmiaaGreatDoor.Pure
set_option linter.unusedVariables false
namespace Go.Proofs.YtgichahebemmiaaGreatDoor.Pure
open Go.RowKit Go.Proofs.YtgichahebemmiaaGreatDoorW.PrintWords Go.Proofs.YtgichahebemmiaaGreatDoor.Base
theorem Am0 : ∀ (m : Nat) (xs : List Nat), xs.Nodup → (∀ x ∈ xs, x < m) → xs.length ≤ m
 | 0, xs, _, h => by
  cases xs with
  | nil => simp
  | cons x xs => exact absurd (h x (by simp)) (by omega)
 | m + 1, xs, hn, h => by
  by_cases hm : m ∈ xs
  ·have h1 := Am0 m (xs.erase m) (hn.erase m) (fun x hx => by
    have := (List.Nodup.mem_erase_iff hn).1 hx
    have := h x this.2
    omega)
   rw [List.length_erase_of_mem hm] at h1
   omega
  ·have h1 := Am0 m xs hn (fun x hx => by
    have := h x hx
    have : x ≠ m := fun e => hm (e ▸ hx)
    omega)
   omega
theorem nodup_all (n : Nat) (xs : List Nat) (hn : xs.Nodup) (h : ∀ x ∈ xs, x < n) (hl : xs.length = n) (v : Nat) (hv : v < n) : v ∈ xs := by
 by_cases hm : v ∈ xs
 ·exact hm
 have := Am0 n (v :: xs) (List.nodup_cons.2 ⟨hm, hn⟩) (fun x hx => by
  rcases List.mem_cons.1 hx with rfl | hx
  ·exact hv
  ·exact h x hx)
 simp only [List.length_cons] at this
 omega
theorem perm_place (o : List Int) (h : ∀ i, i < o.length → 0 ≤ rd o (i : Int) ∧ rd o (i : Int) < (o.length : Int)) (hd : ∀ i j, i < o.length → j < i → rd o (i : Int) ≠ rd o (j : Int)) (v : Int) (h0 : 0 ≤ v) (h1 : v < (o.length : Int)) :
  ∃ j, j < o.length ∧ rd o (j : Int) = v := by
 have hN : (o.map Int.toNat).Nodup := by
  rw [List.nodup_iff_pairwise_ne, List.pairwise_iff_getElem]
  intro i j hi hj hij
  rw [List.length_map] at hi hj
  simp only [List.getElem_map]
  have a := h i hi
  have b := h j hj
  have c := hd j i hj hij
  rw [Af7 o i hi] at a c
  rw [Af7 o j hj] at b c
  omega
 have hm := nodup_all o.length (o.map Int.toNat) hN (fun x hx => by
  obtain ⟨y, hy, rfl⟩ := List.mem_map.1 hx
  obtain ⟨i, hi, rfl⟩ := List.getElem_of_mem hy
  have a := h i hi
  rw [Af7 o i hi] at a
  omega) (by simp) v.toNat (by omega)
 obtain ⟨y, hy, e⟩ := List.mem_map.1 hm
 obtain ⟨i, hi, rfl⟩ := List.getElem_of_mem hy
 refine ⟨i, hi, ?_⟩
 have a := h i hi
 rw [Af7 o i hi] at a ⊢
 omega
end Go.Proofs.YtgichahebemmiaaGreatDoor.Pure
set_option linter.unusedVariables false
namespace Go.Proofs.YtgichahebemmiaaGreatDoor.Pure
open Go.RowKit Go.Proofs.YtgichahebemmiaaGreatDoorW.PrintWords Go.Proofs.YtgichahebemmiaaGreatDoor.Base
def idxN (n : Int) : List Int → Nat
 | [] => 0
 | x :: xs => if x = n then 0 else idxN n xs + 1
theorem Au0 (n : Int) : ∀ l : List Int, n ∈ l → idxN n l < l.length
 | [], h => by simp at h
 | x :: xs, h => by
  unfold idxN
  by_cases e : x = n
  ·rw [if_pos e]; simp
  ·rw [if_neg e]
   rcases List.mem_cons.1 h with h | h
   ·exact absurd h.symm e
   ·have := Au0 n xs h
    simp only [List.length_cons]; omega
theorem As2 (n : Int) : ∀ (l : List Int) (h : idxN n l < l.length), l[idxN n l] = n
 | [], h => by simp at h
 | x :: xs, h => by
  by_cases e : x = n
  ·have : idxN n (x :: xs) = 0 := by unfold idxN; rw [if_pos e]
   simp only [this, List.getElem_cons_zero]; exact e
  ·have hk : idxN n (x :: xs) = idxN n xs + 1 := by rw [idxN, if_neg e]
   simp only [hk, List.getElem_cons_succ]
   exact As2 n xs (by rw [hk] at h; simpa using h)
theorem idxN_first (n : Int) : ∀ (l : List Int) (j : Nat) (hj : j < l.length), j < idxN n l → l[j] ≠ n
 | [], j, hj, _ => by simp at hj
 | x :: xs, j, hj, h => by
  by_cases e : x = n
  ·rw [idxN, if_pos e] at h; omega
  ·rw [idxN, if_neg e] at h
   cases j with
   | zero => simpa using e
   | succ j => simpa using idxN_first n xs j (by simpa using hj) (by omega)
theorem placeN_idx (l : List Int) (n : Int) : Ai9 (fun j => n == rd l (j : Int)) l.length = if n ∈ l then (idxN n l : Int) else -1 := by
 rcases placeN_cases (fun j => n == rd l (j : Int)) l.length with ⟨h1, h2⟩ | ⟨j, hj, h1, h2, h3⟩
 ·rw [h1, if_neg]
  intro hm
  have hlt := Au0 n l hm
  have := h2 (idxN n l) hlt
  rw [Af7 l _ hlt, As2 n l hlt] at this
  simp at this
 ·have e : l[j] = n := by
   rw [Af7 l j hj] at h2
   exact (beq_iff_eq.1 h2).symm
  have hm : n ∈ l := e ▸ List.getElem_mem hj
  rw [h1, if_pos hm]
  have hlt := Au0 n l hm
  rcases Nat.lt_trichotomy j (idxN n l) with k | k | k
  ·exact absurd e (idxN_first n l j hj k)
  ·rw [k]
  ·have := h3 (idxN n l) k
   rw [Af7 l _ hlt, As2 n l hlt] at this
   simp at this
end Go.Proofs.YtgichahebemmiaaGreatDoor.Pure
set_option linter.unusedVariables false
namespace Go.Proofs.YtgichahebemmiaaGreatDoor.Pure
open Go.RowKit Go.Proofs.YtgichahebemmiaaGreatDoorW.PrintWords Go.Proofs.YtgichahebemmiaaGreatDoor.Base
def Aj4 (ar : Int → Nat) : Nat → List Int → Option (List Int)
 | 0, t => some t
 | _ + 1, [] => none
 | k + 1, n :: t => Aj4 ar (k + ar n) t
theorem Am1 (ar : Int → Nat) (t : List Int) : Aj4 ar 0 t = some t := by cases t <;> rfl
theorem An1 (ar : Int → Nat) (m : Nat) : ∀ (t : List Int) (k : Nat), Aj4 ar (k + m) t = (Aj4 ar k t).bind (Aj4 ar m)
 | t, 0 => by rw [Am1, Nat.zero_add]; rfl
 | [], k + 1 => by rw [show k + 1 + m = (k + m) + 1 by omega]; rfl
 | n :: t, k + 1 => by
  rw [show k + 1 + m = (k + m) + 1 by omega]
  show Aj4 ar (k + m + ar n) t = (Aj4 ar (k + ar n) t).bind (Aj4 ar m)
  rw [show k + m + ar n = k + ar n + m by omega]
  exact An1 ar m t (k + ar n)
theorem skipN_succ (ar : Int → Nat) (t : List Int) (k : Nat) : Aj4 ar (k + 1) t = (Aj4 ar 1 t).bind (Aj4 ar k) := by
 rw [show k + 1 = 1 + k by omega]; exact An1 ar k t 1
theorem skipN_cons (ar : Int → Nat) (n : Int) (t : List Int) (k : Nat) : Aj4 ar (k + 1) (n :: t) = Aj4 ar (k + ar n) t := rfl
theorem Al9 (ar : Int → Nat) : ∀ (t : List Int) (k : Nat) (u : List Int), Aj4 ar k t = some u → ∃ d, u = t.drop d ∧ d ≤ t.length ∧ k ≤ d
 | t, 0, u, h => by
  rw [Am1] at h
  obtain rfl := Option.some.inj h
  exact ⟨0, by simp, by omega, by omega⟩
 | [], k + 1, u, h => by cases h
 | n :: t, k + 1, u, h => by
  obtain ⟨d, e, hd, hk⟩ := Al9 ar t (k + ar n) u h
  exact ⟨d + 1, by rw [e]; rfl, by simp; omega, by omega⟩
def Aj3 (ar : Int → Nat) (term : List Int) (k at_ : Nat) : Option Nat := (Aj4 ar k (term.drop at_)).map fun u => term.length - u.length
theorem Ak2 {ar : Int → Nat} {term : List Int} {k at_ e : Nat} (hat : at_ ≤ term.length) (h : Aj3 ar term k at_ = some e) : Aj4 ar k (term.drop at_) = some (term.drop e) ∧ at_ + k ≤ e ∧ e ≤ term.length := by
 unfold Aj3 at h
 cases hs : Aj4 ar k (term.drop at_) with
 | none => rw [hs] at h; cases h
 | some u =>
  rw [hs] at h
  obtain ⟨d, e1, hd, hk⟩ := Al9 ar _ _ _ hs
  rw [List.length_drop] at hd
  have he : term.length - u.length = e := Option.some.inj h
  have hul : u.length = term.length - (at_ + d) := by rw [e1, List.drop_drop, List.length_drop]
  have hed : e = at_ + d := by omega
  refine ⟨?_, by omega, by omega⟩
  rw [e1, List.drop_drop, hed]
theorem Am7 (ar : Int → Nat) (term : List Int) (at_ : Nat) (hat : at_ ≤ term.length) : Aj3 ar term 0 at_ = some at_ := by
 unfold Aj3
 rw [Am1]
 simp only [Option.map_some, List.length_drop]
 congr 1; omega
theorem endN_out (ar : Int → Nat) (term : List Int) (k at_ : Nat) (hk : 0 < k) (hat : term.length ≤ at_) : Aj3 ar term k at_ = none := by
 unfold Aj3
 obtain ⟨m, rfl⟩ : ∃ m, k = m + 1 := ⟨k - 1, by omega⟩
 rw [List.drop_eq_nil_of_le hat]; rfl
theorem Aq6 (ar : Int → Nat) (term : List Int) (k at_ : Nat) (hat : at_ < term.length) : Aj3 ar term (k + 1) at_ = Aj3 ar term (k + ar term[at_]) (at_ + 1) := by
 unfold Aj3
 rw [List.drop_eq_getElem_cons hat, skipN_cons]
theorem Ap3 (ar : Int → Nat) (term : List Int) (k m at_ : Nat) (hat : at_ ≤ term.length) : Aj3 ar term (k + m) at_ = (Aj3 ar term k at_).bind fun e => Aj3 ar term m e := by
 cases h : Aj3 ar term k at_ with
 | none =>
  unfold Aj3 at h ⊢
  rw [An1]
  cases hs : Aj4 ar k (term.drop at_) with
  | none => rfl
  | some u => rw [hs] at h; cases h
 | some e =>
  obtain ⟨hs, _, _⟩ := Ak2 hat h
  simp only [Option.bind_some]
  unfold Aj3
  rw [An1, hs]
  rfl
end Go.Proofs.YtgichahebemmiaaGreatDoor.Pure
set_option linter.unusedVariables false
namespace Go.Proofs.YtgichahebemmiaaGreatDoor.Pure
open Go.RowKit Go.Proofs.YtgichahebemmiaaGreatDoorW.PrintWords Go.Proofs.YtgichahebemmiaaGreatDoor.Base
def Aq9 (ar : Int → Nat) (t : List Int) : Nat → Nat → List Nat
 | 0, _ => []
 | m + 1, e => e :: (match Aj3 ar t 1 e with
  | some e' => Aq9 ar t m e'
  | none => [])
theorem An4 {ar : Int → Nat} {t : List Int} {m e e' : Nat} (h : Aj3 ar t 1 e = some e') : Aq9 ar t (m + 1) e = e :: Aq9 ar t m e' := by
 rw [Aq9, h]
theorem endN_sub (ar : Int → Nat) (t : List Int) (h : Aj3 ar t 1 0 = some t.length) : ∀ at_, at_ < t.length → ∃ e, Aj3 ar t 1 at_ = some e := by
 have key : ∀ (t : List Int) (k at_ : Nat) (u : List Int), Aj4 ar (k + 1) t = some u → at_ + u.length < t.length → ∃ v, Aj4 ar 1 (t.drop at_) = some v := by
  intro t
  induction t with
  | nil => intro k at_ u h hl; simp at hl
  | cons n t ih =>
   intro k at_ u h hl
   cases at_ with
   | zero =>
    rw [skipN_succ] at h
    cases hs : Aj4 ar 1 (n :: t) with
    | none => rw [hs] at h; cases h
    | some v => exact ⟨v, hs⟩
   | succ a =>
    rw [skipN_cons] at h
    rw [List.drop_succ_cons]
    simp only [List.length_cons] at hl
    cases hm : k + ar n with
    | zero =>
     rw [hm, Am1] at h
     obtain rfl := Option.some.inj h
     omega
    | succ m =>
     rw [hm] at h
     exact ih m a u h (by omega)
 intro at_ hat
 unfold Aj3 at h
 cases hs : Aj4 ar 1 (t.drop 0) with
 | none => rw [hs] at h; cases h
 | some u =>
  rw [hs] at h
  have hu : t.length - u.length = t.length := Option.some.inj h
  obtain ⟨d, e, hd, hk⟩ := Al9 ar _ _ _ hs
  rw [List.drop_zero] at hs e hd
  have hul : u.length = t.length - d := by rw [e, List.length_drop]
  obtain ⟨v, hv⟩ := key t 0 at_ u hs (by omega)
  exact ⟨t.length - v.length, by unfold Aj3; rw [hv]; rfl⟩
def Ad6 (ar : Int → Nat) (t : List Int) (a : Nat) : List Nat := Aq9 ar t (ar (rd t (a : Int))) (a + 1)
theorem argsN_bound {ar : Int → Nat} {t : List Int} : ∀ (m e e' : Nat), e ≤ t.length → Aj3 ar t m e = some e' → (Aq9 ar t m e).length = m ∧ ∀ p ∈ Aq9 ar t m e, e ≤ p ∧ p < t.length ∧ ∃ q, Aj3 ar t 1 p = some q
 | 0, e, e', he, h => ⟨rfl, fun p hp => by cases hp⟩
 | m + 1, e, e', he, h => by
  rw [show m + 1 = 1 + m by omega, Ap3 ar t 1 m e he] at h
  cases h1 : Aj3 ar t 1 e with
  | none => rw [h1] at h; cases h
  | some q =>
   rw [h1] at h
   simp only [Option.bind_some] at h
   obtain ⟨_, b1, b2⟩ := Ak2 he h1
   obtain ⟨i1, i2⟩ := argsN_bound m q e' b2 h
   rw [An4 h1]
   refine ⟨by rw [List.length_cons, i1], fun p hp => ?_⟩
   rcases List.mem_cons.1 hp with rfl | hp
   ·exact ⟨Nat.le_refl _, by omega, q, h1⟩
   ·obtain ⟨c1, c2, c3⟩ := i2 p hp
    exact ⟨by omega, c2, c3⟩
theorem Ap9 {ar : Int → Nat} {t : List Int} {a e : Nat} (ha : a < t.length) (h : Aj3 ar t 1 a = some e) : Aj3 ar t (ar (rd t (a : Int))) (a + 1) = some e := by
 rw [Aq6 ar t 0 a ha, ← Af7 t a ha, Nat.zero_add] at h
 exact h
theorem Af5 {ar : Int → Nat} {t : List Int} {a e : Nat} (ha : a < t.length) (h : Aj3 ar t 1 a = some e) :
  (Ad6 ar t a).length = ar (rd t (a : Int)) ∧ ∀ p ∈ Ad6 ar t a, a < p ∧ p < t.length ∧ ∃ q, Aj3 ar t 1 p = some q := by
 obtain ⟨h1, h2⟩ := argsN_bound (ar (rd t (a : Int))) (a + 1) e (by omega) (Ap9 ha h)
 exact ⟨h1, fun p hp => by obtain ⟨x, y, z⟩ := h2 p hp; exact ⟨by omega, y, z⟩⟩
end Go.Proofs.YtgichahebemmiaaGreatDoor.Pure
set_option linter.unusedVariables false
namespace Go.Proofs.YtgichahebemmiaaGreatDoor.Pure
open Go.RowKit Go.Proofs.YtgichahebemmiaaGreatDoorW.PrintWords Go.Proofs.YtgichahebemmiaaGreatDoor.Base
def Whole (ar : Int → Nat) (t : List Int) : Prop := Aj4 ar 1 t = some []
end Go.Proofs.YtgichahebemmiaaGreatDoor.Pure
set_option linter.unusedVariables false
namespace Go.Proofs.YtgichahebemmiaaGreatDoor.Pure
open Go.RowKit Go.Proofs.YtgichahebemmiaaGreatDoor.P Go.Proofs.YtgichahebemmiaaGreatDoorW.PrintWords Go.Proofs.YtgichahebemmiaaGreatDoorW.PrintLast Go.Proofs.YtgichahebemmiaaGreatDoor.Base
def Aj8 (l : List S79) (n : Int) : Bool := An7 l n || decide (-12 ≤ n ∧ n ≤ -1)
def arL (l : List S79) (n : Int) : Nat := if n < 0 then 0 else (Aa7 l n).f1.toNat
theorem Aq7 (l : List S79) (hl : l.length ≤ 6) (n : Int) : spec_l3Node.f [(⟨l⟩ : S36)] n = some (Aj8 l n) := by
 unfold spec_l3Node.f Aj8
 rw [l2Symbol_eq l (by omega)]
 simp only [Option.bind_some]
 by_cases h : An7 l n = true
 ·rw [if_pos h, h]; rfl
 ·rw [if_neg h, Au3, Bool.eq_false_iff.2 h]; rfl
theorem isNode_eq (l : List S79) (hl : l.length ≤ 6) (n : Int) : impl_isNode.f l n = some (Aj8 l n) := by
 unfold impl_isNode.f Aj8
 rw [isSymbol_eq l (by omega)]
 simp only [Option.bind_some]
 by_cases h : An7 l n = true
 ·rw [if_pos h, h]; rfl
 ·rw [if_neg h, Aq1, Bool.eq_false_iff.2 h]; rfl
def Au1 (l : List S79) (t : List Int) : Prop := ∀ i, i < t.length → Aj8 l (rd t (i : Int)) = true
theorem Ap2 {l : List S79} {n : Int} (h : Aj8 l n = true) (h0 : ¬ n < 0) : 0 ≤ n ∧ n < (l.length : Int) := by
 unfold Aj8 at h
 rw [Bool.or_eq_true] at h
 rcases h with h | h
 ·exact Aq8 h
 ·have := of_decide_eq_true h; omega
theorem Ap4 {l : List S79} (hr : Right l) {n : Int} (h : Aj8 l n = true) (h0 : ¬ n < 0) : (Aa7 l n).f1 = (arL l n : Int) ∧ arL l n ≤ 2 := by
 obtain ⟨a, b⟩ := Ap2 h h0
 have := hr.arities n.toNat (by omega)
 rw [Int.toNat_of_nonneg a] at this
 unfold arL
 rw [if_neg h0]
 omega
theorem Ao1 {l : List S79} (hr : Right l) {n : Int} (h : Aj8 l n = true) : arL l n ≤ 2 := by
 by_cases h0 : n < 0
 ·unfold arL; rw [if_pos h0]; omega
 ·exact (Ap4 hr h h0).2
def Au4 (o : Option Nat) : Int := match o with
 | some e => (e : Int)
 | none => -1
theorem l3End_loop (l : List S79) (hr : Right l) (t : List Int) (ht : t.length ≤ 1048576) (hn : Au1 l t) (at_ : Nat) (hat : at_ < t.length) (h0 : ¬ rd t (at_ : Int) < 0)
  (ih : ∀ e, at_ < e → e ≤ t.length → Ev (fun k => spec_l3End.f k [(⟨l⟩ : S36)] t (e : Int)) (Au4 (Aj3 (arL l) t 1 e))) :
  ∀ (m i e : Nat), i + m = arL l (rd t (at_ : Int)) → at_ < e → e ≤ t.length → Ev (fun k => spec_l3End.l0 k [(⟨l⟩ : S36)] t (at_ : Int) (e : Int) (i : Int)) (Au4 (Aj3 (arL l) t m e)) := by
 obtain ⟨s0, s1⟩ := Ap2 (hn at_ hat) h0
 obtain ⟨ha, ha2⟩ := Ap4 hr (hn at_ hat) h0
 have e0 : (Ad0 [(⟨l⟩ : S36)] 0).f0 = l := rfl
 intro m
 induction m with
 | zero =>
  intro i e hi he hel
  refine Ab2 ?_
  simp only [spec_l3End.l0, e0]
  refine Aa3 (by simp) (Aa3 (by omega) (Aa3 (by omega) (Aa3 s0 (Aa3 s1 ?_))))
  rw [ha, Am7 _ _ _ hel]
  exact Aa9 (by omega) (Aa4 _)
 | succ m ihm =>
  intro i e hi he hel
  refine Ab2 ?_
  simp only [spec_l3End.l0, e0]
  refine Aa3 (by simp) (Aa3 (by omega) (Aa3 (by omega) (Aa3 s0 (Aa3 s1 ?_))))
  rw [ha]
  refine Aa3 (by omega) (Aa8 (ih e he hel) ?_)
  rw [show m + 1 = 1 + m by omega, Ap3 _ _ 1 m e hel]
  cases hE : Aj3 (arL l) t 1 e with
  | none => exact Aa3 (by simp [Au4]) (Aa4 _)
  | some e' =>
   obtain ⟨_, h1, h2⟩ := Ak2 hel hE
   refine Aa9 (by simp [Au4]) ?_
   rw [Ac2 (by omega)]
   simp only [Option.bind_some]
   exact ihm (i + 1) e' (by omega) (by omega) h2
theorem Am5 (l : List S79) (hr : Right l) (t : List Int) (ht : t.length ≤ 1048576) (hn : Au1 l t) : ∀ (d at_ : Nat), at_ + d = t.length → Ev (fun k => spec_l3End.f k [(⟨l⟩ : S36)] t (at_ : Int)) (Au4 (Aj3 (arL l) t 1 at_)) := by
 intro d
 induction d using Nat.strongRecOn with
 | _ d ih =>
  intro at_ hd
  refine Ab2 ?_
  simp only [spec_l3End.f]
  by_cases hat : t.length ≤ at_
  ·rw [endN_out _ _ _ _ (by omega) hat]
   exact Aa3 (by omega) (Aa4 _)
  have hat' : at_ < t.length := by omega
  refine Aa9 (by omega) (Aa3 (by omega) (Aa3 (by omega) ?_))
  rw [Aq6 _ _ 0 _ hat', ← Af7 t at_ hat', Nat.zero_add, Ac2 (by omega)]
  by_cases h0 : rd t (at_ : Int) < 0
  ·refine Aa3 h0 ?_
   have : arL l (rd t (at_ : Int)) = 0 := by unfold arL; rw [if_pos h0]
   rw [this, Am7 _ _ _ (by omega)]
   exact Aa4 _
  ·refine Aa9 h0 ?_
   exact l3End_loop l hr t ht hn at_ hat' h0 (fun e he hel => ih (t.length - e) (by omega) e (by omega)) _ 0 (at_ + 1) (by omega) (by omega) (by omega)
def Aw4 (n : Nat) (o : Option Nat) : Int := match o with
 | some e => (e : Int)
 | none => (n : Int) + 1
theorem arityOf_eq (l : List S79) (hr : Right l) (n : Int) (h : Aj8 l n = true) : impl_arityOf.f l n = some (arL l n : Int) := by
 unfold impl_arityOf.f
 by_cases h0 : n < 0
 ·rw [if_pos h0]; unfold arL; rw [if_pos h0]; rfl
 ·obtain ⟨s0, s1⟩ := Ap2 h h0
  rw [if_neg h0, if_pos s0, if_pos s1, (Ap4 hr h h0).1]
theorem endOf_l0 (l : List S79) (hr : Right l) (t : List Int) (ht : t.length ≤ 1048576) (hn : Au1 l t) : ∀ (d at_ o : Nat), at_ + d = t.length → o ≤ 2 * at_ + 1 → Ev (fun k => impl_endOf.l0 k t (at_ : Int) (o : Int) l) (Aw4 t.length (Aj3 (arL l) t o at_)) := by
 intro d
 induction d with
 | zero =>
  intro at_ o hd ho
  refine Ab2 ?_
  simp only [impl_endOf.l0]
  cases o with
  | zero =>
   rw [Am7 _ _ _ (by omega)]
   exact Aa9 (by omega) (Aa4 _)
  | succ o =>
   rw [endN_out _ _ _ _ (by omega) (by omega)]
   refine Aa3 (by omega) (Aa3 (by omega) ?_)
   rw [Ac2 (by omega)]
   exact Ac6 (Aa4 _) (by simp [Aw4])
 | succ d ih =>
  intro at_ o hd ho
  refine Ab2 ?_
  simp only [impl_endOf.l0]
  cases o with
  | zero =>
   rw [Am7 _ _ _ (by omega)]
   exact Aa9 (by omega) (Aa4 _)
  | succ o =>
   have hat : at_ < t.length := by omega
   refine Aa3 (by omega) (Aa9 (by omega) (Aa3 (by omega) (Aa3 (by omega) (Ac4 (arityOf_eq l hr _ (hn at_ hat)) ?_))))
   have ha := Ao1 hr (hn at_ hat)
   rw [Aq6 _ _ o _ hat, ← Af7 t at_ hat, Ac2 (by omega)]
   generalize arL l (rd t (at_ : Int)) = a at *
   rw [Af3 (x := (a : Int) - 1) (by omega) (by omega), Af3 (by omega) (by omega), show ((o + 1 : Nat) : Int) + ((a : Int) - 1) = ((o + a : Nat) : Int) by omega]
   exact ih (at_ + 1) (o + a) (by omega) (by omega)
theorem As1 (l : List S79) (hr : Right l) (t : List Int) (ht : t.length ≤ 1048576) (hn : Au1 l t) (at_ : Nat) (hat : at_ ≤ t.length) : Ev (fun k => impl_endOf.f k l t (at_ : Int)) (Aw4 t.length (Aj3 (arL l) t 1 at_)) := by
 unfold impl_endOf.f
 exact endOf_l0 l hr t ht hn (t.length - at_) at_ 1 (by omega) (by omega)
def Aw3 (l : List S79) (t : List Int) : Bool := (Ad1 (fun j => !Aj8 l (rd t (j : Int))) t.length 0).isSome
theorem Ar8 {l : List S79} {t : List Int} (h : ¬ Aw3 l t = true) : Au1 l t := by
 unfold Aw3 at h
 have h1 : Ad1 (fun j => !Aj8 l (rd t (j : Int))) t.length 0 = none := by
  cases hf : Ad1 (fun j => !Aj8 l (rd t (j : Int))) t.length 0 with
  | none => rfl
  | some j => rw [hf] at h; exact absurd rfl h
 intro i hi
 have := (Ai0 t.length 0).1 h1 i (by omega) (by omega)
 simpa using this
def At8 (l : List S79) (t : List Int) : Int :=
 if t.length < 1 ∨ t.length > 24 then 2 else if Aw3 l t = true then 3 else if Aj3 (arL l) t 1 0 = some t.length then 0 else 1
def Ak5 (l : List S79) (t : List Int) : Int := if Au5 l = 0 then At8 l t else Au5 l
theorem l3Fault_ev (l : List S79) (hr : Right l) (t : List Int) (ht : t.length ≤ 1048576) : Ev (fun k => spec_l3Fault.f k [(⟨l⟩ : S36)] t) (At8 l t) := by
 have hl := hr.len
 unfold spec_l3Fault.f At8
 by_cases h1 : (t.length : Int) < 1
 ·rw [if_pos (.inl (by omega))]
  refine Aa3 h1 (Ab2 ?_)
  simp only [spec_l3Fault.j0]
  exact Aa3 (by simp) (Aa4 _)
 refine Aa9 h1 (Ab2 ?_)
 simp only [spec_l3Fault.j0]
 by_cases h2 : (t.length : Int) > 24
 ·rw [if_pos (.inr (by omega))]
  exact Aa3 (by simpa using h2) (Aa4 _)
 rw [if_neg (by omega)]
 refine Aa9 (by simpa using h2) ?_
 by_cases hb : Aw3 l t = true
 ·rw [if_pos hb]
  unfold Aw3 at hb
  cases hf : Ad1 (fun j => !Aj8 l (rd t (j : Int))) t.length 0 with
  | none => rw [hf] at hb; cases hb
  | some j =>
   obtain ⟨_, hj, hp, hall⟩ := Am4 _ _ _ hf
   have key : ∀ d i, i + d = j → Ev (fun k => spec_l3Fault.l0 k [(⟨l⟩ : S36)] t (i : Int)) 3 := by
    intro d
    induction d with
    | zero =>
     intro i hi
     obtain rfl : i = j := by omega
     refine Ab2 ?_
     simp only [spec_l3Fault.l0]
     refine Aa3 (by omega) (Aa3 (by omega) (Ac4 (Aq7 l (by omega) _) ?_))
     exact Aa9 (by simpa using hp) (Aa4 _)
    | succ d ih =>
     intro i hi
     refine Ab2 ?_
     simp only [spec_l3Fault.l0]
     refine Aa3 (by omega) (Aa3 (by omega) (Ac4 (Aq7 l (by omega) _) ?_))
     have := hall i (by omega) (by omega)
     rw [Ac2 (by omega)]
     exact Aa3 (by simpa using this) (ih (i + 1) (by omega))
   exact key j 0 (by omega)
 ·rw [if_neg hb]
  have hn := Ar8 hb
  have h := Ae0 t.length (fun j => if (!Aj8 l (rd t (j : Int))) = true then some 3 else none) (if Aj3 (arL l) t 1 0 = some t.length then 0 else 1) (fun k i => spec_l3Fault.l0 k [(⟨l⟩ : S36)] t i)
   (by
    simp only [spec_l3Fault.l0]
    refine Aa9 (by omega) (Aa8 (Am5 l hr t ht hn t.length 0 (by omega)) ?_)
    by_cases he : Aj3 (arL l) t 1 0 = some t.length
    ·rw [he]; exact Aa3 rfl (Ac6 (Aa4 _) (if_pos rfl).symm)
    ·refine Aa9 ?_ (Ac6 (Aa4 _) (if_neg he).symm)
     cases hE : Aj3 (arL l) t 1 0 with
     | none => simp [Au4] <;> omega
     | some e =>
      intro k
      have : e = t.length := by simp only [Au4] at k; omega
      exact he (by rw [hE, this]))
   (fun i hi r hr => by
    simp only [spec_l3Fault.l0]
    refine Aa3 (by omega) (Aa3 (by omega) (Ac4 (Aq7 l (by omega) _) ?_))
    rw [Ac2 (by omega), hn i hi]
    exact Aa3 rfl (Ac6 hr (by simp)))
   t.length 0 (by omega)
  refine Ac6 h ?_
  exact scanN_none t.length 0 (fun j _ hj => by simp [hn j (by omega)])
theorem Term_bad (l : List S79) (hl : l.length ≤ 6) (t : List Int) (ht : t.length ≤ 1048576) :
  Ev (fun k => slices_ContainsFunc_int64_int64_impl_TermFault_1.f k t [(⟨l⟩ : S36)]) (Aw3 l t) := by
 unfold slices_ContainsFunc_int64_int64_impl_TermFault_1.f slices_IndexFunc_int64_int64_impl_TermFault_1.f
 have h := Ae0 t.length (fun j => if (!Aj8 l (rd t (j : Int))) = true then some (j : Int) else none) (-1) (fun k i => slices_IndexFunc_int64_int64_impl_TermFault_1.l0 k t (t.length : Int) i [(⟨l⟩ : S36)])
  (by simp only [slices_IndexFunc_int64_int64_impl_TermFault_1.l0]; exact Aa9 (by omega) (Aa4 _))
  (fun i hi r hr => by
   simp only [slices_IndexFunc_int64_int64_impl_TermFault_1.l0]
   refine Aa3 (by omega) (Aa3 (by omega) (Aa3 (by omega) (Ac4 (a := !Aj8 l (rd t (i : Int))) ?_ ?_)))
   ·unfold impl_TermFault_1_with.f
    rw [if_pos (by simp)]
    exact At5 (isNode_eq l (by omega) _) rfl
   ·rw [Ac2 (by omega)]
    by_cases h : (!Aj8 l (rd t (i : Int))) = true
    ·rw [if_pos h]; exact Aa3 h (Aa4 _)
    ·rw [if_neg h]; exact Aa9 h hr)
  t.length 0 (by omega)
 rw [Ag7 (fun j => !Aj8 l (rd t (j : Int))) (fun j => (j : Int)) (-1)] at h
 refine Aa8 h (Ac6 (Aa4 _) ?_)
 unfold Aw3
 cases Ad1 (fun j => !Aj8 l (rd t (j : Int))) t.length 0 with
 | none => rfl
 | some j => simp
theorem TermFault_impl (l : List S79) (t : List Int) (ht : t.length ≤ 1048576) : Ev (fun k => impl_TermFault.f k l t) (Ak5 l t) := by
 unfold impl_TermFault.f Ak5
 refine Aa8 (SignatureFault_impl l) (Ai7 (fun h => ?_) (fun h => Aa4 _))
 have hr := Al0 l h
 have hl := hr.len
 unfold At8
 by_cases h1 : (t.length : Int) < 1
 ·rw [if_pos (.inl (by omega))]
  refine Aa3 h1 (Ab2 ?_)
  simp only [impl_TermFault.j0]
  exact Aa3 (by simp) (Aa4 _)
 refine Aa9 h1 (Ab2 ?_)
 simp only [impl_TermFault.j0]
 by_cases h2 : (t.length : Int) > 24
 ·rw [if_pos (.inr (by omega))]
  exact Aa3 (by simpa using h2) (Aa4 _)
 rw [if_neg (by omega)]
 refine Aa9 (by simpa using h2) (Aa8 (Term_bad l (by omega) t ht) (Ai7 (fun hb => Aa4 _) (fun hb => ?_)))
 have hn := Ar8 hb
 refine Aa8 (As1 l hr t ht hn 0 (by omega)) ?_
 by_cases he : Aj3 (arL l) t 1 0 = some t.length
 ·rw [he]; exact Aa3 rfl (Ac6 (Aa4 _) (if_pos rfl).symm)
 ·refine Aa9 ?_ (Ac6 (Aa4 _) (if_neg he).symm)
  cases hE : Aj3 (arL l) t 1 0 with
  | none => simp [Aw4] <;> omega
  | some e =>
   intro k
   have : e = t.length := by simp only [Aw4] at k; omega
   exact he (by rw [hE, this])
structure RightT (l : List S79) (t : List Int) : Prop where
 sig : Right l
 len : 1 ≤ t.length ∧ t.length ≤ 24
 nodes : Au1 l t
 whole : Aj3 (arL l) t 1 0 = some t.length
theorem Ak6 {l : List S79} {t : List Int} (h : Ak5 l t = 0) : RightT l t := by
 unfold Ak5 at h
 by_cases hs : Au5 l = 0
 ·rw [if_pos hs] at h
  unfold At8 at h
  by_cases h1 : t.length < 1 ∨ t.length > 24
  ·rw [if_pos h1] at h; cases h
  rw [if_neg h1] at h
  by_cases h2 : Aw3 l t = true
  ·rw [if_pos h2] at h; cases h
  rw [if_neg h2] at h
  by_cases h3 : Aj3 (arL l) t 1 0 = some t.length
  ·exact ⟨Al0 l hs, by omega, Ar8 h2, h3⟩
  ·rw [if_neg h3] at h; cases h
 ·rw [if_neg hs] at h; exact absurd h hs
end Go.Proofs.YtgichahebemmiaaGreatDoor.Pure
set_option linter.unusedVariables false
namespace Go.Proofs.YtgichahebemmiaaGreatDoor.Pure
open Go.RowKit Go.Proofs.YtgichahebemmiaaGreatDoor.P Go.Proofs.YtgichahebemmiaaGreatDoorW.PrintWords Go.Proofs.YtgichahebemmiaaGreatDoorW.PrintLast Go.Proofs.YtgichahebemmiaaGreatDoor.Base
def sbL (l : List S79) (t : List Int) (i : Nat) : List Int := (t.take ((Aj3 (arL l) t 1 i).getD 0)).drop i
theorem Ak3 {l : List S79} {t : List Int} (h : RightT l t) {i : Nat} (hi : i < t.length) : ∃ e, Aj3 (arL l) t 1 i = some e ∧ i < e ∧ e ≤ t.length ∧ sbL l t i = (t.take e).drop i := by
 obtain ⟨e, he⟩ := endN_sub _ t h.whole i hi
 obtain ⟨_, h1, h2⟩ := Ak2 (by omega) he
 exact ⟨e, he, h1, h2, by unfold sbL; rw [he]; rfl⟩
theorem sbL_length {l : List S79} {t : List Int} (h : RightT l t) (i : Nat) : (sbL l t i).length ≤ 24 := by
 have := h.len
 unfold sbL
 simp only [List.length_drop, List.length_take]; omega
theorem Au2 : ∀ u v : List Int, u.length = v.length → Aw9 (fun x y => decide (x = y)) u v = decide (u = v)
 | [], [], _ => by simp [Aw9]
 | x :: u, y :: v, h => by
  have ih := Au2 u v (by simpa using h)
  rw [Aw9]
  by_cases e : x = y
  ·rw [if_pos (by simpa using e), ih]; simp [e]
  ·rw [if_neg (by simpa using e)]; simp [e]
 | [], _ :: _, h => by simp at h
 | _ :: _, [], h => by simp at h
theorem sliceEq_ev (u v : List Int) (hu : u.length ≤ 1048576) : Ev (fun k => slices_Equal_int64_int64.f k u v) (decide (u = v)) := by
 unfold slices_Equal_int64_int64.f
 by_cases hl : u.length = v.length
 ·have := loop_all (fun x y => decide (x = y)) u v hl (fun k i => slices_Equal_int64_int64.l0 k u v (u.length : Int) i)
   (fun k => by simp only [slices_Equal_int64_int64.l0]; exact if_neg (by omega))
   (fun i ha hb r hr => by
    simp only [slices_Equal_int64_int64.l0]
    refine Aa3 (by omega) (Aa3 (by omega) (Aa3 (by omega) (Aa3 (by omega) ?_)))
    rw [Ac2 (by omega), Af7 u i ha, Af7 v i hb]
    by_cases e : u[i] = v[i]
    ·exact Aa3 e (Ac6 hr (by simp [e]))
    ·exact Aa9 e (Ac6 (Aa4 _) (by simp [e])))
   u.length 0 (by omega)
  rw [List.drop_zero, List.drop_zero, Au2 u v hl] at this
  exact Aa3 (by omega) this
 ·exact Aa9 (by omega) (Ac6 (Aa4 _) (by rw [decide_eq_false (fun e => hl (by rw [e]))]))
theorem l1Same_ev (u v : List Int) (hu : u.length ≤ 1048576) : Ev (fun k => spec_l1Same.f k u v) (decide (u = v)) := by
 unfold spec_l1Same.f
 by_cases hl : u.length = v.length
 ·have := loop_all (fun x y => decide (x = y)) u v hl (fun k i => spec_l1Same.l0 k u v i)
   (fun k => by simp only [spec_l1Same.l0]; exact if_neg (by omega))
   (fun i ha hb r hr => by
    simp only [spec_l1Same.l0]
    refine Aa3 (by omega) (Aa3 (by omega) (Aa3 (by omega) ?_))
    rw [Ac2 (by omega), Af7 u i ha, Af7 v i hb]
    by_cases e : u[i] = v[i]
    ·exact Aa3 e (Ac6 hr (by simp [e]))
    ·exact Aa9 e (Ac6 (Aa4 _) (by simp [e])))
   u.length 0 (by omega)
  rw [List.drop_zero, List.drop_zero, Au2 u v hl] at this
  exact Aa3 (by omega) this
 ·exact Aa9 (by omega) (Ac6 (Aa4 _) (by rw [decide_eq_false (fun e => hl (by rw [e]))]))
theorem cmpContains_ev (s : List Int) (hs : s.length ≤ 1048576) (x : Int) : Ev (fun k => slices_Contains_int64_int64.f k s x) (decide (x ∈ s)) := by
 unfold slices_Contains_int64_int64.f
 refine Aa8 (Ac6 (Ai6 s (by omega) x) (placeN_idx s x)) (Ac6 (Aa4 _) ?_)
 by_cases h : x ∈ s
 ·rw [if_pos h, decide_eq_true h]; exact decide_eq_true (by omega)
 ·rw [if_neg h, decide_eq_false h]; exact decide_eq_false (by omega)
theorem cmpCount_ev (t : List Int) (n : Int) (ht : t.length ≤ 1048576) : ∃ c : Nat, (0 < c ↔ n ∈ t) ∧ Ev (fun k => spec_l3Count.f k t n) (c : Int) := by
 have key : ∀ (d i c : Nat), i + d = t.length → c ≤ i → ∃ r : Nat, (c < r ↔ n ∈ t.drop i) ∧ c ≤ r ∧ Ev (fun k => spec_l3Count.l0 k t n (c : Int) (i : Int)) (r : Int) := by
  intro d
  induction d with
  | zero =>
   intro i c hi hc
   refine ⟨c, by rw [List.drop_eq_nil_of_le (by omega)]; simp, Nat.le_refl _, Ab2 ?_⟩
   simp only [spec_l3Count.l0]
   exact Aa9 (by omega) (Aa4 _)
  | succ d ih =>
   intro i c hi hc
   have hd := At9 t i (by omega)
   by_cases h : rd t (i : Int) = n
   ·obtain ⟨r, h1, h2, h3⟩ := ih (i + 1) (c + 1) (by omega) (by omega)
    refine ⟨r, ?_, by omega, Ab2 ?_⟩
    ·rw [hd, List.mem_cons]
     exact ⟨fun _ => .inl h.symm, fun _ => by omega⟩
    ·simp only [spec_l3Count.l0]
     refine Aa3 (by omega) (Aa3 (by omega) (Aa3 h ?_))
     rw [Ac2 (by omega), Ac2 (by omega)]
     exact h3
   ·obtain ⟨r, h1, h2, h3⟩ := ih (i + 1) c (by omega) (by omega)
    refine ⟨r, ?_, h2, Ab2 ?_⟩
    ·rw [hd, List.mem_cons, h1]
     exact ⟨.inr, fun q => q.resolve_left (fun e => h e.symm)⟩
    ·simp only [spec_l3Count.l0]
     refine Aa3 (by omega) (Aa3 (by omega) (Aa9 h ?_))
     rw [Ac2 (by omega)]
     exact h3
 obtain ⟨r, h1, _, h3⟩ := key t.length 0 0 (by omega) (by omega)
 exact ⟨r, by simpa using h1, h3⟩
theorem An9 {l : List S79} {t : List Int} (h : RightT l t) {i : Nat} (hi : i < t.length) : Ev (fun k => impl_subterm.f k l t (i : Int)) (sbL l t i) := by
 obtain ⟨e, he, h1, h2, hs⟩ := Ak3 h hi
 have hl := h.len
 have e2 := As1 l h.sig t (by omega) h.nodes i (by omega)
 rw [he] at e2
 unfold impl_subterm.f
 rw [hs]
 refine Aa8 e2 (Aa3 (by omega) (Aa3 (by simp only [Aw4]; omega) (Aa3 (by simp only [Aw4]; omega) ?_)))
 simp only [Aw4, Int.toNat_natCast]
 exact Aa4 _
theorem cmpArgs_l0 (l : List S79) (hr : Right l) (t : List Int) (ht : t.length ≤ 1048576) (hn : Au1 l t) (n : Nat) : ∀ (m i e e' : Nat) (acc : List Int), i + m = n → n ≤ 2 → e ≤ t.length → Aj3 (arL l) t m e = some e' → acc.length ≤ 1000 + i →
  Ev (fun k => impl_argumentsOf.l0 k t acc (e : Int) (n : Int) (i : Int) l) (acc ++ (Aq9 (arL l) t m e).map fun p : Nat => (p : Int)) := by
 intro m
 induction m with
 | zero =>
  intro i e e' acc hi hn2 he hE hacc
  refine Ab2 ?_
  simp only [impl_argumentsOf.l0]
  refine Aa9 (by omega) (Ac6 (Aa4 _) ?_)
  simp [Aq9]
 | succ m ihm =>
  intro i e e' acc hi hn2 he hE hacc
  refine Ab2 ?_
  simp only [impl_argumentsOf.l0]
  rw [show m + 1 = 1 + m by omega, Ap3 _ _ 1 m e he] at hE
  cases h1 : Aj3 (arL l) t 1 e with
  | none => rw [h1] at hE; cases hE
  | some q =>
   rw [h1] at hE
   simp only [Option.bind_some] at hE
   obtain ⟨_, b1, b2⟩ := Ak2 he h1
   have hend := As1 l hr t ht hn e he
   rw [h1] at hend
   refine Aa3 (by omega) (Aa3 (by omega) (Aa8 hend ?_))
   rw [Ac2 (by omega), An4 h1]
   refine Ac6 (ihm (i + 1) q e' (acc ++ [(e : Int)]) (by omega) hn2 b2 hE (by simp; omega)) ?_
   simp
theorem cmpArgs_ev {l : List S79} {t : List Int} (h : RightT l t) {a : Nat} (ha : a < t.length) : Ev (fun k => impl_argumentsOf.f k l t (a : Int)) ((Ad6 (arL l) t a).map fun p : Nat => (p : Int)) := by
 obtain ⟨e, he, h1, h2, _⟩ := Ak3 h ha
 have hl := h.len
 unfold impl_argumentsOf.f
 refine Aa3 (by omega) (Aa3 (by omega) (Ac4 (arityOf_eq l h.sig _ (h.nodes a ha)) ?_))
 rw [Ac2 (by omega)]
 have := cmpArgs_l0 l h.sig t (by omega) h.nodes (arL l (rd t (a : Int))) (arL l (rd t (a : Int))) 0 (a + 1) e [] (by omega) (Ao1 h.sig (h.nodes a ha)) (by omega) (Ap9 ha he) (by simp)
 exact Ac6 this (by simp [Ad6])
theorem starts_ev {l : List S79} {t : List Int} (h : RightT l t) {a : Nat} (ha : a < t.length) (h0 : ¬ rd t (a : Int) < 0) : Ev (fun k => spec_l7Starts.f k [(⟨l⟩ : S36)] t (a : Int)) ((Ad6 (arL l) t a).map fun p : Nat => (p : Int)) := by
 obtain ⟨e, he, h1, h2, _⟩ := Ak3 h ha
 have hl := h.len
 have hx := Ap2 (h.nodes a ha) h0
 obtain ⟨hc, hc2⟩ := Ap4 h.sig (h.nodes a ha) h0
 have e0 : (Ad0 [(⟨l⟩ : S36)] 0).f0 = l := rfl
 have key : ∀ (m i q q' : Nat) (acc : List Int), i + m = arL l (rd t (a : Int)) → q ≤ t.length → Aj3 (arL l) t m q = some q' → acc.length ≤ 1000 + i →
   Ev (fun k => spec_l7Starts.l0 k [(⟨l⟩ : S36)] t (a : Int) acc (q : Int) (i : Int)) (acc ++ (Aq9 (arL l) t m q).map fun p : Nat => (p : Int)) := by
  intro m
  induction m with
  | zero =>
   intro i q q' acc hi hq hE hacc
   refine Ab2 ?_
   simp only [spec_l7Starts.l0, e0, List.length_singleton]
   refine Aa3 (by omega) (Aa3 (by omega) (Aa3 (by omega) (Aa3 (by omega) (Aa3 (by omega) (Aa9 (by omega) (Ac6 (Aa4 _) ?_))))))
   simp [Aq9]
  | succ m ihm =>
   intro i q q' acc hi hq hE hacc
   refine Ab2 ?_
   simp only [spec_l7Starts.l0, e0, List.length_singleton]
   rw [show m + 1 = 1 + m by omega, Ap3 _ _ 1 m q hq] at hE
   cases h1 : Aj3 (arL l) t 1 q with
   | none => rw [h1] at hE; cases hE
   | some q2 =>
    rw [h1] at hE
    simp only [Option.bind_some] at hE
    obtain ⟨_, b1, b2⟩ := Ak2 hq h1
    have hend := Am5 l h.sig t (by omega) h.nodes (t.length - q) q (by omega)
    rw [h1] at hend
    refine Aa3 (by omega) (Aa3 (by omega) (Aa3 (by omega) (Aa3 (by omega) (Aa3 (by omega) (Aa3 (by omega) (Aa3 (by omega) (Aa8 hend ?_)))))))
    rw [Ac2 (by omega), An4 h1]
    refine Ac6 (ihm (i + 1) q2 q' (acc ++ [(q : Int)]) (by omega) b2 hE (by simp; omega)) ?_
    simp
 unfold spec_l7Starts.f
 rw [Ac2 (by omega)]
 have := key (arL l (rd t (a : Int))) 0 (a + 1) e [] (by omega) (by omega) (Ap9 ha he) (by simp)
 exact Ac6 this (by simp [Ad6])
theorem l7Equal_ev {l : List S79} {a b : List Int} (ha : RightT l a) (hb : RightT l b) {i j : Nat} (hi : i < a.length) (hj : j < b.length) : Ev (fun k => spec_l7Equal.f k [(⟨l⟩ : S36)] a (i : Int) b (j : Int)) (decide (sbL l a i = sbL l b j)) := by
 obtain ⟨e, he, h1, h2, hs⟩ := Ak3 ha hi
 obtain ⟨f, hf, h3, h4, ht⟩ := Ak3 hb hj
 have hla := ha.len
 have hlb := hb.len
 have e1 := Am5 l ha.sig a (by omega) ha.nodes (a.length - i) i (by omega)
 have e2 := Am5 l hb.sig b (by omega) hb.nodes (b.length - j) j (by omega)
 rw [he] at e1
 rw [hf] at e2
 rw [hs, ht]
 unfold spec_l7Equal.f
 have hsame := l1Same_ev ((a.take e).drop i) ((b.take f).drop j) (by simp only [List.length_drop, List.length_take]; omega)
 refine Aa8 e1 (Aa3 (by omega) (Aa3 (by simp only [Au4]; omega) (Aa3 (by simp only [Au4]; omega) (Aa8 e2 (Aa3 (by omega) (Aa3 (by simp only [Au4]; omega) (Aa3 (by simp only [Au4]; omega) ?_)))))))
 simp only [Au4, Int.toNat_natCast]
 exact Aa8 hsame (Aa4 _)
theorem cmpSame_ev {l : List S79} {a b o : List Int} (ha : RightT l a) (hb : RightT l b) {i j : Nat} (hi : i < a.length) (hj : j < b.length) : Ev (fun k => impl_comparer_same.f k [(⟨⟨l⟩, o, a, b, 0⟩ : S114)] (i : Int) (j : Int)) (decide (sbL l a i = sbL l b j)) := by
 unfold impl_comparer_same.f
 have e0 : (Aa2 [(⟨⟨l⟩, o, a, b, 0⟩ : S114)] 0).f0.f0 = l := rfl
 have e2 : (Aa2 [(⟨⟨l⟩, o, a, b, 0⟩ : S114)] 0).f2 = a := rfl
 have e3 : (Aa2 [(⟨⟨l⟩, o, a, b, 0⟩ : S114)] 0).f3 = b := rfl
 rw [e0, e2, e3]
 exact Aa3 (by simp) (Aa8 (An9 ha hi) (Aa8 (An9 hb hj) (Aa8 (sliceEq_ev _ _ (by have := sbL_length ha i; omega)) (Aa4 _))))
theorem cmpRank_ev (o : List Int) (ho : o.length ≤ 1048576) (n : Int) : Ev (fun k => spec_l2Rank.f k o n) (Ai9 (fun j => n == rd o (j : Int)) o.length) := by
 unfold spec_l2Rank.f
 have h := Ae0 o.length (fun j => if (n == rd o (j : Int)) = true then some (j : Int) else none) (-1) (fun k i => spec_l2Rank.l0 k o n i)
  (by simp only [spec_l2Rank.l0]; exact Aa9 (by omega) (Aa4 _))
  (fun i hi r hr => by
   simp only [spec_l2Rank.l0]
   refine Aa3 (by omega) (Aa3 (by omega) ?_)
   rw [Ac2 (by omega)]
   by_cases h : rd o (i : Int) = n
   ·exact Aa3 h (Ac6 (Aa4 _) (by simp [h]))
   ·exact Aa9 h (Ac6 hr (by have h' : ¬ n = rd o (i : Int) := fun e => h e.symm; simp [h'])))
  o.length 0 (by omega)
 rw [Am2 (fun j => n == rd o (j : Int))] at h
 exact h
end Go.Proofs.YtgichahebemmiaaGreatDoor.Pure
set_option linter.unusedVariables false
namespace Go.Proofs.YtgichahebemmiaaGreatDoor.Pure
open Go.RowKit Go.Proofs.YtgichahebemmiaaGreatDoor.P Go.Proofs.YtgichahebemmiaaGreatDoorW.PrintWords Go.Proofs.YtgichahebemmiaaGreatDoorW.PrintLast Go.Proofs.YtgichahebemmiaaGreatDoor.Base
theorem cmp_unif (n : Nat) (P : Nat → Nat → Prop) (hmono : ∀ i K K', K ≤ K' → P i K → P i K') (h : ∀ i, i < n → ∃ K, P i K) : ∃ K, ∀ i, i < n → P i K := by
 induction n with
 | zero => exact ⟨0, fun i hi => by omega⟩
 | succ n ih =>
  obtain ⟨K, hK⟩ := ih (fun i hi => h i (by omega))
  obtain ⟨K', hK'⟩ := h n (by omega)
  refine ⟨max K K', fun i hi => ?_⟩
  by_cases e : i = n
  ·subst e; exact hmono _ _ _ (by omega) hK'
  ·exact hmono _ _ _ (by omega) (hK i (by omega))
theorem cmp_sym {l : List S79} {n : Int} (h : Aj8 l n = true) (h0 : ¬ n < 0) : An7 l n = true := by
 unfold Aj8 at h
 rw [Bool.or_eq_true] at h
 rcases h with h | h
 ·exact h
 ·have := of_decide_eq_true h; omega
theorem cmp_right {l : List S79} {o : List Int} (h : As4 l o = 0) : Right l ∧ Ax0 l o = 0 := by
 unfold As4 at h
 by_cases hs : Au5 l = 0
 ·rw [if_pos hs] at h; exact ⟨Al0 l hs, h⟩
 ·rw [if_neg hs] at h; exact absurd h hs
theorem At1 {l : List S79} {o : List Int} (h : As4 l o = 0) :
  o.length = l.length ∧ (∀ i, i < o.length → An7 l (rd o (i : Int)) = true) ∧ ∀ i j, i < o.length → j < i → rd o (i : Int) ≠ rd o (j : Int) := by
 obtain ⟨_, hg⟩ := cmp_right h
 unfold Ax0 at hg
 by_cases hl : o.length = l.length
 ·rw [if_pos hl] at hg
  by_cases hb : (Ad1 (fun j => !An7 l (rd o (j : Int))) o.length 0).isSome = true
  ·rw [if_pos hb] at hg; cases hg
  ·rw [if_neg hb] at hg
   have h1 : Ad1 (fun j => !An7 l (rd o (j : Int))) o.length 0 = none := by
    cases hf : Ad1 (fun j => !An7 l (rd o (j : Int))) o.length 0 with
    | none => rfl
    | some j => rw [hf] at hb; exact absurd rfl hb
   refine ⟨hl, fun i hi => ?_, fun i j hi hj => ?_⟩
   ·have := (Ai0 o.length 0).1 h1 i (by omega) (by omega)
    simpa using this
   ·rcases scanN_cases (Ag3 o) 0 o.length 0 with ⟨h2, _⟩ | ⟨q, _, _, h3⟩
    ·have hi2 := h2 i (by omega) (by omega)
     unfold Ag3 at hi2
     by_cases hd : As8 o i = true
     ·rw [if_pos hd] at hi2; cases hi2
     unfold As8 at hd
     have h4 : Ad1 (fun j => rd o (i : Int) == rd o (j : Int)) i 0 = none := by
      cases hf : Ad1 (fun j => rd o (i : Int) == rd o (j : Int)) i 0 with
      | none => rfl
      | some j => rw [hf] at hd; exact absurd rfl hd
     have := (Ai0 i 0).1 h4 j (by omega) (by omega)
     simpa using this
    ·rw [hg] at h3
     unfold Ag3 at h3
     by_cases hd : As8 o q = true
     ·rw [if_pos hd] at h3; cases h3
     ·rw [if_neg hd] at h3; cases h3
 ·rw [if_neg hl] at hg; cases hg
theorem cmp_place {l : List S79} {o : List Int} (h : As4 l o = 0) {n : Int} (hn : An7 l n = true) :
  ∃ j, j < o.length ∧ Ai9 (fun j => n == rd o (j : Int)) o.length = (j : Int) ∧ rd o (j : Int) = n := by
 obtain ⟨hl, hs, hd⟩ := At1 h
 obtain ⟨h0, h1⟩ := Aq8 hn
 obtain ⟨q, hq, e⟩ := perm_place o (fun i hi => by
  have := Aq8 (hs i hi); omega) hd n h0 (by omega)
 rcases placeN_cases (fun j => n == rd o (j : Int)) o.length with ⟨_, h2⟩ | ⟨j, hj, h2, h3, _⟩
 ·have := h2 q hq
  simp [e] at this
 ·exact ⟨j, hj, h2, by simpa using (beq_iff_eq.1 h3).symm⟩
end Go.Proofs.YtgichahebemmiaaGreatDoor.Pure
set_option linter.unusedVariables false
set_option linter.unusedSectionVars false
namespace Go.Proofs.YtgichahebemmiaaGreatDoor.Pure
open Go.RowKit Go.Proofs.YtgichahebemmiaaGreatDoor.P Go.Proofs.YtgichahebemmiaaGreatDoorW.PrintWords Go.Proofs.YtgichahebemmiaaGreatDoorW.PrintLast Go.Proofs.YtgichahebemmiaaGreatDoor.Base
def Ar1 (l : List S79) (a b : List Int) (g : Nat → Nat → Bool) : List Nat → List Nat → Bool
 | p :: ps, q :: qs => if sbL l a p = sbL l b q then Ar1 l a b g ps qs else g p q
 | _, _ => false
def rkP (o : List Int) (n : Int) : Int := Ai9 (fun j => n == rd o (j : Int)) o.length
def At6 (l : List S79) (o a b : List Int) (g : Nat → Nat → Bool) (i j : Nat) : Bool :=
 if rd b (j : Int) < 0 then (if rd a (i : Int) ≥ 0 then decide (rd b (j : Int) ∈ sbL l a i) else false)
 else if rd a (i : Int) < 0 then false
 else if (Ad6 (arL l) a i).any (fun p => decide (sbL l a p = sbL l b j) || g p j) = true then true
 else if rkP o (rd a (i : Int)) < rkP o (rd b (j : Int)) then false
 else if (Ad6 (arL l) b j).all (fun q => g i q) = true then
  (if rd a (i : Int) = rd b (j : Int) then Ar1 l a b g (Ad6 (arL l) a i) (Ad6 (arL l) b j) else true)
 else false
def gB (l : List S79) (o a b : List Int) : Nat → Nat → Nat → Bool
 | 0, _, _ => false
 | f + 1, i, j => At6 l o a b (gB l o a b f) i j
def gT (l : List S79) (o a b : List Int) (i j : Nat) : Bool := gB l o a b (a.length + b.length) i j
theorem lexB_congr {l : List S79} {a b : List Int} {g g' : Nat → Nat → Bool} : ∀ ps qs : List Nat, (∀ p ∈ ps, ∀ q ∈ qs, g p q = g' p q) → Ar1 l a b g ps qs = Ar1 l a b g' ps qs
 | p :: ps, q :: qs, h => by
  rw [Ar1, Ar1, lexB_congr ps qs (fun x hx y hy => h x (by simp [hx]) y (by simp [hy])), h p (by simp) q (by simp)]
 | [], _, _ => by simp [Ar1]
 | _ :: _, [], _ => by simp [Ar1]
section
variable {l : List S79} {o a b : List Int} (ha : RightT l a) (hb : RightT l b)
include ha hb
theorem Ak0 {i : Nat} (hi : i < a.length) : ∀ p ∈ Ad6 (arL l) a i, i < p ∧ p < a.length := by
 obtain ⟨e, he, _⟩ := Ak3 ha hi
 exact fun p hp => ⟨((Af5 hi he).2 p hp).1, ((Af5 hi he).2 p hp).2.1⟩
theorem cellB_congr {g g' : Nat → Nat → Bool} {i j : Nat} (hi : i < a.length) (hj : j < b.length) (h : ∀ p q, p < a.length → q < b.length → i ≤ p → j ≤ q → i + j < p + q → g p q = g' p q) : At6 l o a b g i j = At6 l o a b g' i j := by
 have hA := Ak0 ha hb hi
 have hB := Ak0 hb ha hj
 unfold At6
 by_cases hy : rd b (j : Int) < 0
 ·rw [if_pos hy, if_pos hy]
 rw [if_neg hy, if_neg hy]
 have e1 : (Ad6 (arL l) a i).any (fun p => decide (sbL l a p = sbL l b j) || g p j) = (Ad6 (arL l) a i).any (fun p => decide (sbL l a p = sbL l b j) || g' p j) := by
  rw [Bool.eq_iff_iff, List.any_eq_true, List.any_eq_true]
  constructor
  ·rintro ⟨p, hp, h1⟩; exact ⟨p, hp, by rw [← h p j (hA p hp).2 hj (by have := hA p hp; omega) (Nat.le_refl _) (by have := hA p hp; omega)]; exact h1⟩
  ·rintro ⟨p, hp, h1⟩; exact ⟨p, hp, by rw [h p j (hA p hp).2 hj (by have := hA p hp; omega) (Nat.le_refl _) (by have := hA p hp; omega)]; exact h1⟩
 have e2 : (Ad6 (arL l) b j).all (fun q => g i q) = (Ad6 (arL l) b j).all (fun q => g' i q) := by
  rw [Bool.eq_iff_iff, List.all_eq_true, List.all_eq_true]
  constructor
  ·intro h1 q hq; rw [← h i q hi (hB q hq).2 (Nat.le_refl _) (by have := hB q hq; omega) (by have := hB q hq; omega)]; exact h1 q hq
  ·intro h1 q hq; rw [h i q hi (hB q hq).2 (Nat.le_refl _) (by have := hB q hq; omega) (by have := hB q hq; omega)]; exact h1 q hq
 have e3 := lexB_congr (l := l) (a := a) (b := b) (g := g) (g' := g') (Ad6 (arL l) a i) (Ad6 (arL l) b j) (fun p hp q hq => h p q (hA p hp).2 (hB q hq).2 (by have := hA p hp; omega) (by have := hB q hq; omega) (by have := hA p hp; have := hB q hq; omega))
 rw [e1, e2, e3]
theorem gB_more : ∀ (f g i j : Nat), i < a.length → j < b.length → a.length + b.length ≤ f + i + j → a.length + b.length ≤ g + i + j → gB l o a b f i j = gB l o a b g i j
 | 0, g, i, j, hi, hj, h1, h2 => by omega
 | f + 1, 0, i, j, hi, hj, h1, h2 => by omega
 | f + 1, g + 1, i, j, hi, hj, h1, h2 => by
  rw [gB, gB]
  exact cellB_congr ha hb hi hj (fun p q hp hq h3 h4 h5 => gB_more f g p q hp hq (by omega) (by omega))
theorem gT_eq {i j : Nat} (hi : i < a.length) (hj : j < b.length) : gT l o a b i j = At6 l o a b (gT l o a b) i j := by
 have e : gT l o a b i j = gB l o a b (a.length + b.length + 1) i j := gB_more ha hb _ _ i j hi hj (by omega) (by omega)
 rw [e, gB]
 rfl
end
def gM (l : List S79) (o a b : List Int) (m : Nat) (p q : Int) : Option Bool := if 0 ≤ p ∧ p < (a.length : Int) ∧ 0 ≤ q ∧ q < (b.length : Int) ∧ (m : Int) < p + q then some (gT l o a b p.toNat q.toNat) else none
section
variable {l : List S79} {o a b : List Int} (ha : RightT l a) (hb : RightT l b) (ho : As4 l o = 0)
include ha hb
theorem At7 {m p q : Nat} (hp : p < a.length) (hq : q < b.length) (h : m < p + q) : gM l o a b m (p : Int) (q : Int) = some (gT l o a b p q) := by
 unfold gM
 rw [if_pos (by omega)]
 simp
include ho
theorem isGr_l2 {i j : Nat} (hi : i < a.length) (hj : j < b.length) : ∀ (ps qs xs ys : List Nat), ps.length = qs.length → (Ad6 (arL l) a i) = xs ++ ps → (Ad6 (arL l) b j) = ys ++ qs → xs.length = ys.length →
  Ev (fun k => impl_comparer_isGreater.l2 (gM l o a b (i + j)) k [(⟨⟨l⟩, o, a, b, 0⟩ : S114)] ((Ad6 (arL l) b j).map fun p : Nat => (p : Int)) ((Ad6 (arL l) a i).map fun p : Nat => (p : Int)) (((Ad6 (arL l) a i).map fun p : Nat => (p : Int)).length : Int) (xs.length : Int)) (Ar1 l a b (gT l o a b) ps qs)
 | [], qs, xs, ys, h1, h2, h3, h4 => by
  refine Ab2 ?_
  simp only [impl_comparer_isGreater.l2]
  refine Aa9 (by rw [List.length_map, h2]; simp) (Ac6 (Aa4 _) (by cases qs <;> simp [Ar1]))
 | p :: ps, [], xs, ys, h1, h2, h3, h4 => by simp at h1
 | p :: ps, q :: qs, xs, ys, h1, h2, h3, h4 => by
  have hA := Ak0 ha hb hi
  have hB := Ak0 hb ha hj
  have hp := hA p (by rw [h2]; simp)
  have hq := hB q (by rw [h3]; simp)
  have ih := isGr_l2 hi hj ps qs (xs ++ [p]) (ys ++ [q]) (by simpa using h1) (by rw [h2]; simp) (by rw [h3]; simp) (by simp [h4])
  have hla : (Ad6 (arL l) a i).length ≤ 2 := by
   obtain ⟨e, he, _⟩ := Ak3 ha hi
   rw [(Af5 hi he).1]; exact Ao1 ha.sig (ha.nodes i hi)
  have hl2 : xs.length + (ps.length + 1) ≤ 2 := by rw [h2] at hla; simpa using hla
  have r1 : rd ((Ad6 (arL l) a i).map fun p : Nat => (p : Int)) (xs.length : Int) = (p : Int) := by
   rw [Af7 _ _ (by rw [h2]; simp)]; simp [h2]
  have r2 : rd ((Ad6 (arL l) b j).map fun p : Nat => (p : Int)) (xs.length : Int) = (q : Int) := by
   rw [h4, Af7 _ _ (by rw [h3]; simp)]; simp [h3]
  refine Ab2 ?_
  simp only [impl_comparer_isGreater.l2]
  rw [r1, r2, Ac2 (by omega)]
  refine Aa3 (by rw [List.length_map, h2]; simp; omega) (Aa3 (by omega) (Aa3 (by rw [List.length_map, h2]; simp; omega) (Aa3 (by rw [List.length_map, h3, h4]; simp; omega) (Aa8 (cmpSame_ev ha hb hp.2 hq.2) ?_))))
  rw [Ar1]
  by_cases e : sbL l a p = sbL l b q
  ·rw [if_pos e]
   refine Aa3 (by simpa using e) ?_
   simpa using ih
  ·rw [if_neg e]
   exact Aa9 (by simpa using e) (Ac4 (At7 ha hb hp.2 hq.2 (by omega)) (Aa4 _))
theorem rank_facts {x y : Int} (hx : An7 l x = true) (hy : An7 l y = true) : ∃ p q : Nat, p < o.length ∧ q < o.length ∧ rkP o x = p ∧ rkP o y = q ∧ (p = q ↔ x = y) := by
 obtain ⟨p, hp, h1, h2⟩ := cmp_place ho hx
 obtain ⟨q, hq, h3, h4⟩ := cmp_place ho hy
 refine ⟨p, q, hp, hq, h1, h3, fun e => ?_, fun e => ?_⟩
 ·rw [← h2, ← h4, e]
 ·subst e
  have : ((p : Nat) : Int) = (q : Int) := h1.symm.trans h3
  omega
theorem isGr_ev {i j : Nat} (hi : i < a.length) (hj : j < b.length) : Ev (fun k => impl_comparer_isGreater.f (gM l o a b (i + j)) k [(⟨⟨l⟩, o, a, b, 0⟩ : S114)] (i : Int) (j : Int)) (gT l o a b i j) := by
 have e0 : (Aa2 [(⟨⟨l⟩, o, a, b, 0⟩ : S114)] 0).f0.f0 = l := rfl
 have e1 : (Aa2 [(⟨⟨l⟩, o, a, b, 0⟩ : S114)] 0).f1 = o := rfl
 have e2 : (Aa2 [(⟨⟨l⟩, o, a, b, 0⟩ : S114)] 0).f2 = a := rfl
 have e3 : (Aa2 [(⟨⟨l⟩, o, a, b, 0⟩ : S114)] 0).f3 = b := rfl
 have hla := ha.len
 have hlb := hb.len
 have hol : o.length ≤ 6 := by have := (At1 ho).1; have := ha.sig.len; omega
 have hA := Ak0 ha hb hi
 have hB := Ak0 hb ha hj
 rw [gT_eq ha hb hi hj]
 unfold impl_comparer_isGreater.f At6
 rw [e0, e2, e3]
 refine Aa3 (by simp) (Aa3 (by omega) (Aa3 (by omega) (Aa3 (by omega) (Aa3 (by omega) ?_))))
 by_cases hy : rd b (j : Int) < 0
 ·rw [if_pos hy]
  refine Aa3 hy ?_
  by_cases hx : rd a (i : Int) ≥ 0
  ·rw [if_pos hx]
   exact Aa3 hx (Aa8 (An9 ha hi) (Aa8 (cmpContains_ev _ (by have := sbL_length ha i; omega) _) (Aa4 _)))
  ·rw [if_neg hx]; exact Aa9 hx (Aa4 _)
 rw [if_neg hy]
 refine Aa9 hy ?_
 by_cases hx : rd a (i : Int) < 0
 ·rw [if_pos hx]; exact Aa3 hx (Aa4 _)
 rw [if_neg hx]
 refine Aa9 hx (Aa8 (cmpArgs_ev ha hi) (Aa8 (cmpArgs_ev hb hj) ?_))
 obtain ⟨xs, hxs⟩ : ∃ xs, xs = Ad6 (arL l) a i := ⟨_, rfl⟩
 obtain ⟨ys, hys⟩ : ∃ ys, ys = Ad6 (arL l) b j := ⟨_, rfl⟩
 have hlx : xs.length = arL l (rd a (i : Int)) ∧ xs.length ≤ 2 := by
  obtain ⟨e, he, _⟩ := Ak3 ha hi
  rw [hxs, (Af5 hi he).1]; exact ⟨rfl, Ao1 ha.sig (ha.nodes i hi)⟩
 have hly : ys.length = arL l (rd b (j : Int)) ∧ ys.length ≤ 2 := by
  obtain ⟨e, he, _⟩ := Ak3 hb hj
  rw [hys, (Af5 hj he).1]; exact ⟨rfl, Ao1 hb.sig (hb.nodes j hj)⟩
 have hsx : An7 l (rd a (i : Int)) = true := cmp_sym (ha.nodes i hi) hx
 have hsy : An7 l (rd b (j : Int)) = true := cmp_sym (hb.nodes j hj) hy
 obtain ⟨rp, rq, hrp, hrq, er1, er2, hiff⟩ := rank_facts ha hb ho hsx hsy
 have h2 : ∀ hxy : rd a (i : Int) = rd b (j : Int), Ev (fun k => impl_comparer_isGreater.l2 (gM l o a b (i + j)) k [(⟨⟨l⟩, o, a, b, 0⟩ : S114)] (ys.map fun p : Nat => (p : Int)) (xs.map fun p : Nat => (p : Int)) ((xs.map fun p : Nat => (p : Int)).length : Int) 0) (Ar1 l a b (gT l o a b) xs ys) := by
  intro hxy
  have := isGr_l2 ha hb ho hi hj xs ys [] [] (by rw [hlx.1, hly.1, hxy]) (by rw [← hxs]; simp) (by rw [← hys]; simp) rfl
  rw [← hxs, ← hys] at this
  simpa using this
 rw [← hxs, ← hys]
 rw [← hxs] at hA
 rw [← hys] at hB
 -- what comes behind the second loop
 have h1 : ∀ (d n : Nat), n + d = ys.length → Ev (fun k => impl_comparer_isGreater.l1 (gM l o a b (i + j)) k [(⟨⟨l⟩, o, a, b, 0⟩ : S114)] (i : Int) (xs.map fun p : Nat => (p : Int)) (ys.map fun p : Nat => (p : Int)) ((rp : Int) - rq) (ys.map fun p : Nat => (p : Int)) ((ys.map fun p : Nat => (p : Int)).length : Int) (n : Int))
   (if (ys.drop n).all (fun q => gT l o a b i q) = true then (if (rp : Int) - rq > 0 then true else Ar1 l a b (gT l o a b) xs ys) else false) ∨ ¬ ((rp : Int) - rq > 0) ∧ rp ≠ rq := by
  by_cases hcase : ¬ ((rp : Int) - rq > 0) ∧ rp ≠ rq
  ·exact fun _ _ _ => .inr hcase
  intro d
  induction d with
  | zero =>
   intro n hn
   refine .inl (Ab2 ?_)
   simp only [impl_comparer_isGreater.l1]
   rw [List.drop_eq_nil_of_le (by omega)]
   refine Aa9 (by rw [List.length_map]; omega) ?_
   simp only [List.all_nil, if_true]
   by_cases hg : (rp : Int) - rq > 0
   ·rw [if_pos hg]; exact Aa3 hg (Aa4 _)
   ·rw [if_neg hg]
    have he : rp = rq := by omega
    exact Aa9 hg (h2 (hiff.1 he))
  | succ d ih =>
   intro n hn
   have hn2 : n < ys.length := by omega
   have hq := hB _ (List.getElem_mem hn2)
   rcases ih (n + 1) (by omega) with ih | ih
   ·refine .inl (Ab2 ?_)
    simp only [impl_comparer_isGreater.l1]
    have r1 : rd (ys.map fun p : Nat => (p : Int)) (n : Int) = (ys[n] : Int) := by rw [Af7 _ _ (by simpa using hn2)]; simp
    rw [r1, Ac2 (by omega), List.drop_eq_getElem_cons hn2, List.all_cons]
    refine Aa3 (by rw [List.length_map]; omega) (Aa3 (by omega) (Aa3 (by rw [List.length_map]; omega) (Ac4 (At7 ha hb hi hq.2 (by omega)) ?_)))
    by_cases hg : gT l o a b i ys[n] = true
    ·rw [hg, Bool.true_and]
     exact Aa3 rfl ih
    ·have hg' : gT l o a b i ys[n] = false := by simpa using hg
     rw [hg', Bool.false_and, if_neg (by simp)]
     exact Aa9 (by simp) (Aa4 _)
   ·exact .inr ih
 -- behind the first loop
 have hrest : Ev (fun k => if 0 < ([(⟨⟨l⟩, o, a, b, 0⟩ : S114)].length : Int) then ((slices_Index_int64_int64.f k o (rd a (i : Int))).bind fun t175 => ((slices_Index_int64_int64.f k o (rd b (j : Int))).bind fun t178 => (if (wrap64 (t175 - t178)) < 0 then (some false) else (impl_comparer_isGreater.l1 (gM l o a b (i + j)) k [(⟨⟨l⟩, o, a, b, 0⟩ : S114)] (i : Int) (xs.map fun p : Nat => (p : Int)) (ys.map fun p : Nat => (p : Int)) (wrap64 (t175 - t178)) (ys.map fun p : Nat => (p : Int)) ((ys.map fun p : Nat => (p : Int)).length : Int) 0)))) else none)
   (if rkP o (rd a (i : Int)) < rkP o (rd b (j : Int)) then false else if ys.all (fun q => gT l o a b i q) = true then (if rd a (i : Int) = rd b (j : Int) then Ar1 l a b (gT l o a b) xs ys else true) else false) := by
  refine Aa3 (by simp) (Aa8 (Ai6 o (by omega) _) (Aa8 (Ai6 o (by omega) _) ?_))
  have er1' : Ai9 (fun j => rd a (i : Int) == rd o (j : Int)) o.length = rp := er1
  have er2' : Ai9 (fun q => rd b (j : Int) == rd o (q : Int)) o.length = rq := er2
  rw [er1', er2', er1, er2, Af3 (by omega) (by omega)]
  by_cases hlt : (rp : Int) < rq
  ·rw [if_pos hlt]; exact Aa3 (by omega) (Aa4 _)
  rw [if_neg hlt]
  refine Aa9 (by omega) ?_
  rcases h1 ys.length 0 (by omega) with h1 | h1
  ·rw [List.drop_zero] at h1
   refine Ac6 h1 ?_
   by_cases hall : ys.all (fun q => gT l o a b i q) = true
   ·rw [if_pos hall, if_pos hall]
    by_cases hxy : rd a (i : Int) = rd b (j : Int)
    ·rw [if_pos hxy, if_neg (by have := hiff.2 hxy; omega)]
    ·rw [if_neg hxy, if_pos (by have : rp ≠ rq := fun e => hxy (hiff.1 e); omega)]
   ·rw [if_neg hall, if_neg hall]
  ·omega
 have h0 : ∀ (d n : Nat), n + d = xs.length → Ev (fun k => impl_comparer_isGreater.l0 (gM l o a b (i + j)) k [(⟨⟨l⟩, o, a, b, 0⟩ : S114)] (i : Int) (j : Int) (rd a (i : Int)) (rd b (j : Int)) (xs.map fun p : Nat => (p : Int)) (ys.map fun p : Nat => (p : Int)) (xs.map fun p : Nat => (p : Int)) ((xs.map fun p : Nat => (p : Int)).length : Int) (n : Int))
   (if (xs.drop n).any (fun p => decide (sbL l a p = sbL l b j) || gT l o a b p j) = true then true else (if rkP o (rd a (i : Int)) < rkP o (rd b (j : Int)) then false else if ys.all (fun q => gT l o a b i q) = true then (if rd a (i : Int) = rd b (j : Int) then Ar1 l a b (gT l o a b) xs ys else true) else false)) := by
  intro d
  induction d with
  | zero =>
   intro n hn
   refine Ab2 ?_
   simp only [impl_comparer_isGreater.l0]
   rw [List.drop_eq_nil_of_le (by omega), e1]
   refine Aa9 (by rw [List.length_map]; omega) ?_
   simp only [List.any_nil, Bool.false_eq_true, if_false]
   exact hrest
  | succ d ih =>
   intro n hn
   have hn2 : n < xs.length := by omega
   have hp := hA _ (List.getElem_mem hn2)
   refine Ab2 ?_
   simp only [impl_comparer_isGreater.l0]
   have r1 : rd (xs.map fun p : Nat => (p : Int)) (n : Int) = (xs[n] : Int) := by rw [Af7 _ _ (by simpa using hn2)]; simp
   rw [r1, Ac2 (by omega), List.drop_eq_getElem_cons hn2, List.any_cons]
   refine Aa3 (by rw [List.length_map]; omega) (Aa3 (by omega) (Aa3 (by rw [List.length_map]; omega) (Aa8 (cmpSame_ev ha hb hp.2 hj) ?_)))
   by_cases he : sbL l a xs[n] = sbL l b j
   ·refine Aa3 (by simpa using he) (Ac6 (Aa4 _) ?_)
    rw [if_pos (by simp [he])]
   ·refine Aa9 (by simpa using he) (Ac4 (At7 ha hb hp.2 hj (by omega)) ?_)
    by_cases hg : gT l o a b xs[n] j = true
    ·refine Aa3 hg (Ac6 (Aa4 _) ?_)
     rw [if_pos (by simp [hg])]
    ·refine Aa9 hg (Ac6 (ih (n + 1) (by omega)) ?_)
     have hg' : gT l o a b xs[n] j = false := by simpa using hg
     simp [he, hg']
 have := h0 xs.length 0 (by omega)
 rw [List.drop_zero] at this
 exact this
theorem greater_ev : ∀ (d i j : Nat), a.length + b.length ≤ d + i + j → i < a.length → j < b.length → ∃ K, ∀ k, K ≤ k → impl_comparer_greater.f k [(⟨⟨l⟩, o, a, b, 0⟩ : S114)] (i : Int) (j : Int) = some (gT l o a b i j) := by
 intro d
 induction d with
 | zero => intro i j h hi hj; omega
 | succ d ih =>
  intro i j h hi hj
  have hla := ha.len
  have hlb := hb.len
  -- one number of rounds for all pairs further on
  obtain ⟨K, hK⟩ := cmp_unif a.length (fun p K => ∀ q, q < b.length → a.length + b.length ≤ d + p + q → ∀ k, K ≤ k → impl_comparer_greater.f k [(⟨⟨l⟩, o, a, b, 0⟩ : S114)] (p : Int) (q : Int) = some (gT l o a b p q))
   (fun p K K' hKK hP q hq hm k hk => hP q hq hm k (by omega)) (fun p hp => by
    obtain ⟨K, hK⟩ := cmp_unif b.length (fun q K => a.length + b.length ≤ d + p + q → ∀ k, K ≤ k → impl_comparer_greater.f k [(⟨⟨l⟩, o, a, b, 0⟩ : S114)] (p : Int) (q : Int) = some (gT l o a b p q))
     (fun q K K' hKK hP hm k hk => hP hm k (by omega)) (fun q hq => by
      by_cases hm : a.length + b.length ≤ d + p + q
      ·obtain ⟨K, hK⟩ := ih p q hm hp hq
       exact ⟨K, fun _ => hK⟩
      ·exact ⟨0, fun h => absurd h hm⟩)
    exact ⟨K, fun q hq => hK q hq⟩)
  obtain ⟨N, hN⟩ := isGr_ev ha hb ho hi hj
  refine ⟨max K (N + 1) + 1, fun k hk => ?_⟩
  obtain ⟨k, rfl⟩ : ∃ m, k = m + 1 := ⟨k - 1, by omega⟩
  obtain ⟨k', rfl⟩ : ∃ m, k = m + 1 := ⟨k - 1, by omega⟩
  rw [impl_comparer_greater.f_succ, if_pos (by omega)]
  refine impl_comparer_isGreater.mono (g := gM l o a b (i + j)) (fun p q r hr => ?_) _ _ _ k' _ (hN k' (by omega))
  unfold gM at hr
  by_cases hc : 0 ≤ p ∧ p < (a.length : Int) ∧ 0 ≤ q ∧ q < (b.length : Int) ∧ ((i + j : Nat) : Int) < p + q
  ·rw [if_pos hc] at hr
   obtain ⟨p', rfl⟩ : ∃ n : Nat, p = n := ⟨p.toNat, by omega⟩
   obtain ⟨q', rfl⟩ : ∃ n : Nat, q = n := ⟨q.toNat, by omega⟩
   rw [hK p' (by omega) q' (by omega) (by omega) (k' + 1) (by omega)]
   simpa using hr
  ·rw [if_neg hc] at hr; cases hr
theorem isGreater_ev : Ev (fun k => impl_isGreater.f k l o a b) (gT l o a b 0 0) := by
 have hla := ha.len
 have hlb := hb.len
 obtain ⟨K, hK⟩ := greater_ev ha hb ho (a.length + b.length) 0 0 (by omega) (by omega) (by omega)
 exact ⟨K, fun k hk => hK k hk⟩
end
end Go.Proofs.YtgichahebemmiaaGreatDoor.Pure
set_option linter.unusedVariables false
set_option linter.unusedSectionVars false
namespace Go.Proofs.YtgichahebemmiaaGreatDoor.Pure
open Go.RowKit Go.Proofs.YtgichahebemmiaaGreatDoor.P Go.Proofs.YtgichahebemmiaaGreatDoorW.PrintWords Go.Proofs.YtgichahebemmiaaGreatDoorW.PrintLast Go.Proofs.YtgichahebemmiaaGreatDoor.Base
theorem tab_idx {p q m n : Nat} (hp : p < m) (hq : q < n) (hm : m ≤ 24) (hn : n ≤ 24) : wrap64 (wrap64 ((p : Int) * (n : Int)) + (q : Int)) = ((p * n + q : Nat) : Int) ∧ p * n + q < m * n ∧ p * n ≤ 576 := by
 have h1 : (p + 1) * n ≤ m * n := Nat.mul_le_mul_right _ hp
 rw [Nat.succ_mul] at h1
 have h2 : p * n ≤ 24 * 24 := Nat.mul_le_mul (by omega) hn
 refine ⟨?_, by omega, by omega⟩
 have e : (p : Int) * (n : Int) = ((p * n : Nat) : Int) := by push_cast; rfl
 rw [e, Af3 (x := ((p * n : Nat) : Int)) (by omega) (by omega), Af3 (by omega) (by omega)]
 push_cast; rfl
theorem rdOf_nat (T : List Bool) (n : Nat) : Ar0 false T (n : Int) = T.getD n false := by
 unfold Ar0
 rw [Int.toNat_natCast]
def Ar3 (l : List S79) (o a b : List Int) (T : List Bool) (n : Nat) : Prop := T.length = a.length * b.length ∧ ∀ p q, p < a.length → q < b.length → n ≤ p * b.length + q → T.getD (p * b.length + q) false = gT l o a b p q
section
variable {l : List S79} {o a b : List Int} (ha : RightT l a) (hb : RightT l b) (ho : As4 l o = 0)
include ha hb ho
theorem Av5 {T : List Bool} {n : Nat} (hT : Ar3 l o a b T n) {p q : Nat} (hp : p < a.length) (hq : q < b.length) (h : n ≤ p * b.length + q) :
  0 ≤ wrap64 (wrap64 ((p : Int) * (b.length : Int)) + (q : Int)) ∧ wrap64 (wrap64 ((p : Int) * (b.length : Int)) + (q : Int)) < (T.length : Int) ∧ Ar0 false T (wrap64 (wrap64 ((p : Int) * (b.length : Int)) + (q : Int))) = gT l o a b p q := by
 obtain ⟨e, h1, _⟩ := tab_idx hp hq ha.len.2 hb.len.2
 rw [e, rdOf_nat, hT.1]
 exact ⟨by omega, by omega, hT.2 p q hp hq h⟩
theorem cell_l2 {T : List Bool} {i j : Nat} (hi : i < a.length) (hj : j < b.length) (hT : Ar3 l o a b T (i * b.length + j + 1)) : ∀ (ps qs xs ys : List Nat), ps.length = qs.length → (Ad6 (arL l) a i) = xs ++ ps → (Ad6 (arL l) b j) = ys ++ qs → xs.length = ys.length →
  Ev (fun k => spec_l7Cell.l2 k [(⟨l⟩ : S36)] a b T (b.length : Int) ((Ad6 (arL l) a i).map fun p : Nat => (p : Int)) ((Ad6 (arL l) b j).map fun p : Nat => (p : Int)) (xs.length : Int)) (Ar1 l a b (gT l o a b) ps qs)
 | [], qs, xs, ys, h1, h2, h3, h4 => by
  refine Ab2 ?_
  simp only [spec_l7Cell.l2]
  refine Aa9 (by rw [List.length_map, h2]; simp) (Ab2 ?_)
  simp only [spec_l7Cell.j3]
  exact Aa9 (by simp) (Ac6 (Aa4 _) (by cases qs <;> simp [Ar1]))
 | p :: ps, [], xs, ys, h1, h2, h3, h4 => by simp at h1
 | p :: ps, q :: qs, xs, ys, h1, h2, h3, h4 => by
  have hA := Ak0 ha hb hi
  have hB := Ak0 hb ha hj
  have hp := hA p (by rw [h2]; simp)
  have hq := hB q (by rw [h3]; simp)
  have ih := cell_l2 hi hj hT ps qs (xs ++ [p]) (ys ++ [q]) (by simpa using h1) (by rw [h2]; simp) (by rw [h3]; simp) (by simp [h4])
  have hla : (Ad6 (arL l) a i).length ≤ 2 := by
   obtain ⟨e, he, _⟩ := Ak3 ha hi
   rw [(Af5 hi he).1]; exact Ao1 ha.sig (ha.nodes i hi)
  have hl2 : xs.length + (ps.length + 1) ≤ 2 := by rw [h2] at hla; simpa using hla
  have r1 : rd ((Ad6 (arL l) a i).map fun p : Nat => (p : Int)) (xs.length : Int) = (p : Int) := by
   rw [Af7 _ _ (by rw [h2]; simp)]; simp [h2]
  have r2 : rd ((Ad6 (arL l) b j).map fun p : Nat => (p : Int)) (xs.length : Int) = (q : Int) := by
   rw [h4, Af7 _ _ (by rw [h3]; simp)]; simp [h3]
  have hm : (i + 1) * b.length ≤ p * b.length := Nat.mul_le_mul_right _ hp.1
  rw [Nat.succ_mul] at hm
  obtain ⟨t1, t2, t3⟩ := Av5 ha hb ho hT hp.2 hq.2 (by omega)
  refine Ab2 ?_
  simp only [spec_l7Cell.l2]
  refine Aa3 (by rw [List.length_map, h2]; simp; omega) (Ab2 ?_)
  simp only [spec_l7Cell.j3]
  rw [r1, r2, Ac2 (by omega)]
  refine Aa3 (decide_eq_true (by rw [List.length_map, h3, h4]; simp; omega)) (Aa3 (by omega) (Aa3 (by rw [List.length_map, h2]; simp; omega) (Aa3 (by rw [List.length_map, h3, h4]; simp; omega) (Aa8 (l7Equal_ev ha hb hp.2 hq.2) ?_))))
  rw [Ar1]
  by_cases e : sbL l a p = sbL l b q
  ·rw [if_pos e]
   refine Aa3 (by simpa using e) ?_
   simpa using ih
  ·rw [if_neg e]
   exact Aa9 (by simpa using e) (Aa3 t1 (Aa3 t2 (Ac6 (Aa4 _) t3)))
theorem cell_ev {T : List Bool} {i j : Nat} (hi : i < a.length) (hj : j < b.length) (hT : Ar3 l o a b T (i * b.length + j + 1)) : Ev (fun k => spec_l7Cell.f k [(⟨l⟩ : S36)] o a b (i : Int) (j : Int) T) (gT l o a b i j) := by
 have hla := ha.len
 have hlb := hb.len
 have hol : o.length ≤ 6 := by have := (At1 ho).1; have := ha.sig.len; omega
 have hA := Ak0 ha hb hi
 have hB := Ak0 hb ha hj
 rw [gT_eq ha hb hi hj]
 unfold spec_l7Cell.f At6
 refine Aa3 (by omega) (Aa3 (by omega) ?_)
 by_cases hy : rd b (j : Int) < 0
 ·rw [if_pos hy]
  refine Aa3 hy (Aa3 (by omega) (Aa3 (by omega) ?_))
  by_cases hx : rd a (i : Int) ≥ 0
  ·rw [if_pos hx]
   obtain ⟨e, he, h1, h2, hs⟩ := Ak3 ha hi
   have e1 := Am5 l ha.sig a (by omega) ha.nodes (a.length - i) i (by omega)
   rw [he] at e1
   obtain ⟨c, hc, hcev⟩ := cmpCount_ev ((a.take e).drop i) (rd b (j : Int)) (by simp only [List.length_drop, List.length_take]; omega)
   refine Aa3 hx (Aa8 e1 (Aa3 (by simp only [Au4]; omega) (Aa3 (by simp only [Au4]; omega) ?_)))
   simp only [Au4, Int.toNat_natCast]
   refine Aa8 hcev (Ac6 (Aa4 _) ?_)
   rw [hs]
   by_cases hm : rd b (j : Int) ∈ (a.take e).drop i
   ·rw [decide_eq_true hm]; exact decide_eq_true (by have := hc.2 hm; omega)
   ·rw [decide_eq_false hm]; exact decide_eq_false (fun h => hm (hc.1 (by omega)))
  ·rw [if_neg hx]; exact Aa9 hx (Aa4 _)
 rw [if_neg hy]
 refine Aa9 hy (Aa3 (by omega) (Aa3 (by omega) ?_))
 by_cases hx : rd a (i : Int) < 0
 ·rw [if_pos hx]; exact Aa3 hx (Aa4 _)
 rw [if_neg hx]
 refine Aa9 hx (Aa8 (starts_ev ha hi hx) ?_)
 obtain ⟨xs, hxs⟩ : ∃ xs, xs = Ad6 (arL l) a i := ⟨_, rfl⟩
 obtain ⟨ys, hys⟩ : ∃ ys, ys = Ad6 (arL l) b j := ⟨_, rfl⟩
 have hlx : xs.length = arL l (rd a (i : Int)) ∧ xs.length ≤ 2 := by
  obtain ⟨e, he, _⟩ := Ak3 ha hi
  rw [hxs, (Af5 hi he).1]; exact ⟨rfl, Ao1 ha.sig (ha.nodes i hi)⟩
 have hly : ys.length = arL l (rd b (j : Int)) ∧ ys.length ≤ 2 := by
  obtain ⟨e, he, _⟩ := Ak3 hb hj
  rw [hys, (Af5 hj he).1]; exact ⟨rfl, Ao1 hb.sig (hb.nodes j hj)⟩
 have h2 : ∀ hxy : rd a (i : Int) = rd b (j : Int), Ev (fun k => spec_l7Cell.l2 k [(⟨l⟩ : S36)] a b T (b.length : Int) (xs.map fun p : Nat => (p : Int)) (ys.map fun p : Nat => (p : Int)) 0) (Ar1 l a b (gT l o a b) xs ys) := by
  intro hxy
  have := cell_l2 ha hb ho hi hj hT xs ys [] [] (by rw [hlx.1, hly.1, hxy]) (by rw [← hxs]; simp) (by rw [← hys]; simp) rfl
  rw [← hxs, ← hys] at this
  simpa using this
 have hst := starts_ev hb hj hy
 rw [← hys] at hst
 rw [← hxs, ← hys]
 rw [← hxs] at hA
 rw [← hys] at hB
 have h1 : ∀ (d n : Nat), n + d = ys.length → Ev (fun k => spec_l7Cell.l1 k [(⟨l⟩ : S36)] a b (i : Int) (j : Int) T (b.length : Int) (xs.map fun p : Nat => (p : Int)) (ys.map fun p : Nat => (p : Int)) (n : Int))
   (if (ys.drop n).all (fun q => gT l o a b i q) = true then (if rd a (i : Int) = rd b (j : Int) then Ar1 l a b (gT l o a b) xs ys else true) else false) := by
  intro d
  induction d with
  | zero =>
   intro n hn
   refine Ab2 ?_
   simp only [spec_l7Cell.l1]
   rw [List.drop_eq_nil_of_le (by omega)]
   refine Aa9 (by rw [List.length_map]; omega) (Aa3 (by omega) (Aa3 (by omega) (Aa3 (by omega) (Aa3 (by omega) ?_))))
   simp only [List.all_nil, if_true]
   by_cases hxy : rd a (i : Int) = rd b (j : Int)
   ·rw [if_pos hxy]; exact Aa3 hxy (h2 hxy)
   ·rw [if_neg hxy]; exact Aa9 hxy (Aa4 _)
  | succ d ih =>
   intro n hn
   have hn2 : n < ys.length := by omega
   have hq := hB _ (List.getElem_mem hn2)
   obtain ⟨t1, t2, t3⟩ := Av5 ha hb ho hT hi hq.2 (by omega)
   refine Ab2 ?_
   simp only [spec_l7Cell.l1]
   have r1 : rd (ys.map fun p : Nat => (p : Int)) (n : Int) = (ys[n] : Int) := by rw [Af7 _ _ (by simpa using hn2)]; simp
   rw [r1, Ac2 (by omega), List.drop_eq_getElem_cons hn2, List.all_cons, t3]
   refine Aa3 (by rw [List.length_map]; omega) (Aa3 (by omega) (Aa3 t1 (Aa3 t2 ?_)))
   by_cases hg : gT l o a b i ys[n] = true
   ·rw [hg, Bool.true_and]
    exact Aa3 rfl (ih (n + 1) (by omega))
   ·have hg' : gT l o a b i ys[n] = false := by simpa using hg
    rw [hg', Bool.false_and, if_neg (by simp)]
    exact Aa9 (by simp) (Aa4 _)
 have h0 : ∀ (d n : Nat), n + d = xs.length → Ev (fun k => spec_l7Cell.l0 k [(⟨l⟩ : S36)] o a b (i : Int) (j : Int) T (b.length : Int) (xs.map fun p : Nat => (p : Int)) (n : Int))
   (if (xs.drop n).any (fun p => decide (sbL l a p = sbL l b j) || gT l o a b p j) = true then true else (if rkP o (rd a (i : Int)) < rkP o (rd b (j : Int)) then false else if ys.all (fun q => gT l o a b i q) = true then (if rd a (i : Int) = rd b (j : Int) then Ar1 l a b (gT l o a b) xs ys else true) else false)) := by
  intro d
  induction d with
  | zero =>
   intro n hn
   refine Ab2 ?_
   simp only [spec_l7Cell.l0]
   rw [List.drop_eq_nil_of_le (by omega)]
   refine Aa9 (by rw [List.length_map]; omega) (Aa3 (by omega) (Aa3 (by omega) (Aa8 (cmpRank_ev o (by omega) _) (Aa3 (by omega) (Aa3 (by omega) (Aa8 (cmpRank_ev o (by omega) _) ?_))))))
   simp only [List.any_nil, Bool.false_eq_true, if_false]
   by_cases hlt : rkP o (rd a (i : Int)) < rkP o (rd b (j : Int))
   ·rw [if_pos hlt]; exact Aa3 hlt (Aa4 _)
   ·rw [if_neg hlt]
    refine Aa9 hlt (Aa8 hst ?_)
    have := h1 ys.length 0 (by omega)
    rwa [List.drop_zero] at this
  | succ d ih =>
   intro n hn
   have hn2 : n < xs.length := by omega
   have hp := hA _ (List.getElem_mem hn2)
   have hm : (i + 1) * b.length ≤ xs[n] * b.length := Nat.mul_le_mul_right _ hp.1
   rw [Nat.succ_mul] at hm
   obtain ⟨t1, t2, t3⟩ := Av5 ha hb ho hT hp.2 hj (by omega)
   refine Ab2 ?_
   simp only [spec_l7Cell.l0]
   have r1 : rd (xs.map fun p : Nat => (p : Int)) (n : Int) = (xs[n] : Int) := by rw [Af7 _ _ (by simpa using hn2)]; simp
   rw [r1, Ac2 (by omega), List.drop_eq_getElem_cons hn2, List.any_cons, t3]
   refine Aa3 (by rw [List.length_map]; omega) (Aa3 (by omega) (Aa3 t1 (Aa3 t2 ?_)))
   by_cases hg : gT l o a b xs[n] j = true
   ·refine Aa3 hg (Ac6 (Aa4 _) ?_)
    rw [if_pos (by simp [hg])]
   ·refine Aa9 hg (Aa8 (l7Equal_ev ha hb hp.2 hj) ?_)
    have hg' : gT l o a b xs[n] j = false := by simpa using hg
    by_cases he : sbL l a xs[n] = sbL l b j
    ·refine Aa3 (by simpa using he) (Ac6 (Aa4 _) ?_)
     rw [if_pos (by simp [he])]
    ·refine Aa9 (by simpa using he) (Ac6 (ih (n + 1) (by omega)) ?_)
     simp [he, hg']
 have := h0 xs.length 0 (by omega)
 rw [List.drop_zero] at this
 exact this
theorem tab_row {i : Nat} (hi : i < a.length) (hprev : ∀ T, Ar3 l o a b T (i * b.length) → ∃ T', Ar3 l o a b T' 0 ∧ Ev (fun k => spec_l7Table.l0 k [(⟨l⟩ : S36)] o a b (b.length : Int) T ((i : Int) - 1)) T') :
  ∀ (j : Nat), j ≤ b.length → ∀ T, Ar3 l o a b T (i * b.length + j) → ∃ T', Ar3 l o a b T' 0 ∧ Ev (fun k => spec_l7Table.l1 k [(⟨l⟩ : S36)] o a b (b.length : Int) T (i : Int) ((j : Int) - 1)) T' := by
 have hla := ha.len
 have hlb := hb.len
 intro j
 induction j with
 | zero =>
  intro hj T hT
  obtain ⟨T', h1, h2⟩ := hprev T hT
  refine ⟨T', h1, Ab2 ?_⟩
  simp only [spec_l7Table.l1]
  rw [Af3 (x := (i : Int) - 1) (by omega) (by omega)]
  exact Aa9 (by omega) h2
 | succ j ih =>
  intro hj T hT
  obtain ⟨e, h1, h2⟩ := tab_idx hi (show j < b.length by omega) hla.2 hlb.2
  have hT' : Ar3 l o a b (T.set (i * b.length + j) (gT l o a b i j)) (i * b.length + j) := by
   refine ⟨by rw [List.length_set]; exact hT.1, fun p q hp hq hle => ?_⟩
   rw [List.getD_eq_getElem?_getD]
   by_cases hpq : i * b.length + j = p * b.length + q
   ·have hip : i = p := by
     have a1 : (i * b.length + j) / b.length = i := by rw [Nat.mul_comm, Nat.mul_add_div (by omega), Nat.div_eq_of_lt (by omega), Nat.add_zero]
     have a2 : (p * b.length + q) / b.length = p := by rw [Nat.mul_comm, Nat.mul_add_div (by omega), Nat.div_eq_of_lt (by omega), Nat.add_zero]
     rw [← a1, ← a2, hpq]
    subst hip
    have hjq : j = q := by omega
    subst hjq
    rw [List.getElem?_set_self (by rw [hT.1]; exact h1)]
    rfl
   ·rw [List.getElem?_set_ne hpq, ← List.getD_eq_getElem?_getD]
    exact hT.2 p q hp hq (by omega)
  obtain ⟨T', h3, h4⟩ := ih (by omega) _ hT'
  refine ⟨T', h3, Ab2 ?_⟩
  simp only [spec_l7Table.l1]
  have ej : ((j + 1 : Nat) : Int) - 1 = (j : Int) := by omega
  rw [ej, e, Af3 (x := (j : Int) - 1) (by omega) (by omega)]
  refine Aa3 (by omega) (Aa8 (cell_ev ha hb ho hi (by omega) (by rw [Nat.add_assoc]; exact hT)) (Aa3 (by omega) (Aa3 (by rw [hT.1]; omega) ?_)))
  rw [Int.toNat_natCast]
  exact h4
theorem tab_all : ∀ (i : Nat), i ≤ a.length → ∀ T, Ar3 l o a b T (i * b.length) → ∃ T', Ar3 l o a b T' 0 ∧ Ev (fun k => spec_l7Table.l0 k [(⟨l⟩ : S36)] o a b (b.length : Int) T ((i : Int) - 1)) T' := by
 have hla := ha.len
 have hlb := hb.len
 intro i
 induction i with
 | zero =>
  intro hi T hT
  refine ⟨T, by simpa using hT, Ab2 ?_⟩
  simp only [spec_l7Table.l0]
  exact Aa9 (by omega) (Aa4 _)
 | succ i ih =>
  intro hi T hT
  rw [Nat.succ_mul] at hT
  obtain ⟨T', h1, h2⟩ := tab_row ha hb ho (show i < a.length by omega) (ih (by omega)) b.length (Nat.le_refl _) T hT
  refine ⟨T', h1, Ab2 ?_⟩
  simp only [spec_l7Table.l0]
  have ej : ((i + 1 : Nat) : Int) - 1 = (i : Int) := by omega
  rw [ej, Af3 (x := (b.length : Int) - 1) (by omega) (by omega)]
  exact Aa3 (by omega) h2
theorem over_ev : Ev (fun k => spec_l7Over.f k [(⟨l⟩ : S36)] o a b) (gT l o a b 0 0) := by
 have hla := ha.len
 have hlb := hb.len
 have hm : a.length * b.length ≤ 24 * 24 := Nat.mul_le_mul hla.2 hlb.2
 have hm1 : 1 * 1 ≤ a.length * b.length := Nat.mul_le_mul hla.1 hlb.1
 have e : (a.length : Int) * (b.length : Int) = ((a.length * b.length : Nat) : Int) := by push_cast; rfl
 obtain ⟨T, h1, h2⟩ := tab_all ha hb ho a.length (Nat.le_refl _) (List.replicate (a.length * b.length) false) ⟨by simp, fun p q hp hq h => by
  have : (p + 1) * b.length ≤ a.length * b.length := Nat.mul_le_mul_right _ hp
  rw [Nat.succ_mul] at this
  omega⟩
 unfold spec_l7Over.f spec_l7Table.f
 rw [e, Af3 (x := ((a.length * b.length : Nat) : Int)) (by omega) (by omega), Af3 (x := (a.length : Int) - 1) (by omega) (by omega), Int.toNat_natCast]
 refine Aa8 (Aa3 (by omega) (Aa3 (by omega) h2)) (Aa3 (by rw [h1.1]; omega) (Ac6 (Aa4 _) ?_))
 have h3 := h1.2 0 0 (by omega) (by omega) (Nat.zero_le _)
 rw [show (0 : Int) = ((0 : Nat) : Int) from rfl, rdOf_nat]
 simpa using h3
end
end Go.Proofs.YtgichahebemmiaaGreatDoor.Pure
set_option linter.unusedVariables false
namespace Go.Proofs.YtgichahebemmiaaGreatDoor.Pure
open Go.RowKit Go.Proofs.YtgichahebemmiaaGreatDoor.P Go.Proofs.YtgichahebemmiaaGreatDoorW.PrintWords Go.Proofs.YtgichahebemmiaaGreatDoorW.PrintLast Go.Proofs.YtgichahebemmiaaGreatDoor.Base
def orL : List Int → Int
 | [] => 0
 | x :: xs => if x = 0 then orL xs else x
theorem or_ev : ∀ (q p : List Int), p.length + q.length ≤ 1000 → Ev (fun k => cmp_Or_int64.l0 k 0 (p ++ q) ((p ++ q).length : Int) (p.length : Int)) (orL q)
 | [], p, h => by
  refine Ab2 ?_
  simp only [cmp_Or_int64.l0]
  exact Aa9 (by simp) (Aa4 _)
 | x :: q, p, h => by
  rw [List.length_cons] at h
  have ih := or_ev q (p ++ [x]) (by rw [List.length_append, List.length_singleton]; omega)
  have r : rd (p ++ x :: q) (p.length : Int) = x := by rw [Af7 _ _ (by simp)]; simp
  refine Ab2 ?_
  simp only [cmp_Or_int64.l0]
  rw [r, Ac2 (by omega)]
  refine Aa3 (by rw [List.length_append, List.length_cons]; omega) (Aa3 (by omega) (Aa3 (by rw [List.length_append, List.length_cons]; omega) ?_))
  rw [orL]
  refine Ai7 (fun h => ?_) (fun h => Aa4 _)
  simpa using ih
theorem first_ev3 (a b c : Int) : Ev (fun k => impl_firstCode.f k [a, b, c]) (if a = 0 then (if b = 0 then c else b) else a) := by
 unfold impl_firstCode.f cmp_Or_int64.f
 have := or_ev [a, b, c] [] (by simp)
 refine Aa8 (a := if a = 0 then (if b = 0 then c else b) else a) (Ac6 this ?_) (Aa4 _)
 simp only [orL]
 by_cases hc : c = 0
 ·rw [if_pos hc, hc]
 ·rw [if_neg hc]
def Aw1 (l : List S79) (o a b : List Int) : Int := if a = b then 3 else if gT l o a b 0 0 = true then 1 else if gT l o b a 0 0 = true then 2 else 0
theorem ordF_sig {l : List S79} {o : List Int} (h : As4 l o = 0) : Au5 l = 0 := by
 unfold As4 at h
 by_cases hs : Au5 l = 0
 ·exact hs
 ·rw [if_neg hs] at h; exact absurd h hs
theorem l7Compare_ev {l : List S79} {o a b : List Int} (ho : As4 l o = 0) (ha : Ak5 l a = 0) (hb : Ak5 l b = 0) : Ev (fun k => spec_l7Compare.f k [(⟨l⟩ : S36)] o a b) (Aw1 l o a b) := by
 have hA := Ak6 ha
 have hB := Ak6 hb
 have hla := hA.len
 unfold spec_l7Compare.f Aw1
 refine Aa8 (l1Same_ev a b (by omega)) ?_
 by_cases e : a = b
 ·rw [if_pos e]; exact Aa3 (by simpa using e) (Aa4 _)
 ·rw [if_neg e]
  refine Aa9 (by simpa using e) (Aa8 (over_ev hA hB ho) (Ai7 (fun _ => Aa4 _) (fun _ => Aa8 (over_ev hB hA ho) (Ai7 (fun _ => Aa4 _) (fun _ => Aa4 _)))))
theorem compareTerms_ev {l : List S79} {o a b : List Int} (ho : As4 l o = 0) (ha : Ak5 l a = 0) (hb : Ak5 l b = 0) : Ev (fun k => impl_compareTerms.f k l o a b) (Aw1 l o a b) := by
 have hA := Ak6 ha
 have hB := Ak6 hb
 have hla := hA.len
 unfold impl_compareTerms.f Aw1
 refine Aa8 (sliceEq_ev a b (by omega)) ?_
 by_cases e : a = b
 ·rw [if_pos e]; exact Aa3 (by simpa using e) (Aa4 _)
 ·rw [if_neg e]
  refine Aa9 (by simpa using e) (Aa8 (isGreater_ev hA hB ho) (Ai7 (fun _ => Aa4 _) (fun _ => Aa8 (isGreater_ev hB hA ho) (Ai7 (fun _ => Aa4 _) (fun _ => Aa4 _)))))
end Go.Proofs.YtgichahebemmiaaGreatDoor.Pure
set_option linter.unusedVariables false
namespace Go.Proofs.YtgichahebemmiaaGreatDoor.Pure
open Go.RowKit Go.Proofs.YtgichahebemmiaaGreatDoor.P Go.Proofs.YtgichahebemmiaaGreatDoorW.PrintWords Go.Proofs.YtgichahebemmiaaGreatDoorW.PrintLast Go.Proofs.YtgichahebemmiaaGreatDoor.Base
theorem toInt64S_l0 (l : List Int) (hl : l.length ≤ 35184372088832) : ∀ (d i : Nat), i + d = l.length → Ev (fun k => laws_toInt64S.l0 k l (Aq4 0 l i) (i : Int)) l := by
 intro d
 induction d with
 | zero =>
  intro i hi
  refine Ab2 ?_
  simp only [laws_toInt64S.l0]
  refine Aa9 (by omega) ?_
  obtain rfl : i = l.length := by omega
  rw [cpart_end]
  exact Aa4 _
 | succ d ih =>
  intro i hi
  refine Ab2 ?_
  simp only [laws_toInt64S.l0]
  refine Aa3 (by omega) (Aa3 (by omega) (Aa3 (by rw [cpart_length _ _ _ (by omega)]; omega) ?_))
  rw [Ac2 (by omega), Int.toNat_natCast, cpart_set 0 l i (by omega) _ (rd_some l i (by omega))]
  exact ih (i + 1) (by omega)
theorem Al3 (l : List Int) (hl : l.length ≤ 35184372088832) : Ev (fun k => laws_toInt64S.f k l) l := by
 unfold laws_toInt64S.f
 refine Aa3 (by omega) (Aa3 (by omega) ?_)
 rw [Int.toNat_natCast, ← cpart_zero]
 exact toInt64S_l0 l hl l.length 0 (by omega)
theorem eqInt64S_l0 (a b : List Int) (hab : a.length = b.length) (hl : a.length ≤ 9223372036854775807) : ∀ (d i : Nat), i + d = a.length → Ev (fun k => laws_eqInt64S.l0 k a b (i : Int)) (decide (a.drop i = b.drop i)) := by
 intro d
 induction d with
 | zero =>
  intro i hi
  refine Ab2 ?_
  simp only [laws_eqInt64S.l0]
  refine Aa9 (by omega) ?_
  rw [List.drop_eq_nil_of_le (by omega), List.drop_eq_nil_of_le (by omega)]
  exact Aa4 _
 | succ d ih =>
  intro i hi
  refine Ab2 ?_
  simp only [laws_eqInt64S.l0]
  refine Aa3 (by omega) (Aa3 (by omega) (Aa3 (by omega) ?_))
  rw [At9 a i (by omega), At9 b i (by omega)]
  by_cases h : rd a (i : Int) = rd b (i : Int)
  ·refine Aa3 h ?_
   rw [Ac2 (by omega)]
   refine Ac6 (ih (i + 1) (by omega)) ?_
   simp [h]
  ·refine Aa9 h ?_
   refine Ac6 (Aa4 _) ?_
   simp [h]
theorem Am3 (a b : List Int) (hl : a.length ≤ 9223372036854775807) : Ev (fun k => laws_eqInt64S.f k a b) (decide (a = b)) := by
 unfold laws_eqInt64S.f
 by_cases h : a.length = b.length
 ·refine Aa3 (by omega) ?_
  exact eqInt64S_l0 a b h hl a.length 0 (by omega)
 ·refine Aa9 (by omega) ?_
  refine Ac6 (Aa4 _) ?_
  have : ¬ a = b := fun e => h (by rw [e])
  simp [this]
end Go.Proofs.YtgichahebemmiaaGreatDoor.Pure
set_option linter.unusedVariables false
namespace Go.Proofs.YtgichahebemmiaaGreatDoor.Pure
open Go.RowKit Go.Proofs.YtgichahebemmiaaGreatDoor.P Go.Proofs.YtgichahebemmiaaGreatDoorW.PrintWords Go.Proofs.YtgichahebemmiaaGreatDoorW.PrintLast Go.Proofs.YtgichahebemmiaaGreatDoor.Base
def Av7 (l : List S79) (o a b : List Int) : Int × List Int × List Int :=
 if As4 l o = 0 then (if Ak5 l a = 0 then (if Ak5 l b = 0 then (if Aw1 l o a b = 1 then (0, a, b) else if Aw1 l o a b = 2 then (0, b, a) else (10, [], [])) else (Ak5 l b, [], [])) else (Ak5 l a, [], [])) else (As4 l o, [], [])
theorem oriR_length (l : List S79) (o a b : List Int) : (Av7 l o a b).2.1.length ≤ 1000 ∧ (Av7 l o a b).2.2.length ≤ 1000 := by
 unfold Av7
 by_cases h0 : As4 l o = 0
 ·rw [if_pos h0]
  by_cases h1 : Ak5 l a = 0
  ·rw [if_pos h1]
   by_cases h2 : Ak5 l b = 0
   ·rw [if_pos h2]
    have ha := (Ak6 h1).len
    have hb := (Ak6 h2).len
    by_cases c1 : Aw1 l o a b = 1
    ·rw [if_pos c1]; simp only; omega
    ·rw [if_neg c1]
     by_cases c2 : Aw1 l o a b = 2
     ·rw [if_pos c2]; simp only; omega
     ·rw [if_neg c2]; simp
   ·rw [if_neg h2]; simp
  ·rw [if_neg h1]; simp
 ·rw [if_neg h0]; simp
theorem Ap6 (a : List Int) (ha : a.length ≤ 1048576) : spec_l1Ints.f a = some a := by
 unfold spec_l1Ints.f
 simp only [Option.bind_some, List.length_nil, List.nil_append]
 rw [if_pos (by omega)]
theorem OrientEquation_spec (l : List S79) (o a b : List Int) (ho : o.length ≤ 1048576) (ha : a.length ≤ 1048576) (hb : b.length ≤ 1048576) : Ev (fun k => spec_OrientEquation.f k l o a b) (Av7 l o a b) := by
 unfold spec_OrientEquation.f Av7
 refine Aa8 (OrderFault_spec l o ho) (Ai7 (fun h0 => ?_) (fun h => Aa4 _))
 have hs := ordF_sig h0
 have ga : At8 l a = Ak5 l a := by unfold Ak5; rw [if_pos hs]
 have gb : At8 l b = Ak5 l b := by unfold Ak5; rw [if_pos hs]
 refine Aa8 (l3Fault_ev l (Al0 l hs) a ha) ?_
 rw [ga]
 refine Ai7 (fun h1 => ?_) (fun h => Aa4 _)
 refine Aa8 (l3Fault_ev l (Al0 l hs) b hb) ?_
 rw [gb]
 refine Ai7 (fun h2 => Aa8 (l7Compare_ev h0 h1 h2) (Ai7 (fun _ => ?_) (fun _ => Ai7 (fun _ => ?_) (fun _ => Aa4 _)))) (fun h => Aa4 _)
 ·have e0 : (Af6 [(⟨a, b⟩ : S30)] 0).f0 = a := rfl
  have e1 : (Af6 [(⟨a, b⟩ : S30)] 0).f1 = b := rfl
  have hc : spec_l4Copy.f [(⟨a, b⟩ : S30)] = some (a, b) := by
   unfold spec_l4Copy.f
   rw [e0, e1, if_pos (by simp), Ap6 a ha, Option.bind_some, Ap6 b hb, Option.bind_some]
  exact Ac4 hc (Aa4 _)
 ·exact Ac4 (Ap6 b hb) (Ac4 (Ap6 a ha) (Aa4 _))
theorem own_eq (a b : List Int) (ha : a.length ≤ 1048576) (hb : b.length ≤ 1048576) : impl_ownEquation.f a b = some (a, b) := by
 have hc : ∀ o : List Int, o.length ≤ 1048576 → slices_Clone_int64_int64.f o = some o := fun o ho => by
  unfold slices_Clone_int64_int64.f
  exact if_pos (by omega)
 unfold impl_ownEquation.f
 rw [hc a ha, hc b hb]; rfl
theorem OrientEquation_impl (l : List S79) (o a b : List Int) (ho : o.length ≤ 1048576) (ha : a.length ≤ 1048576) (hb : b.length ≤ 1048576) : Ev (fun k => impl_OrientEquation.f k l o a b) (Av7 l o a b) := by
 unfold impl_OrientEquation.f Av7
 refine Aa8 (OrderFault_impl l o ho) (Aa8 (TermFault_impl l a ha) (Aa8 (TermFault_impl l b hb) (Aa8 (first_ev3 _ _ _) ?_)))
 by_cases h0 : As4 l o = 0
 ·rw [if_pos h0, if_pos h0]
  by_cases h1 : Ak5 l a = 0
  ·rw [if_pos h1, if_pos h1]
   by_cases h2 : Ak5 l b = 0
   ·rw [if_pos h2]
    refine Aa3 h2 (Aa8 (compareTerms_ev h0 h1 h2) (Ai7 (fun _ => ?_) (fun _ => Ai7 (fun _ => ?_) (fun _ => Aa4 _))))
    ·exact Ac4 (own_eq a b ha hb) (Aa4 _)
    ·exact Ac4 (own_eq b a hb ha) (Aa4 _)
   ·rw [if_neg h2]; exact Aa9 h2 (Aa4 _)
  ·rw [if_neg h1, if_neg h1]; exact Aa9 h1 (Aa4 _)
 ·rw [if_neg h0, if_neg h0]; exact Aa9 h0 (Aa4 _)
end Go.Proofs.YtgichahebemmiaaGreatDoor.Pure
set_option linter.unusedVariables false
namespace Go.Proofs.YtgichahebemmiaaGreatDoor.Pure
open Go.RowKit Go.Proofs.YtgichahebemmiaaGreatDoor.P Go.Proofs.YtgichahebemmiaaGreatDoorW.PrintWords Go.Proofs.YtgichahebemmiaaGreatDoorW.PrintLast Go.Proofs.YtgichahebemmiaaGreatDoor.Base
theorem szInts_cases (l : List Int) (hl : l.length ≤ maxLen) (v : Int) (h0 : 0 ≤ v) (h1 : v ≤ 1048576) :
  laws_szInt64S.f l v = some (-1) ∨ ∃ u, laws_szInt64S.f l v = some u ∧ 0 ≤ u ∧ u ≤ v ∧ (l.length : Int) ≤ v := by
 unfold maxLen at hl
 unfold laws_szInt64S.f
 rw [Af3 (x := v - (l.length : Int)) (by omega) (by omega)]
 by_cases h : v - (l.length : Int) < 0
 ·rw [if_pos h]; exact .inl rfl
 ·rw [if_neg h]; exact .inr ⟨_, rfl, by omega, by omega, by omega⟩
theorem szOne_cases (a b : List Int) (ha : a.length ≤ maxLen) (hb : b.length ≤ maxLen) (v : Int) (h0 : 0 ≤ v) (h1 : v ≤ 1048576) :
  laws_szEquation.f a b v = some (-1) ∨ ∃ u, laws_szEquation.f a b v = some u ∧ 0 ≤ u ∧ u ≤ v ∧ a.length ≤ 1048576 ∧ b.length ≤ 1048576 := by
 unfold laws_szEquation.f
 rcases szInts_cases a ha v h0 h1 with e | ⟨u, e, u0, uv, hq⟩
 ·rw [e]; exact .inl rfl
 ·rw [e]
  simp only [Option.bind_some]
  rw [if_neg (by omega)]
  rcases szInts_cases b hb u u0 (by omega) with e | ⟨t, e, t0, tv, hq'⟩
  ·rw [e]; exact .inl rfl
  ·rw [e]
   simp only [Option.bind_some]
   rw [if_neg (by omega)]
   exact .inr ⟨t, rfl, t0, by omega, by omega, by omega⟩
theorem toOne_ev (a b : List Int) (ha : a.length ≤ 1048576) (hb : b.length ≤ 1048576) : Ev (fun k => laws_toEquation.f k a b) (a, b) := by
 unfold laws_toEquation.f
 exact Aa8 (Al3 a (by omega)) (Aa8 (Al3 b (by omega)) (Aa4 _))
theorem eqOne_ev (a b : List Int) (ha : a.length ≤ 1048576) (hb : b.length ≤ 1048576) : Ev (fun k => laws_eqEquation.f k a b a b) true := by
 unfold laws_eqEquation.f
 exact Aa8 (Am3 a a (by omega)) (Aa3 (by simp) (Aa8 (Am3 b b (by omega)) (Aa3 (by simp) (Aa4 _))))
end Go.Proofs.YtgichahebemmiaaGreatDoor.Pure
set_option linter.unusedVariables false
namespace Go.Proofs.YtgichahebemmiaaGreatDoor.Pure
open Go.RowKit Go.Proofs.YtgichahebemmiaaGreatDoor.P Go.Proofs.YtgichahebemmiaaGreatDoorW.PrintWords Go.Proofs.YtgichahebemmiaaGreatDoorW.PrintLast Go.Proofs.YtgichahebemmiaaGreatDoor.Base
theorem markText_l0 : ∀ (x : Nat) (s : ByteArray), s.size + x ≤ 9000000000000000000 → ∃ r, Ev (fun k => laws_markText.l0 k (x : Int) s) r := by
 intro x
 induction x using Nat.strongRecOn with
 | _ x ih =>
  intro s hs
  rcases Nat.eq_zero_or_pos x with rfl | hp
  ·refine ⟨(⟨#[109]⟩ : ByteArray) ++ s, Ab2 ?_⟩
   simp only [laws_markText.l0]
   exact Aa9 (by omega) (Aa3 (by omega) (Aa4 _))
  ·have hz : (strOfNums [(wrap64 (48 + (Int.tmod (x : Int) 10))) % 256]).size = 1 := rfl
   have hd : wrap64 (Int.tdiv (x : Int) 10) = ((x / 10 : Nat) : Int) := by
    rw [Int.tdiv_eq_ediv_of_nonneg (by omega), Af3 (by omega) (by omega)]; omega
   obtain ⟨r, hr⟩ := ih (x / 10) (by omega) (strOfNums [(wrap64 (48 + (Int.tmod (x : Int) 10))) % 256] ++ s) (by rw [ByteArray.size_append, hz]; omega)
   refine ⟨r, Ab2 ?_⟩
   simp only [laws_markText.l0]
   refine Aa3 (by omega) (Ac4 rfl (Aa3 (by rw [hz]; omega) ?_))
   rw [hd]; exact hr
theorem markText_ev (x : Int) (h0 : 0 < x) (h1 : x ≤ 8000000000000000000) : ∃ r, Ev (fun k => laws_markText.f k x) r := by
 obtain ⟨n, rfl⟩ := Int.eq_ofNat_of_zero_le (show 0 ≤ x by omega)
 obtain ⟨r, hr⟩ := markText_l0 n ⟨#[]⟩ (by show 0 + n ≤ _; omega)
 refine ⟨r, ?_⟩
 unfold laws_markText.f
 exact Aa9 (by omega) hr
theorem markSymbolS_l0 : ∀ (d i : Nat) (l : List S79) (m : Int), i + d = l.length → 0 < m → m + 2 * d ≤ 8000000000000000000 → l.length ≤ 1048576 →
  ∃ l', Ev (fun k => laws_markSymbolS.l0 k l m (i : Int)) (m + 2 * d, l') := by
 intro d
 induction d with
 | zero =>
  intro i l m hi h0 h1 hl
  refine ⟨l, Ab2 ?_⟩
  simp only [laws_markSymbolS.l0]
  exact Aa9 (by omega) (Ac6 (Aa4 _) (by simp))
 | succ d ih =>
  intro i l m hi h0 h1 hl
  obtain ⟨s, hs⟩ := markText_ev m h0 (by omega)
  obtain ⟨l', h⟩ := ih (i + 1) ((l.set i (⟨s, (Aa7 l (i : Int)).f1⟩ : S79)).set i (⟨(Aa7 (l.set i (⟨s, (Aa7 l (i : Int)).f1⟩ : S79)) (i : Int)).f0, m + 1⟩ : S79)) (m + 2) (by simp; omega) (by omega) (by omega) (by simpa using hl)
  refine ⟨l', Ab2 ?_⟩
  simp only [laws_markSymbolS.l0]
  refine Aa3 (by omega) (Aa8 hs (Aa3 (by omega) (Ac4 rfl ?_)))
  rw [Int.toNat_natCast, Af3 (x := m + 1) (by omega) (by omega), Af3 (x := m + 1 + 1) (by omega) (by omega), Ac2 (by omega), show m + 1 + 1 = m + 2 by omega]
  exact Ac6 h (by rw [show m + 2 + 2 * (d : Int) = m + 2 * ((d + 1 : Nat) : Int) by omega])
theorem markSignature_ev (l : List S79) (hl : l.length ≤ 1048576) (m : Int) (h0 : 0 < m) (h1 : m ≤ 4000000000000000000) : ∃ l', Ev (fun k => laws_markSignature.f k l m) (m + 2 * l.length, l') := by
 obtain ⟨l', h⟩ := markSymbolS_l0 l.length 0 l m (by omega) h0 (by omega) hl
 refine ⟨l', ?_⟩
 unfold laws_markSignature.f laws_markSymbolS.f
 exact Aa8 h (Aa4 _)
def Ah3 (m : Int) : Nat → List Int
 | 0 => []
 | n + 1 => m :: Ah3 (m + 1) n
theorem marksI_length (n : Nat) : ∀ m, (Ah3 m n).length = n := by
 induction n with
 | zero => intro m; rfl
 | succ n ih => intro m; simp [Ah3, ih]
theorem markInt64S_l0 : ∀ (d : Nat) (pre rest : List Int) (m : Int), rest.length = d → 0 ≤ m → m + d ≤ 9000000000000000000 → pre.length + d ≤ 9000000000000000000 →
  Ev (fun k => laws_markInt64S.l0 k (pre ++ rest) m (pre.length : Int)) (m + d, pre ++ Ah3 m d) := by
 intro d
 induction d with
 | zero =>
  intro pre rest m hr h0 h1 h2
  refine Ab2 ?_
  simp only [laws_markInt64S.l0]
  refine Aa9 (by simp; omega) ?_
  obtain rfl : rest = [] := List.eq_nil_of_length_eq_zero hr
  exact Ac6 (Aa4 _) (by simp [Ah3])
 | succ d ih =>
  intro pre rest m hr h0 h1 h2
  obtain ⟨x, rest, rfl⟩ : ∃ x r, rest = x :: r := by
   cases rest with
   | nil => simp at hr
   | cons x r => exact ⟨x, r, rfl⟩
  refine Ab2 ?_
  simp only [laws_markInt64S.l0]
  refine Aa3 (by simp; omega) (Aa3 (by omega) ?_)
  rw [Ac2 (by omega), Af3 (x := m + 1) (by omega) (by omega), Int.toNat_natCast]
  have e : (pre ++ x :: rest).set pre.length m = (pre ++ [m]) ++ rest := by simp
  rw [e]
  have := ih (pre ++ [m]) rest (m + 1) (by simpa using hr) (by omega) (by omega) (by simp; omega)
  simp only [List.length_append, List.length_singleton] at this
  exact Ac6 this (by simp [Ah3]; omega)
theorem Ak8 (xs : List Int) (m : Int) (h0 : 0 ≤ m) (h1 : m + xs.length ≤ 9000000000000000000) : Ev (fun k => laws_markInt64S.f k xs m) (m + xs.length, Ah3 m xs.length) := by
 unfold laws_markInt64S.f
 exact markInt64S_l0 xs.length [] xs m rfl h0 h1 (by simp; omega)
theorem heldInt64S_l0 : ∀ (d : Nat) (pre : List Int) (m : Int), 0 ≤ m → m + d ≤ 9000000000000000000 → pre.length + d ≤ 9000000000000000000 →
  Ev (fun k => laws_heldInt64S.l0 k (pre ++ Ah3 m d) m (pre.length : Int)) (m + d) := by
 intro d
 induction d with
 | zero =>
  intro pre m h0 h1 h2
  refine Ab2 ?_
  simp only [laws_heldInt64S.l0]
  refine Aa9 (by simp [Ah3]) ?_
  exact Ac6 (Aa4 _) (by simp)
 | succ d ih =>
  intro pre m h0 h1 h2
  refine Ab2 ?_
  simp only [laws_heldInt64S.l0]
  have e : rd (pre ++ Ah3 m (d + 1)) (pre.length : Int) = m := by simp [rd, Ah3]
  refine Aa3 (by simp [marksI_length]; omega) (Aa3 (by omega) (Aa3 e ?_))
  rw [Ac2 (by omega), Af3 (x := m + 1) (by omega) (by omega)]
  have := ih (pre ++ [m]) (m + 1) (by omega) (by omega) (by simp; omega)
  simp only [List.length_append, List.length_singleton, List.append_assoc, List.singleton_append] at this
  exact Ac6 this (by omega)
theorem heldInt64S_ev (n : Nat) (m : Int) (h0 : 0 ≤ m) (h1 : m + n ≤ 9000000000000000000) : Ev (fun k => laws_heldInt64S.f k (Ah3 m n) m) (m + n) := by
 unfold laws_heldInt64S.f
 exact heldInt64S_l0 n [] m h0 h1 (by simp; omega)
end Go.Proofs.YtgichahebemmiaaGreatDoor.Pure
set_option linter.unusedVariables false
namespace Go.Proofs.YtgichahebemmiaaGreatDoor.Pure
open Go.RowKit Go.Proofs.YtgichahebemmiaaGreatDoor.P Go.Proofs.YtgichahebemmiaaGreatDoorW.PrintWords Go.Proofs.YtgichahebemmiaaGreatDoorW.PrintLast Go.Proofs.YtgichahebemmiaaGreatDoor.Base
theorem markEquation_ev (a b : List Int) (m : Int) (h0 : 0 ≤ m) (h1 : m + a.length + b.length ≤ 9000000000000000000) : Ev (fun k => laws_markEquation.f k a b m) (m + a.length + b.length, Ah3 m a.length, Ah3 (m + a.length) b.length) := by
 unfold laws_markEquation.f
 exact Aa8 (Ak8 a m h0 (by omega)) (Aa8 (Ak8 b (m + a.length) (by omega) h1) (Aa4 _))
theorem markEquationResult_ev (c : Int) (a b : List Int) (m : Int) (h0 : 0 ≤ m) (h1 : m + a.length + b.length ≤ 9000000000000000000) : Ev (fun k => laws_markEquationResult.f k c a b m) (m + a.length + b.length, Ah3 m a.length, Ah3 (m + a.length) b.length) := by
 unfold laws_markEquationResult.f
 exact Aa8 (markEquation_ev a b m h0 h1) (Aa4 _)
theorem heldEquation_ev (n n2 : Nat) (m : Int) (h0 : 0 ≤ m) (h1 : m + n + n2 ≤ 9000000000000000000) : Ev (fun k => laws_heldEquation.f k (Ah3 m n) (Ah3 (m + n) n2) m) (m + n + n2) := by
 unfold laws_heldEquation.f
 exact Aa8 (heldInt64S_ev n m h0 (by omega)) (Aa9 (by omega) (Aa8 (heldInt64S_ev n2 (m + n) (by omega) h1) (Aa9 (by omega) (Aa4 _))))
theorem heldEquationResult_ev (c : Int) (n n2 : Nat) (m : Int) (h0 : 0 ≤ m) (h1 : m + n + n2 ≤ 9000000000000000000) : Ev (fun k => laws_heldEquationResult.f k c (Ah3 m n) (Ah3 (m + n) n2) m) (m + n + n2) := by
 unfold laws_heldEquationResult.f
 exact Aa8 (heldEquation_ev n n2 m h0 h1) (Aa9 (by omega) (Aa4 _))
theorem eqEquationResult_same (c : Int) (a b : List Int) (ha : a.length ≤ 1048576) (hb : b.length ≤ 1048576) : Ev (fun k => laws_eqEquationResult.f k c a b c a b) true := by
 unfold laws_eqEquationResult.f
 exact Aa3 rfl (Aa8 (eqOne_ev a b ha hb) (Aa3 rfl (Aa4 _)))
end Go.Proofs.YtgichahebemmiaaGreatDoor.Pure
set_option linter.unusedVariables false
namespace Go.Proofs.YtgichahebemmiaaGreatDoor.Pure
open Go.RowKit Go.Proofs.YtgichahebemmiaaGreatDoor.P Go.Proofs.YtgichahebemmiaaGreatDoorW.PrintWords Go.Proofs.YtgichahebemmiaaGreatDoorW.PrintLast Go.Proofs.YtgichahebemmiaaGreatDoor.Base
theorem OrientEquation_j0 (l : List S74) (hl : l.length ≤ 1048576) (o : List Int) (hbo : o.length ≤ 1048576) (a b : List Int) (hba : a.length ≤ 1048576) (hbb : b.length ≤ 1048576) (c : Int) (x y : List Int) (hx : x.length ≤ 1000) (hy : y.length ≤ 1000) (hr : Av7 (l.map toI) o a b = (c, x, y)) :
  Ev (fun k => laws_FnExactOrientEquation.j0 k o false l a b c x y c x y) true := by
 refine Ab2 ?_
 simp only [laws_FnExactOrientEquation.j0]
 have t := toSignature_ev l hl
 have tlo := Al3 o (by omega)
 have tla := toOne_ev a b hba hbb
 have hm := markEquationResult_ev c x y 1 (by omega) (by omega)
 have hh := heldEquationResult_ev c x.length y.length 1 (by omega) (by omega)
 have hp := OrientEquation_impl (l.map toI) o a b hbo hba hbb
 rw [hr] at hp
 exact Aa9 (by simp) (Aa8 hm (Aa8 hh (Aa9 (by omega) (Aa3 rfl (Aa8 t (Aa8 tlo (Aa8 tla (Aa8 hp (Aa8 (eqEquationResult_same c x y (by omega) (by omega)) (Aa3 rfl (Aa8 hh (Aa9 (by omega) (Aa3 rfl (Aa4 _))))))))))))))
theorem FnExactOrientEquation (l : List S74) (o : List Int) (a b : List Int) (hl : Aw6 l) (wo : o.length ≤ maxLen ∧ ∀ y ∈ o, (Lit.int .i64 y).wf = true) (wa : a.length ≤ maxLen ∧ ∀ y ∈ a, (Lit.int .i64 y).wf = true) (wb : b.length ≤ maxLen ∧ ∀ y ∈ b, (Lit.int .i64 y).wf = true) : ∃ k, laws_FnExactOrientEquation.f k l o a b = some true := by
 refine ev_ex (g := fun k => laws_FnExactOrientEquation.f k l o a b) ?_
 unfold laws_FnExactOrientEquation.f
 by_cases bo : (o.length : Int) > 1048576
 ·exact Aa3 bo (Aa4 _)
 refine Aa9 bo ?_
 have hbo : o.length ≤ 1048576 := by omega
 have tlo := Al3 o (by omega)
 have elo := Am3 o o (by omega)
 obtain ⟨r, hr, h1⟩ := szSignature_ev l hl 1048576 (by omega) (by omega)
 refine Aa8 hr ?_
 by_cases hr0 : r < 0
 ·exact Aa3 hr0 (Aa4 _)
 have h1 := h1 hr0
 refine Aa9 hr0 ?_
 have t := toSignature_ev l (by omega)
 have e := eqSignature_ev (l.map toI) (by rw [List.length_map]; omega)
 rcases szOne_cases a b wa.1 wb.1 r (by omega) (by omega) with ea | ⟨ua, ea, u0a, ura, hba, hbb⟩
 ·exact Ac4 ea (Aa3 (by omega) (Aa4 _))
 refine Ac4 ea (Aa9 (by omega) ?_)
 have tla := toOne_ev a b hba hbb
 have ela := eqOne_ev a b hba hbb
 have hx := oriR_length (l.map toI) o a b
 have hs := OrientEquation_spec (l.map toI) o a b hbo hba hbb
 have hp := OrientEquation_impl (l.map toI) o a b hbo hba hbb
 have hj := fun c x y (hc : Av7 (l.map toI) o a b = (c, x, y)) (hx : x.length ≤ 1000) (hy : y.length ≤ 1000) => OrientEquation_j0 l (by omega) o hbo a b hba hbb c x y hx hy hc
 generalize hc : Av7 (l.map toI) o a b = q at *
 obtain ⟨c, x, y⟩ := q
 have hq := eqEquationResult_same c x y (by simp only at hx; omega) (by simp only at hx; omega)
 obtain ⟨l', hm⟩ := markSignature_ev (l.map toI) (by rw [List.length_map]; omega) 1 (by omega) (by omega)
 rw [List.length_map] at hm
 have hmko := Ak8 o (1 + 2 * (l.length : Int)) (by omega) (by omega)
 have hmka := markEquation_ev a b (1 + 2 * (l.length : Int) + (o.length : Int)) (by omega) (by omega)
 exact (Aa8 t (Aa8 tlo (Aa8 tla (Aa8 hs (Aa8 t (Aa8 tlo (Aa8 tla (Aa8 hp (Aa8 hq (Aa3 rfl (Aa8 t (Aa8 e (Aa3 rfl (Aa8 tlo (Aa8 elo (Aa3 (by simp) (Aa8 tla (Aa8 ela (Aa3 rfl (Aa8 hm (Aa8 hmko (Aa8 hmka (Aa9 (by simp only; omega) (Aa8 hq (hj c x y rfl hx.1 hx.2)))))))))))))))))))))))))
end Go.Proofs.YtgichahebemmiaaGreatDoor.Pure
