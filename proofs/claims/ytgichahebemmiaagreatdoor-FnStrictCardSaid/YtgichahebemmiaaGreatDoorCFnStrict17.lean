/- A part of the proof of the law FnStrict. -/
import Derived.Lib.Bytes
import Derived.Lib.Join
import Derived.Lib.FieldsP
import Derived.Laws.RangeString
import Derived.Test.YtgichahebemmiaaGreatDoorCFnStrict15
set_option linter.unusedVariables false
namespace Go.Proofs.YtgichahebemmiaaGreatDoor.Pure
open Go.RowKit Go.Proofs.YtgichahebemmiaaGreatDoor.P Go.Proofs.YtgichahebemmiaaGreatDoorW.PrintWords Go.Proofs.YtgichahebemmiaaGreatDoorW.PrintLast Go.Proofs.YtgichahebemmiaaGreatDoor.Base
theorem Bk1 (s : ByteArray) (i : Nat) (h : i < s.data.toList.length) : bt s (i : Int) = ((s.data.toList[i]).toNat : Int) := by
 have hs : i < s.size := by rw [Lib.size_eq]; exact h
 unfold bt
 rw [dif_pos (by simpa using hs)]
 rfl
theorem l2Name_l0 (s : ByteArray) (hl : s.size ≤ 3) : ∀ (d i : Nat), i + d = s.size → Ev (fun k => Ag4.l0 k s (i : Int)) ((s.data.toList.drop i).all As9) := by
 have hz := Lib.size_eq s
 intro d
 induction d with
 | zero =>
  intro i hi
  refine Ad2 ?_
  simp only [Ag4.l0]
  refine Ab5 (by omega) (Ah7 (Aa9 _) ?_)
  rw [List.drop_eq_nil_of_le (by omega)]; rfl
 | succ d ih =>
  intro i hi
  have hi' : i < s.data.toList.length := by omega
  refine Ad2 ?_
  simp only [Ag4.l0]
  refine Aa3 (by omega) (Aa3 (by omega) ?_)
  rw [Bk1 s i hi', List.drop_eq_getElem_cons hi', Ag1 (by omega)]
  generalize s.data.toList[i] = b
  by_cases h1 : (b.toNat : Int) < 97
  ·refine Aa3 h1 (Ah7 (Aa9 _) ?_)
   have : As9 b = false := by unfold As9; simp; omega
   simp [this]
  refine Ab5 h1 ?_
  by_cases h2 : (b.toNat : Int) > 122
  ·refine Aa3 h2 (Ah7 (Aa9 _) ?_)
   have : As9 b = false := by unfold As9; simp; omega
   simp [this]
  refine Ab5 h2 (Ah7 (ih (i + 1) (by omega)) ?_)
  have : As9 b = true := by unfold As9; simp; omega
  simp [this]
theorem l2Name_ev (s : ByteArray) : Ev (fun k => Ag4.f k s) (Ba2 s) := by
 unfold Ag4.f Ba2
 by_cases h1 : (s.size : Int) < 1
 ·refine Aa3 h1 (Ad2 ?_)
  simp only [Ag4.j0]
  exact Aa3 (by simp) (Ah7 (Aa9 _) (by simp; omega))
 refine Ab5 h1 (Ad2 ?_)
 simp only [Ag4.j0]
 by_cases h2 : (s.size : Int) > 3
 ·exact Aa3 (by simpa using h2) (Ah7 (Aa9 _) (by simp; omega))
 refine Ab5 (by simpa using h2) (Ah7 (l2Name_l0 s (by omega) s.size 0 (by omega)) ?_)
 have : decide (1 ≤ s.size ∧ s.size ≤ 3) = true := by simp; omega
 rw [this]; rfl
theorem isName_eq (s : ByteArray) : At2.f s = some (Ba2 s) := by
 unfold At2.f Ba2
 by_cases h1 : (s.size : Int) ≥ 1
 ·rw [if_pos h1]
  by_cases h2 : (s.size : Int) ≤ 3
  ·rw [if_pos h2]
   have ht : Ap5.f s abc = some ⟨(Lib.trimS s.data.toList abc.data.toList).toArray⟩ := by
    unfold Ap5.f
    exact if_pos ⟨by omega, by decide, by decide +kernel⟩
   refine Bi9 ht ?_
   have : decide (1 ≤ s.size ∧ s.size ≤ 3) = true := by simp; omega
   rw [this, Lib.toList_data]
   simp only [Bool.true_and]
   rw [← trim_abc]
  ·rw [if_neg h2]
   have : decide (1 ≤ s.size ∧ s.size ≤ 3) = false := by simp; omega
   rw [this]; rfl
 ·rw [if_neg h1]
  have : decide (1 ≤ s.size ∧ s.size ≤ 3) = false := by simp; omega
  rw [this]; rfl
def An7 (l : List S79) (i : Nat) : List UInt8 := (Ac2 l (i : Int)).f0.toList
def Ar4 (l : List S79) (i : Nat) : Option Int :=
 if Ba2 (Ac2 l (i : Int)).f0 = true then (if 0 ≤ (Ac2 l (i : Int)).f1 ∧ (Ac2 l (i : Int)).f1 ≤ 2 then none else some 3) else some 5
def Bm5 (l : List S79) (i : Nat) : Bool := (Ak6 (fun j => An7 l i == An7 l j) i 0).isSome
def Ap0 (l : List S79) (i : Nat) : Option Int := if Bm5 l i = true then some 6 else none
def Ay5 (l : List S79) : Bool := (Ak6 (fun j => (Ac2 l (j : Int)).f1 == 0) l.length 0).isSome
def Ay1 (l : List S79) : Int :=
 if l.length < 1 ∨ l.length > 6 then 2 else Av3 (Ar4 l) (Av3 (Ap0 l) (if Ay5 l = true then 0 else 4) l.length 0) l.length 0
theorem Bd7 (a b c : Int) : Am5.f a b c = some (decide (b ≤ a ∧ a ≤ c)) := by
 unfold Am5.f
 by_cases h : a ≥ b
 ·rw [if_pos h]
  by_cases h' : a ≤ c
  ·simp [h']; omega
  ·simp [h']
 ·rw [if_neg h]
  simp; omega
theorem Bg7 (a b c : Int) : Am0.f a b c = some (decide (b ≤ a ∧ a ≤ c)) := by
 unfold Am0.f
 by_cases h : a ≥ b
 ·rw [if_pos h]
  by_cases h' : a ≤ c
  ·simp [h']; omega
  ·simp [h']
 ·rw [if_neg h]
  simp; omega
theorem Sig_l3 (l : List S79) (hl : l.length ≤ 6) : Ev (fun k => Aa4.l3 k (l.length : Int) 0 l) (if Ay5 l = true then 0 else 4) := by
 have h := Al1 l.length (fun j => if ((Ac2 l (j : Int)).f1 == 0) = true then some 0 else none) 4 (fun k i => Aa4.l3 k (l.length : Int) i l)
  (by simp only [Aa4.l3]; exact Ab5 (by omega) (Aa9 _))
  (fun i hi r hr => by
   simp only [Aa4.l3]
   refine Aa3 (by omega) (Aa3 (by omega) (Aa3 (by omega) ?_))
   rw [Ag1 (by omega)]
   by_cases h : (Ac2 l (i : Int)).f1 = 0
   ·refine Aa3 h (Ah7 (Aa9 _) (by simp [h]))
   ·refine Ab5 h (Ah7 hr (by simp [h])))
  l.length 0 (by omega)
 refine Ah7 h ?_
 rw [Ap6 (fun j => (Ac2 l (j : Int)).f1 == 0) (fun _ => (0 : Int)) 4]
 unfold Ay5
 cases Ak6 (fun j => (Ac2 l (j : Int)).f1 == 0) l.length 0 <;> rfl
theorem Sig_l2 (l : List S79) (hl : l.length ≤ 6) (i : Nat) (hi : i < l.length) (r : Int) (hr : Ev (fun k => Aa4.l1 k (l.length : Int) ((i + 1 : Nat) : Int) l) r) :
  Ev (fun k => Aa4.l2 k (l.length : Int) (i : Int) 0 l) ((Ap0 l i).getD r) := by
 have h := Al1 i (fun j => if (An7 l i == An7 l j) = true then some 6 else none) r (fun k j => Aa4.l2 k (l.length : Int) (i : Int) j l)
  (by simp only [Aa4.l2]; refine Ab5 (by omega) ?_; rw [Ag1 (by omega)]; exact hr)
  (fun j hj r hr => by
   simp only [Aa4.l2]
   refine Aa3 (by omega) (Aa3 (by omega) (Aa3 (by omega) (Aa3 (by omega) (Aa3 (by omega) ?_))))
   rw [Ag1 (by omega)]
   by_cases h : An7 l i = An7 l j
   ·refine Aa3 h (Ah7 (Aa9 _) (by simp [h]))
   ·refine Ab5 h (Ah7 hr (by simp [h])))
  i 0 (by omega)
 refine Ah7 h ?_
 rw [Ap6 (fun j => An7 l i == An7 l j) (fun _ => (6 : Int)) r]
 unfold Ap0 Bm5
 cases Ak6 (fun j => An7 l i == An7 l j) i 0 <;> rfl
theorem Sig_l1 (l : List S79) (hl : l.length ≤ 6) : Ev (fun k => Aa4.l1 k (l.length : Int) 0 l) (Av3 (Ap0 l) (if Ay5 l = true then 0 else 4) l.length 0) :=
 Al1 l.length (Ap0 l) (if Ay5 l = true then 0 else 4) (fun k i => Aa4.l1 k (l.length : Int) i l)
  (by simp only [Aa4.l1]; exact Ab5 (by omega) (Sig_l3 l hl))
  (fun i hi r hr => by
   simp only [Aa4.l1]
   exact Aa3 (by omega) (Sig_l2 l hl i hi r hr))
  l.length 0 (by omega)
theorem Sig_l0 (l : List S79) (hl : l.length ≤ 6) : Ev (fun k => Aa4.l0 k (l.length : Int) 0 l) (Av3 (Ar4 l) (Av3 (Ap0 l) (if Ay5 l = true then 0 else 4) l.length 0) l.length 0) :=
 Al1 l.length (Ar4 l) _ (fun k i => Aa4.l0 k (l.length : Int) i l)
  (by simp only [Aa4.l0]; exact Ab5 (by omega) (Sig_l1 l hl))
  (fun i hi r hr => by
   simp only [Aa4.l0]
   refine Aa3 (by omega) (Aa3 (by omega) (Aa3 (by omega) (Ac0 (l2Name_ev _) ?_)))
   unfold Ar4
   by_cases h : Ba2 (Ac2 l (i : Int)).f0 = true
   ·refine Aa3 h (Ac6 (Bg7 _ _ _) ?_)
    rw [if_pos h, Ag1 (by omega)]
    by_cases h' : 0 ≤ (Ac2 l (i : Int)).f1 ∧ (Ac2 l (i : Int)).f1 ≤ 2
    ·rw [if_pos h']
     exact Aa3 (by simpa using h') hr
    ·rw [if_neg h']
     exact Ab5 (by simpa using h') (Aa9 _)
   ·rw [if_neg h]
    exact Ab5 h (Aa9 _))
  l.length 0 (by omega)
theorem Am1 (l : List S79) : Ev (fun k => Aa4.f k l) (Ay1 l) := by
 unfold Aa4.f Ay1
 by_cases h1 : (l.length : Int) < 1
 ·rw [if_pos (.inl (by omega))]
  refine Aa3 h1 (Ad2 ?_)
  simp only [Aa4.j0]
  exact Aa3 (by simp) (Aa9 _)
 refine Ab5 h1 (Ad2 ?_)
 simp only [Aa4.j0]
 by_cases h2 : (l.length : Int) > 6
 ·rw [if_pos (.inr (by omega))]
  exact Aa3 (by simpa using h2) (Aa9 _)
 ·rw [if_neg (by omega)]
  exact Ab5 (by simpa using h2) (Sig_l0 l (by omega))
theorem symbolIndex_ev (l : List S79) (hl : l.length ≤ 1048576) (s : ByteArray) : Ev (fun k => An4.f k l s) (At8 (fun j => An7 l j == s.toList) l.length) := by
 unfold An4.f
 refine Ac0 (a := At8 (fun j => An7 l j == s.toList) l.length) ?_ (Aa9 _)
 unfold Aa6.f
 have h := Al1 l.length (fun j => if (An7 l j == s.toList) = true then some (j : Int) else none) (-1) (fun k i => Aa6.l0 k l (l.length : Int) i [s])
  (by simp only [Aa6.l0]; exact Ab5 (by omega) (Aa9 _))
  (fun i hi r hr => by
   simp only [Aa6.l0]
   refine Aa3 (by omega) (Aa3 (by omega) (Aa3 (by omega) (Ac6 (a := An7 l i == s.toList) ?_ ?_)))
   ·unfold Al5.f
    rw [if_pos (by simp)]
    rfl
   ·rw [Ag1 (by omega)]
    by_cases h : (An7 l i == s.toList) = true
    ·rw [if_pos h]; exact Aa3 h (Aa9 _)
    ·rw [if_neg h]; exact Ab5 h hr)
  l.length 0 (by omega)
 rw [Ax4 (fun j => An7 l j == s.toList)] at h
 exact h
theorem dup_place (l : List S79) (i : Nat) (hi : i < l.length) : At8 (fun j => An7 l j == (Ac2 l (i : Int)).f0.toList) l.length = (i : Int) ↔ Bm5 l i = false := by
 unfold Bm5
 have hn : (Ak6 (fun j => An7 l i == An7 l j) i 0).isSome = false ↔ ∀ j, j < i → (An7 l i == An7 l j) = false := by
  rw [Option.isSome_eq_false_iff, Option.isNone_iff_eq_none, As8]
  exact ⟨fun h j hj => h j (by omega) (by omega), fun h j _ hj => h j (by omega)⟩
 rw [hn]
 rcases placeN_cases (fun j => An7 l j == (Ac2 l (i : Int)).f0.toList) l.length with ⟨h1, h2⟩ | ⟨j, hj, h1, h2, h3⟩
 ·have := h2 i hi
  simp [An7] at this
 ·rw [h1]
  constructor
  ·intro e
   obtain rfl : j = i := by omega
   intro m hm
   have := h3 m hm
   simp only [beq_eq_false_iff_ne, ne_eq] at this ⊢
   exact fun e => this e.symm
  ·intro h
   have hji : ¬ j < i := fun hlt => by
    have := h j hlt
    simp only [beq_eq_false_iff_ne, ne_eq] at this
    exact this (by simpa [An7] using (eq_comm.1 (beq_iff_eq.1 h2)))
   have hij : ¬ i < j := fun hlt => by
    have := h3 i hlt
    simp [An7] at this
   omega
theorem ISig_last (l : List S79) (hl : l.length ≤ 6) : Ev (fun k => Ad5.f k l) (Ay5 l) := by
 unfold Ad5.f Aa5.f
 have h := Al1 l.length (fun j => if ((Ac2 l (j : Int)).f1 == 0) = true then some (j : Int) else none) (-1) (fun k i => Aa5.l0 k l (l.length : Int) i)
  (by simp only [Aa5.l0]; exact Ab5 (by omega) (Aa9 _))
  (fun i hi r hr => by
   simp only [Aa5.l0]
   refine Aa3 (by omega) (Aa3 (by omega) (Aa3 (by omega) (Ac6 rfl ?_)))
   rw [Ag1 (by omega)]
   by_cases h : ((Ac2 l (i : Int)).f1 == 0) = true
   ·rw [if_pos h]; exact Aa3 h (Aa9 _)
   ·rw [if_neg h]; exact Ab5 h hr)
  l.length 0 (by omega)
 rw [Ap6 (fun j => (Ac2 l (j : Int)).f1 == 0) (fun j => (j : Int)) (-1)] at h
 refine Ac0 h (Ah7 (Aa9 _) ?_)
 unfold Ay5
 cases Ak6 (fun j => (Ac2 l (j : Int)).f1 == 0) l.length 0 with
 | none => rfl
 | some j => simp
theorem ISig_l1 (l : List S79) (hl : l.length ≤ 6) : Ev (fun k => Ab9.l1 k l (l.length : Int) 0 l) (Av3 (Ap0 l) (if Ay5 l = true then 0 else 4) l.length 0) :=
 Al1 l.length (Ap0 l) (if Ay5 l = true then 0 else 4) (fun k i => Ab9.l1 k l (l.length : Int) i l)
  (by
   simp only [Ab9.l1]
   refine Ab5 (by omega) (Ac0 (ISig_last l hl) ?_)
   by_cases h : Ay5 l = true
   ·exact Ah7 (Aa3 h (Aa9 _)) (if_pos h).symm
   ·exact Ah7 (Ab5 h (Aa9 _)) (if_neg h).symm)
  (fun i hi r hr => by
   simp only [Ab9.l1]
   refine Aa3 (by omega) (Aa3 (by omega) (Aa3 (by omega) (Ac0 (symbolIndex_ev l (by omega) _) ?_)))
   have hd := dup_place l i hi
   rw [Ag1 (by omega)]
   unfold Ap0
   by_cases h : Bm5 l i = true
   ·rw [if_pos h]
    exact Ab5 (fun e => by rw [hd.1 e] at h; cases h) (Aa9 _)
   ·rw [if_neg h]
    exact Aa3 (hd.2 (Bool.eq_false_iff.2 h)) hr)
  l.length 0 (by omega)
theorem SignatureFault_impl (l : List S79) : Ev (fun k => Ab9.f k l) (Ay1 l) := by
 unfold Ab9.f Ay1
 by_cases h1 : (l.length : Int) < 1
 ·rw [if_pos (.inl (by omega))]
  refine Aa3 h1 (Ad2 ?_)
  simp only [Ab9.j0]
  exact Aa3 (by simp) (Aa9 _)
 refine Ab5 h1 (Ad2 ?_)
 simp only [Ab9.j0]
 by_cases h2 : (l.length : Int) > 6
 ·rw [if_pos (.inr (by omega))]
  exact Aa3 (by simpa using h2) (Aa9 _)
 rw [if_neg (by omega)]
 refine Ab5 (by simpa using h2) ?_
 exact Al1 l.length (Ar4 l) _ (fun k i => Ab9.l0 k l (l.length : Int) i l)
  (by simp only [Ab9.l0]; exact Ab5 (by omega) (ISig_l1 l (by omega)))
  (fun i hi r hr => by
   simp only [Ab9.l0]
   refine Aa3 (by omega) (Aa3 (by omega) (Aa3 (by omega) (Ac6 (isName_eq _) ?_)))
   unfold Ar4
   by_cases h : Ba2 (Ac2 l (i : Int)).f0 = true
   ·refine Aa3 h (Ac6 (Bd7 _ _ _) ?_)
    rw [if_pos h, Ag1 (by omega)]
    by_cases h' : 0 ≤ (Ac2 l (i : Int)).f1 ∧ (Ac2 l (i : Int)).f1 ≤ 2
    ·rw [if_pos h']
     exact Aa3 (by simpa using h') hr
    ·rw [if_neg h']
     exact Ab5 (by simpa using h') (Aa9 _)
   ·rw [if_neg h]
    exact Ab5 h (Aa9 _))
  l.length 0 (by omega)
structure Right (l : List S79) : Prop where
 len : 1 ≤ l.length ∧ l.length ≤ 6
 names : ∀ i, i < l.length → Ba2 (Ac2 l (i : Int)).f0 = true
 arities : ∀ i, i < l.length → 0 ≤ (Ac2 l (i : Int)).f1 ∧ (Ac2 l (i : Int)).f1 ≤ 2
 apart : ∀ i, i < l.length → Bm5 l i = false
theorem Ar5 (l : List S79) (h : Ay1 l = 0) : Right l := by
 unfold Ay1 at h
 by_cases h1 : l.length < 1 ∨ l.length > 6
 ·rw [if_pos h1] at h; omega
 rw [if_neg h1] at h
 have hlen : 1 ≤ l.length ∧ l.length ≤ 6 := by omega
 rcases scanN_cases (Ar4 l) (Av3 (Ap0 l) (if Ay5 l = true then 0 else 4) l.length 0) l.length 0 with ⟨h2, h3⟩ | ⟨j, _, _, h3⟩
 ·rw [h3] at h
  rcases scanN_cases (Ap0 l) (if Ay5 l = true then 0 else 4) l.length 0 with ⟨h4, h5⟩ | ⟨j, _, _, h5⟩
  ·refine ⟨hlen, fun i hi => ?_, fun i hi => ?_, fun i hi => ?_⟩
   ·have := h2 i (by omega) (by omega)
    unfold Ar4 at this
    by_cases hn : Ba2 (Ac2 l (i : Int)).f0 = true
    ·exact hn
    ·rw [if_neg hn] at this; cases this
   ·have := h2 i (by omega) (by omega)
    unfold Ar4 at this
    by_cases hn : Ba2 (Ac2 l (i : Int)).f0 = true
    ·rw [if_pos hn] at this
     by_cases ha : 0 ≤ (Ac2 l (i : Int)).f1 ∧ (Ac2 l (i : Int)).f1 ≤ 2
     ·exact ha
     ·rw [if_neg ha] at this; cases this
    ·rw [if_neg hn] at this; cases this
   ·have := h4 i (by omega) (by omega)
    unfold Ap0 at this
    by_cases hd : Bm5 l i = true
    ·rw [if_pos hd] at this; cases this
    ·exact Bool.eq_false_iff.2 hd
  ·rw [h] at h5
   unfold Ap0 at h5
   by_cases hd : Bm5 l j = true
   ·rw [if_pos hd] at h5; cases h5
   ·rw [if_neg hd] at h5; cases h5
 ·rw [h] at h3
  unfold Ar4 at h3
  by_cases hn : Ba2 (Ac2 l (j : Int)).f0 = true
  ·rw [if_pos hn] at h3
   by_cases ha : 0 ≤ (Ac2 l (j : Int)).f1 ∧ (Ac2 l (j : Int)).f1 ≤ 2
   ·rw [if_pos ha] at h3; cases h3
   ·rw [if_neg ha] at h3; cases h3
  ·rw [if_neg hn] at h3; cases h3
def Ba4 (l : List S79) (n : Int) : Bool := decide (0 ≤ n ∧ n ≤ (l.length : Int) - 1)
theorem l2Symbol_eq (l : List S79) (hl : l.length ≤ 1048576) (n : Int) : Ak8.f [(⟨l⟩ : S36)] n = some (Ba4 l n) := by
 unfold Ak8.f
 rw [if_pos (by simp)]
 show (Am0.f n 0 (wrap64 ((l.length : Int) - 1))).bind _ = _
 rw [Bg7, Aj1 (by omega) (by omega)]
 rfl
theorem isSymbol_eq (l : List S79) (hl : l.length ≤ 1048576) (n : Int) : Al4.f l n = some (Ba4 l n) := by
 unfold Al4.f
 rw [Bd7, Aj1 (by omega) (by omega)]
 rfl
theorem Bd3 {l : List S79} {n : Int} (h : Ba4 l n = true) : 0 ≤ n ∧ n < (l.length : Int) := by
 unfold Ba4 at h
 have := of_decide_eq_true h
 omega
theorem At4 (o : List Int) (ho : o.length ≤ 9000000000000000000) (v : Int) : Ev (fun k => Aa7.f k o v) (At8 (fun j => v == rd o (j : Int)) o.length) := by
 unfold Aa7.f
 have h := Al1 o.length (fun j => if (v == rd o (j : Int)) = true then some (j : Int) else none) (-1) (fun k i => Aa7.l0 k o v (o.length : Int) i)
  (by simp only [Aa7.l0]; exact Ab5 (by omega) (Aa9 _))
  (fun i hi r hr => by
   simp only [Aa7.l0]
   refine Aa3 (by omega) (Aa3 (by omega) (Aa3 (by omega) ?_))
   rw [Ag1 (by omega)]
   by_cases h : v = rd o (i : Int)
   ·exact Aa3 h (Ah7 (Aa9 _) (by simp [h]))
   ·exact Ab5 h (Ah7 hr (by simp [h])))
  o.length 0 (by omega)
 rw [Ax4 (fun j => v == rd o (j : Int))] at h
 exact h
theorem slicesContains_ev (o : List Int) (ho : o.length ≤ 9000000000000000000) (v : Int) : Ev (fun k => Ad0.f k o v) (Ak6 (fun j => v == rd o (j : Int)) o.length 0).isSome := by
 unfold Ad0.f
 refine Ac0 (At4 o ho v) (Ah7 (Aa9 _) ?_)
 unfold At8
 cases Ak6 (fun j => v == rd o (j : Int)) o.length 0 with
 | none => rfl
 | some j => simp
theorem scanN_const {R : Type} (p : Nat → Bool) (c e : R) (d i : Nat) : Av3 (fun j => if p j = true then some c else none) e d i = if (Ak6 p d i).isSome = true then c else e := by
 rw [Ap6 p (fun _ => c) e]
 cases Ak6 p d i <;> rfl
theorem firstN_congr {p q : Nat → Bool} : ∀ (d i : Nat), (∀ j, i ≤ j → j < i + d → p j = q j) → Ak6 p d i = Ak6 q d i
 | 0, _, _ => rfl
 | d + 1, i, h => by
  rw [Ak6, Ak6, h i (by omega) (by omega), firstN_congr d (i + 1) (fun j h1 h2 => h j (by omega) (by omega))]
def Bh6 (o : List Int) (i : Nat) : Bool := (Ak6 (fun j => rd o (i : Int) == rd o (j : Int)) i 0).isSome
def Ap7 (o : List Int) (i : Nat) : Option Int := if Bh6 o i = true then some 6 else none
def Bo0 (l : List S79) (o : List Int) : Int :=
 if o.length = l.length then (if (Ak6 (fun j => !Ba4 l (rd o (j : Int))) o.length 0).isSome = true then 3 else Av3 (Ap7 o) 0 o.length 0) else 2
def Bb5 (l : List S79) (o : List Int) : Int := if Ay1 l = 0 then Bo0 l o else Ay1 l
theorem Order_l2 (o : List Int) (ho : o.length ≤ 1048576) (i : Nat) (hi : i < o.length) (r : Int) (hr : Ev (fun k => Ae4.l1 k o ((i + 1 : Nat) : Int)) r) : Ev (fun k => Ae4.l2 k o (i : Int) 0) ((Ap7 o i).getD r) := by
 have h := Al1 i (fun j => if (rd o (i : Int) == rd o (j : Int)) = true then some 6 else none) r (fun k j => Ae4.l2 k o (i : Int) j)
  (by simp only [Ae4.l2]; refine Ab5 (by omega) ?_; rw [Ag1 (by omega)]; exact hr)
  (fun j hj r hr => by
   simp only [Ae4.l2]
   refine Aa3 (by omega) (Aa3 (by omega) (Aa3 (by omega) (Aa3 (by omega) (Aa3 (by omega) ?_))))
   rw [Ag1 (by omega)]
   by_cases h : rd o (i : Int) = rd o (j : Int)
   ·exact Aa3 h (Ah7 (Aa9 _) (by simp [h]))
   ·exact Ab5 h (Ah7 hr (by simp [h])))
  i 0 (by omega)
 refine Ah7 h ?_
 rw [scanN_const (fun j => rd o (i : Int) == rd o (j : Int)) 6 r]
 unfold Ap7 Bh6
 cases (Ak6 (fun j => rd o (i : Int) == rd o (j : Int)) i 0).isSome <;> rfl
theorem Order_l1 (o : List Int) (ho : o.length ≤ 1048576) : Ev (fun k => Ae4.l1 k o 0) (Av3 (Ap7 o) 0 o.length 0) :=
 Al1 o.length (Ap7 o) 0 (fun k i => Ae4.l1 k o i)
  (by simp only [Ae4.l1]; exact Ab5 (by omega) (Aa9 _))
  (fun i hi r hr => by
   simp only [Ae4.l1]
   exact Aa3 (by omega) (Order_l2 o ho i hi r hr))
  o.length 0 (by omega)
theorem l2Order_ev (l : List S79) (hl : l.length ≤ 6) (o : List Int) (ho : o.length ≤ 1048576) : Ev (fun k => Ae4.f k [(⟨l⟩ : S36)] o) (Bo0 l o) := by
 unfold Ae4.f Bo0
 have e : (Ad6 [(⟨l⟩ : S36)] 0).f0 = l := rfl
 simp only [e]
 refine Aa3 (by simp) ?_
 by_cases hlen : o.length = l.length
 ·rw [if_pos hlen]
  refine Aa3 (by omega) ?_
  have h := Al1 o.length (fun j => if (!Ba4 l (rd o (j : Int))) = true then some 3 else none) (Av3 (Ap7 o) 0 o.length 0) (fun k i => Ae4.l0 k [(⟨l⟩ : S36)] o i)
   (by simp only [Ae4.l0]; exact Ab5 (by omega) (Order_l1 o ho))
   (fun i hi r hr => by
    simp only [Ae4.l0]
    refine Aa3 (by omega) (Aa3 (by omega) (Ac6 (l2Symbol_eq l (by omega) _) ?_))
    rw [Ag1 (by omega)]
    by_cases h : Ba4 l (rd o (i : Int)) = true
    ·exact Aa3 h (Ah7 hr (by simp [h]))
    ·exact Ab5 h (Ah7 (Aa9 _) (by simp [h])))
   o.length 0 (by omega)
  rw [scanN_const (fun j => !Ba4 l (rd o (j : Int))) 3] at h
  exact h
 ·rw [if_neg hlen]
  exact Ab5 (by omega) (Aa9 _)
theorem OrderFault_spec (l : List S79) (o : List Int) (ho : o.length ≤ 1048576) : Ev (fun k => An2.f k l o) (Bb5 l o) := by
 unfold An2.f Bb5
 refine Ac0 (Am1 l) (Ap9 (fun h => ?_) (fun h => Aa9 _))
 have hl := (Ar5 l h).len
 exact Ac0 (l2Order_ev l (by omega) o ho) (Aa9 _)
theorem Order_notSym (l : List S79) (hl : l.length ≤ 6) (o : List Int) (ho : o.length ≤ 1048576) :
  Ev (fun k => Ae2.f k o [(⟨l⟩ : S36)]) (Ak6 (fun j => !Ba4 l (rd o (j : Int))) o.length 0).isSome := by
 unfold Ae2.f Ab2.f
 have h := Al1 o.length (fun j => if (!Ba4 l (rd o (j : Int))) = true then some (j : Int) else none) (-1) (fun k i => Ab2.l0 k o (o.length : Int) i [(⟨l⟩ : S36)])
  (by simp only [Ab2.l0]; exact Ab5 (by omega) (Aa9 _))
  (fun i hi r hr => by
   simp only [Ab2.l0]
   refine Aa3 (by omega) (Aa3 (by omega) (Aa3 (by omega) (Ac6 (a := !Ba4 l (rd o (i : Int))) ?_ ?_)))
   ·unfold Al9.f
    rw [if_pos (by simp)]
    exact Bi9 (isSymbol_eq l (by omega) _) rfl
   ·rw [Ag1 (by omega)]
    by_cases h : (!Ba4 l (rd o (i : Int))) = true
    ·rw [if_pos h]; exact Aa3 h (Aa9 _)
    ·rw [if_neg h]; exact Ab5 h hr)
  o.length 0 (by omega)
 rw [Ap6 (fun j => !Ba4 l (rd o (j : Int))) (fun j => (j : Int)) (-1)] at h
 refine Ac0 h (Ah7 (Aa9 _) ?_)
 cases Ak6 (fun j => !Ba4 l (rd o (j : Int))) o.length 0 with
 | none => rfl
 | some j => simp
theorem Order_l0 (o : List Int) (ho : o.length ≤ 1048576) : Ev (fun k => Ag2.l0 k o o (o.length : Int) 0) (Av3 (Ap7 o) 0 o.length 0) :=
 Al1 o.length (Ap7 o) 0 (fun k i => Ag2.l0 k o o (o.length : Int) i)
  (by simp only [Ag2.l0]; exact Ab5 (by omega) (Aa9 _))
  (fun i hi r hr => by
   simp only [Ag2.l0]
   have hc := slicesContains_ev (o.take i) (by rw [List.length_take]; omega) (rd o (i : Int))
   have hd : (Ak6 (fun j => rd o (i : Int) == rd (o.take i) (j : Int)) (o.take i).length 0).isSome = Bh6 o i := by
    unfold Bh6
    rw [List.length_take, Nat.min_eq_left (by omega)]
    rw [firstN_congr i 0 (q := fun j => rd o (i : Int) == rd o (j : Int)) (fun j _ hj => by
     rw [An9 (o.take i) j (by rw [List.length_take]; omega), An9 o j (by omega), List.getElem_take])]
   rw [hd] at hc
   refine Aa3 (by omega) (Aa3 (by omega) (Aa3 (by omega) (Aa3 (by omega) ?_)))
   rw [Int.toNat_natCast, Ag1 (by omega)]
   refine Ac0 hc ?_
   unfold Ap7
   by_cases h : Bh6 o i = true
   ·rw [if_pos h]; exact Aa3 h (Aa9 _)
   ·rw [if_neg h]; exact Ab5 h hr)
  o.length 0 (by omega)
theorem OrderFault_impl (l : List S79) (o : List Int) (ho : o.length ≤ 1048576) : Ev (fun k => Ag2.f k l o) (Bb5 l o) := by
 unfold Ag2.f Bb5
 refine Ac0 (SignatureFault_impl l) (Ap9 (fun h => ?_) (fun h => Aa9 _))
 have hl := (Ar5 l h).len
 unfold Bo0
 by_cases hlen : o.length = l.length
 ·rw [if_pos hlen]
  exact Aa3 (by omega) (Ac0 (Order_notSym l (by omega) o ho) (Ap9 (fun hn => Aa9 _) (fun hn => Order_l0 o ho)))
 ·rw [if_neg hlen]; exact Ab5 (by omega) (Aa9 _)
end Go.Proofs.YtgichahebemmiaaGreatDoor.Pure
set_option linter.unusedVariables false
namespace Go.Proofs.YtgichahebemmiaaGreatDoor.Pure
open Go.RowKit Go.Proofs.YtgichahebemmiaaGreatDoorW.PrintWords Go.Proofs.YtgichahebemmiaaGreatDoor.Base
theorem Ay2 : ∀ (m : Nat) (xs : List Nat), xs.Nodup → (∀ x ∈ xs, x < m) → xs.length ≤ m
 | 0, xs, _, h => by
  cases xs with
  | nil => simp
  | cons x xs => exact absurd (h x (by simp)) (by omega)
 | m + 1, xs, hn, h => by
  by_cases hm : m ∈ xs
  ·have h1 := Ay2 m (xs.erase m) (hn.erase m) (fun x hx => by
    have := (List.Nodup.mem_erase_iff hn).1 hx
    have := h x this.2
    omega)
   rw [List.length_erase_of_mem hm] at h1
   omega
  ·have h1 := Ay2 m xs hn (fun x hx => by
    have := h x hx
    have : x ≠ m := fun e => hm (e ▸ hx)
    omega)
   omega
theorem nodup_all (n : Nat) (xs : List Nat) (hn : xs.Nodup) (h : ∀ x ∈ xs, x < n) (hl : xs.length = n) (v : Nat) (hv : v < n) : v ∈ xs := by
 by_cases hm : v ∈ xs
 ·exact hm
 have := Ay2 n (v :: xs) (List.nodup_cons.2 ⟨hm, hn⟩) (fun x hx => by
  rcases List.mem_cons.1 hx with rfl | hx
  ·exact hv
  ·exact h x hx)
 simp only [List.length_cons] at this
 omega
theorem perm_place (o : List Int) (h : ∀ i, i < o.length → 0 ≤ rd o (i : Int) ∧ rd o (i : Int) < (o.length : Int)) (hd : ∀ i j, i < o.length → j < i → rd o (i : Int) ≠ rd o (j : Int)) (v : Int) (h0 : 0 ≤ v) (h1 : v < (o.length : Int)) :
  ∃ j, j < o.length ∧ rd o (j : Int) = v := by
 have hN : (o.map Int.toNat).Nodup := by
  rw [List.nodup_iff_pairwise_ne, List.pairwise_iff_getElem]
  intro i j hi hj hij
  rw [List.length_map] at hi hj
  simp only [List.getElem_map]
  have a := h i hi
  have b := h j hj
  have c := hd j i hj hij
  rw [An9 o i hi] at a c
  rw [An9 o j hj] at b c
  omega
 have hm := nodup_all o.length (o.map Int.toNat) hN (fun x hx => by
  obtain ⟨y, hy, rfl⟩ := List.mem_map.1 hx
  obtain ⟨i, hi, rfl⟩ := List.getElem_of_mem hy
  have a := h i hi
  rw [An9 o i hi] at a
  omega) (by simp) v.toNat (by omega)
 obtain ⟨y, hy, e⟩ := List.mem_map.1 hm
 obtain ⟨i, hi, rfl⟩ := List.getElem_of_mem hy
 refine ⟨i, hi, ?_⟩
 have a := h i hi
 rw [An9 o i hi] at a ⊢
 omega
def idxN (n : Int) : List Int → Nat
 | [] => 0
 | x :: xs => if x = n then 0 else idxN n xs + 1
theorem Bj5 (n : Int) : ∀ l : List Int, n ∈ l → idxN n l < l.length
 | [], h => by simp at h
 | x :: xs, h => by
  unfold idxN
  by_cases e : x = n
  ·rw [if_pos e]; simp
  ·rw [if_neg e]
   rcases List.mem_cons.1 h with h | h
   ·exact absurd h.symm e
   ·have := Bj5 n xs h
    simp only [List.length_cons]; omega
theorem Bg9 (n : Int) : ∀ (l : List Int) (h : idxN n l < l.length), l[idxN n l] = n
 | [], h => by simp at h
 | x :: xs, h => by
  by_cases e : x = n
  ·have : idxN n (x :: xs) = 0 := by unfold idxN; rw [if_pos e]
   simp only [this, List.getElem_cons_zero]; exact e
  ·have hk : idxN n (x :: xs) = idxN n xs + 1 := by rw [idxN, if_neg e]
   simp only [hk, List.getElem_cons_succ]
   exact Bg9 n xs (by rw [hk] at h; simpa using h)
theorem idxN_first (n : Int) : ∀ (l : List Int) (j : Nat) (hj : j < l.length), j < idxN n l → l[j] ≠ n
 | [], j, hj, _ => by simp at hj
 | x :: xs, j, hj, h => by
  by_cases e : x = n
  ·rw [idxN, if_pos e] at h; omega
  ·rw [idxN, if_neg e] at h
   cases j with
   | zero => simpa using e
   | succ j => simpa using idxN_first n xs j (by simpa using hj) (by omega)
theorem placeN_idx (l : List Int) (n : Int) : At8 (fun j => n == rd l (j : Int)) l.length = if n ∈ l then (idxN n l : Int) else -1 := by
 rcases placeN_cases (fun j => n == rd l (j : Int)) l.length with ⟨h1, h2⟩ | ⟨j, hj, h1, h2, h3⟩
 ·rw [h1, if_neg]
  intro hm
  have hlt := Bj5 n l hm
  have := h2 (idxN n l) hlt
  rw [An9 l _ hlt, Bg9 n l hlt] at this
  simp at this
 ·have e : l[j] = n := by
   rw [An9 l j hj] at h2
   exact (beq_iff_eq.1 h2).symm
  have hm : n ∈ l := e ▸ List.getElem_mem hj
  rw [h1, if_pos hm]
  have hlt := Bj5 n l hm
  rcases Nat.lt_trichotomy j (idxN n l) with k | k | k
  ·exact absurd e (idxN_first n l j hj k)
  ·rw [k]
  ·have := h3 (idxN n l) k
   rw [An9 l _ hlt, Bg9 n l hlt] at this
   simp at this
def Whole (ar : Int → Nat) (t : List Int) : Prop := As3 ar 1 t = some []
theorem Bd5 {ar : Int → Nat} {t : List Int} : Ar0 ar t 1 0 = some t.length ↔ Whole ar t := by
 constructor
 ·intro h
  obtain ⟨h1, _, _⟩ := Al3 (by omega) h
  rw [List.drop_zero, List.drop_length] at h1
  exact h1
 ·intro h
  unfold Ar0
  rw [List.drop_zero, h]
  simp
theorem whole_pos {ar : Int → Nat} {t : List Int} (h : Whole ar t) : 0 < t.length := by
 cases t with
 | nil => cases h
 | cons n t => simp
end Go.Proofs.YtgichahebemmiaaGreatDoor.Pure
set_option linter.unusedVariables false
namespace Go.Proofs.YtgichahebemmiaaGreatDoor.Pure
open Go.RowKit Go.Proofs.YtgichahebemmiaaGreatDoor.P Go.Proofs.YtgichahebemmiaaGreatDoorW.PrintWords Go.Proofs.YtgichahebemmiaaGreatDoorW.PrintLast Go.Proofs.YtgichahebemmiaaGreatDoor.Base
def Au0 (l : List S79) (n : Int) : Bool := Ba4 l n || decide (-12 ≤ n ∧ n ≤ -1)
def arL (l : List S79) (n : Int) : Nat := if n < 0 then 0 else (Ac2 l n).f1.toNat
theorem Bd8 (l : List S79) (hl : l.length ≤ 6) (n : Int) : At1.f [(⟨l⟩ : S36)] n = some (Au0 l n) := by
 unfold At1.f Au0
 rw [l2Symbol_eq l (by omega)]
 simp only [Option.bind_some]
 by_cases h : Ba4 l n = true
 ·rw [if_pos h, h]; rfl
 ·rw [if_neg h, Bg7, Bool.eq_false_iff.2 h]; rfl
theorem isNode_eq (l : List S79) (hl : l.length ≤ 6) (n : Int) : Ar8.f l n = some (Au0 l n) := by
 unfold Ar8.f Au0
 rw [isSymbol_eq l (by omega)]
 simp only [Option.bind_some]
 by_cases h : Ba4 l n = true
 ·rw [if_pos h, h]; rfl
 ·rw [if_neg h, Bd7, Bool.eq_false_iff.2 h]; rfl
def Bc7 (l : List S79) (t : List Int) : Prop := ∀ i, i < t.length → Au0 l (rd t (i : Int)) = true
theorem Ax6 {l : List S79} {n : Int} (h : Au0 l n = true) (h0 : ¬ n < 0) : 0 ≤ n ∧ n < (l.length : Int) := by
 unfold Au0 at h
 rw [Bool.or_eq_true] at h
 rcases h with h | h
 ·exact Bd3 h
 ·have := of_decide_eq_true h; omega
theorem Ba7 {l : List S79} (hr : Right l) {n : Int} (h : Au0 l n = true) (h0 : ¬ n < 0) : (Ac2 l n).f1 = (arL l n : Int) ∧ arL l n ≤ 2 := by
 obtain ⟨a, b⟩ := Ax6 h h0
 have := hr.arities n.toNat (by omega)
 rw [Int.toNat_of_nonneg a] at this
 unfold arL
 rw [if_neg h0]
 omega
theorem Bc5 {l : List S79} (hr : Right l) {n : Int} (h : Au0 l n = true) : arL l n ≤ 2 := by
 by_cases h0 : n < 0
 ·unfold arL; rw [if_pos h0]; omega
 ·exact (Ba7 hr h h0).2
def Bi8 (o : Option Nat) : Int := match o with
 | some e => (e : Int)
 | none => -1
theorem l3End_loop (l : List S79) (hr : Right l) (t : List Int) (ht : t.length ≤ 1048576) (hn : Bc7 l t) (at_ : Nat) (hat : at_ < t.length) (h0 : ¬ rd t (at_ : Int) < 0)
  (ih : ∀ e, at_ < e → e ≤ t.length → Ev (fun k => Ae9.f k [(⟨l⟩ : S36)] t (e : Int)) (Bi8 (Ar0 (arL l) t 1 e))) :
  ∀ (m i e : Nat), i + m = arL l (rd t (at_ : Int)) → at_ < e → e ≤ t.length → Ev (fun k => Ae9.l0 k [(⟨l⟩ : S36)] t (at_ : Int) (e : Int) (i : Int)) (Bi8 (Ar0 (arL l) t m e)) := by
 obtain ⟨s0, s1⟩ := Ax6 (hn at_ hat) h0
 obtain ⟨ha, ha2⟩ := Ba7 hr (hn at_ hat) h0
 have e0 : (Ad6 [(⟨l⟩ : S36)] 0).f0 = l := rfl
 intro m
 induction m with
 | zero =>
  intro i e hi he hel
  refine Ad2 ?_
  simp only [Ae9.l0, e0]
  refine Aa3 (by simp) (Aa3 (by omega) (Aa3 (by omega) (Aa3 s0 (Aa3 s1 ?_))))
  rw [ha, Av1 _ _ _ hel]
  exact Ab5 (by omega) (Aa9 _)
 | succ m ihm =>
  intro i e hi he hel
  refine Ad2 ?_
  simp only [Ae9.l0, e0]
  refine Aa3 (by simp) (Aa3 (by omega) (Aa3 (by omega) (Aa3 s0 (Aa3 s1 ?_))))
  rw [ha]
  refine Aa3 (by omega) (Ac0 (ih e he hel) ?_)
  rw [show m + 1 = 1 + m by omega, Au4 _ _ 1 m e hel]
  cases hE : Ar0 (arL l) t 1 e with
  | none => exact Aa3 (by simp [Bi8]) (Aa9 _)
  | some e' =>
   obtain ⟨_, h1, h2⟩ := Al3 hel hE
   refine Ab5 (by simp [Bi8]) ?_
   rw [Ag1 (by omega)]
   simp only [Option.bind_some]
   exact ihm (i + 1) e' (by omega) (by omega) h2
theorem Av7 (l : List S79) (hr : Right l) (t : List Int) (ht : t.length ≤ 1048576) (hn : Bc7 l t) : ∀ (d at_ : Nat), at_ + d = t.length → Ev (fun k => Ae9.f k [(⟨l⟩ : S36)] t (at_ : Int)) (Bi8 (Ar0 (arL l) t 1 at_)) := by
 intro d
 induction d using Nat.strongRecOn with
 | _ d ih =>
  intro at_ hd
  refine Ad2 ?_
  simp only [Ae9.f]
  by_cases hat : t.length ≤ at_
  ·rw [endN_out _ _ _ _ (by omega) hat]
   exact Aa3 (by omega) (Aa9 _)
  have hat' : at_ < t.length := by omega
  refine Ab5 (by omega) (Aa3 (by omega) (Aa3 (by omega) ?_))
  rw [Bd6 _ _ 0 _ hat', ← An9 t at_ hat', Nat.zero_add, Ag1 (by omega)]
  by_cases h0 : rd t (at_ : Int) < 0
  ·refine Aa3 h0 ?_
   have : arL l (rd t (at_ : Int)) = 0 := by unfold arL; rw [if_pos h0]
   rw [this, Av1 _ _ _ (by omega)]
   exact Aa9 _
  ·refine Ab5 h0 ?_
   exact l3End_loop l hr t ht hn at_ hat' h0 (fun e he hel => ih (t.length - e) (by omega) e (by omega)) _ 0 (at_ + 1) (by omega) (by omega) (by omega)
def Bn2 (n : Nat) (o : Option Nat) : Int := match o with
 | some e => (e : Int)
 | none => (n : Int) + 1
theorem arityOf_eq (l : List S79) (hr : Right l) (n : Int) (h : Au0 l n = true) : Am9.f l n = some (arL l n : Int) := by
 unfold Am9.f
 by_cases h0 : n < 0
 ·rw [if_pos h0]; unfold arL; rw [if_pos h0]; rfl
 ·obtain ⟨s0, s1⟩ := Ax6 h h0
  rw [if_neg h0, if_pos s0, if_pos s1, (Ba7 hr h h0).1]
theorem endOf_l0 (l : List S79) (hr : Right l) (t : List Int) (ht : t.length ≤ 1048576) (hn : Bc7 l t) : ∀ (d at_ o : Nat), at_ + d = t.length → o ≤ 2 * at_ + 1 → Ev (fun k => Ae5.l0 k t (at_ : Int) (o : Int) l) (Bn2 t.length (Ar0 (arL l) t o at_)) := by
 intro d
 induction d with
 | zero =>
  intro at_ o hd ho
  refine Ad2 ?_
  simp only [Ae5.l0]
  cases o with
  | zero =>
   rw [Av1 _ _ _ (by omega)]
   exact Ab5 (by omega) (Aa9 _)
  | succ o =>
   rw [endN_out _ _ _ _ (by omega) (by omega)]
   refine Aa3 (by omega) (Aa3 (by omega) ?_)
   rw [Ag1 (by omega)]
   exact Ah7 (Aa9 _) (by simp [Bn2])
 | succ d ih =>
  intro at_ o hd ho
  refine Ad2 ?_
  simp only [Ae5.l0]
  cases o with
  | zero =>
   rw [Av1 _ _ _ (by omega)]
   exact Ab5 (by omega) (Aa9 _)
  | succ o =>
   have hat : at_ < t.length := by omega
   refine Aa3 (by omega) (Ab5 (by omega) (Aa3 (by omega) (Aa3 (by omega) (Ac6 (arityOf_eq l hr _ (hn at_ hat)) ?_))))
   have ha := Bc5 hr (hn at_ hat)
   rw [Bd6 _ _ o _ hat, ← An9 t at_ hat, Ag1 (by omega)]
   generalize arL l (rd t (at_ : Int)) = a at *
   rw [Aj1 (x := (a : Int) - 1) (by omega) (by omega), Aj1 (by omega) (by omega), show ((o + 1 : Nat) : Int) + ((a : Int) - 1) = ((o + a : Nat) : Int) by omega]
   exact ih (at_ + 1) (o + a) (by omega) (by omega)
theorem Bc9 (l : List S79) (hr : Right l) (t : List Int) (ht : t.length ≤ 1048576) (hn : Bc7 l t) (at_ : Nat) (hat : at_ ≤ t.length) : Ev (fun k => Ae5.f k l t (at_ : Int)) (Bn2 t.length (Ar0 (arL l) t 1 at_)) := by
 unfold Ae5.f
 exact endOf_l0 l hr t ht hn (t.length - at_) at_ 1 (by omega) (by omega)
def Bn1 (l : List S79) (t : List Int) : Bool := (Ak6 (fun j => !Au0 l (rd t (j : Int))) t.length 0).isSome
theorem Bf9 {l : List S79} {t : List Int} (h : ¬ Bn1 l t = true) : Bc7 l t := by
 unfold Bn1 at h
 have h1 : Ak6 (fun j => !Au0 l (rd t (j : Int))) t.length 0 = none := by
  cases hf : Ak6 (fun j => !Au0 l (rd t (j : Int))) t.length 0 with
  | none => rfl
  | some j => rw [hf] at h; exact absurd rfl h
 intro i hi
 have := (As8 t.length 0).1 h1 i (by omega) (by omega)
 simpa using this
def Ay3 (l : List S79) (t : List Int) : Int :=
 if t.length < 1 ∨ t.length > 24 then 2 else if Bn1 l t = true then 3 else if Ar0 (arL l) t 1 0 = some t.length then 0 else 1
def Al7 (l : List S79) (t : List Int) : Int := if Ay1 l = 0 then Ay3 l t else Ay1 l
theorem At3 (l : List S79) (hr : Right l) (t : List Int) (ht : t.length ≤ 1048576) : Ev (fun k => Ad4.f k [(⟨l⟩ : S36)] t) (Ay3 l t) := by
 have hl := hr.len
 unfold Ad4.f Ay3
 by_cases h1 : (t.length : Int) < 1
 ·rw [if_pos (.inl (by omega))]
  refine Aa3 h1 (Ad2 ?_)
  simp only [Ad4.j0]
  exact Aa3 (by simp) (Aa9 _)
 refine Ab5 h1 (Ad2 ?_)
 simp only [Ad4.j0]
 by_cases h2 : (t.length : Int) > 24
 ·rw [if_pos (.inr (by omega))]
  exact Aa3 (by simpa using h2) (Aa9 _)
 rw [if_neg (by omega)]
 refine Ab5 (by simpa using h2) ?_
 by_cases hb : Bn1 l t = true
 ·rw [if_pos hb]
  unfold Bn1 at hb
  cases hf : Ak6 (fun j => !Au0 l (rd t (j : Int))) t.length 0 with
  | none => rw [hf] at hb; cases hb
  | some j =>
   obtain ⟨_, hj, hp, hall⟩ := Ax3 _ _ _ hf
   have key : ∀ d i, i + d = j → Ev (fun k => Ad4.l0 k [(⟨l⟩ : S36)] t (i : Int)) 3 := by
    intro d
    induction d with
    | zero =>
     intro i hi
     obtain rfl : i = j := by omega
     refine Ad2 ?_
     simp only [Ad4.l0]
     refine Aa3 (by omega) (Aa3 (by omega) (Ac6 (Bd8 l (by omega) _) ?_))
     exact Ab5 (by simpa using hp) (Aa9 _)
    | succ d ih =>
     intro i hi
     refine Ad2 ?_
     simp only [Ad4.l0]
     refine Aa3 (by omega) (Aa3 (by omega) (Ac6 (Bd8 l (by omega) _) ?_))
     have := hall i (by omega) (by omega)
     rw [Ag1 (by omega)]
     exact Aa3 (by simpa using this) (ih (i + 1) (by omega))
   exact key j 0 (by omega)
 ·rw [if_neg hb]
  have hn := Bf9 hb
  have h := Al1 t.length (fun j => if (!Au0 l (rd t (j : Int))) = true then some 3 else none) (if Ar0 (arL l) t 1 0 = some t.length then 0 else 1) (fun k i => Ad4.l0 k [(⟨l⟩ : S36)] t i)
   (by
    simp only [Ad4.l0]
    refine Ab5 (by omega) (Ac0 (Av7 l hr t ht hn t.length 0 (by omega)) ?_)
    by_cases he : Ar0 (arL l) t 1 0 = some t.length
    ·rw [he]; exact Aa3 rfl (Ah7 (Aa9 _) (if_pos rfl).symm)
    ·refine Ab5 ?_ (Ah7 (Aa9 _) (if_neg he).symm)
     cases hE : Ar0 (arL l) t 1 0 with
     | none => simp [Bi8] <;> omega
     | some e =>
      intro k
      have : e = t.length := by simp only [Bi8] at k; omega
      exact he (by rw [hE, this]))
   (fun i hi r hr => by
    simp only [Ad4.l0]
    refine Aa3 (by omega) (Aa3 (by omega) (Ac6 (Bd8 l (by omega) _) ?_))
    rw [Ag1 (by omega), hn i hi]
    exact Aa3 rfl (Ah7 hr (by simp)))
   t.length 0 (by omega)
  refine Ah7 h ?_
  exact scanN_none t.length 0 (fun j _ hj => by simp [hn j (by omega)])
theorem TermFault_spec (l : List S79) (t : List Int) (ht : t.length ≤ 1048576) : Ev (fun k => Ao0.f k l t) (Al7 l t) := by
 unfold Ao0.f Al7
 exact Ac0 (Am1 l) (Ap9 (fun h => Ac0 (At3 l (Ar5 l h) t ht) (Aa9 _)) (fun h => Aa9 _))
theorem Term_bad (l : List S79) (hl : l.length ≤ 6) (t : List Int) (ht : t.length ≤ 1048576) :
  Ev (fun k => Ae8.f k t [(⟨l⟩ : S36)]) (Bn1 l t) := by
 unfold Ae8.f Ab4.f
 have h := Al1 t.length (fun j => if (!Au0 l (rd t (j : Int))) = true then some (j : Int) else none) (-1) (fun k i => Ab4.l0 k t (t.length : Int) i [(⟨l⟩ : S36)])
  (by simp only [Ab4.l0]; exact Ab5 (by omega) (Aa9 _))
  (fun i hi r hr => by
   simp only [Ab4.l0]
   refine Aa3 (by omega) (Aa3 (by omega) (Aa3 (by omega) (Ac6 (a := !Au0 l (rd t (i : Int))) ?_ ?_)))
   ·unfold Am3.f
    rw [if_pos (by simp)]
    exact Bi9 (isNode_eq l (by omega) _) rfl
   ·rw [Ag1 (by omega)]
    by_cases h : (!Au0 l (rd t (i : Int))) = true
    ·rw [if_pos h]; exact Aa3 h (Aa9 _)
    ·rw [if_neg h]; exact Ab5 h hr)
  t.length 0 (by omega)
 rw [Ap6 (fun j => !Au0 l (rd t (j : Int))) (fun j => (j : Int)) (-1)] at h
 refine Ac0 h (Ah7 (Aa9 _) ?_)
 unfold Bn1
 cases Ak6 (fun j => !Au0 l (rd t (j : Int))) t.length 0 with
 | none => rfl
 | some j => simp
theorem TermFault_impl (l : List S79) (t : List Int) (ht : t.length ≤ 1048576) : Ev (fun k => Af9.f k l t) (Al7 l t) := by
 unfold Af9.f Al7
 refine Ac0 (SignatureFault_impl l) (Ap9 (fun h => ?_) (fun h => Aa9 _))
 have hr := Ar5 l h
 have hl := hr.len
 unfold Ay3
 by_cases h1 : (t.length : Int) < 1
 ·rw [if_pos (.inl (by omega))]
  refine Aa3 h1 (Ad2 ?_)
  simp only [Af9.j0]
  exact Aa3 (by simp) (Aa9 _)
 refine Ab5 h1 (Ad2 ?_)
 simp only [Af9.j0]
 by_cases h2 : (t.length : Int) > 24
 ·rw [if_pos (.inr (by omega))]
  exact Aa3 (by simpa using h2) (Aa9 _)
 rw [if_neg (by omega)]
 refine Ab5 (by simpa using h2) (Ac0 (Term_bad l (by omega) t ht) (Ap9 (fun hb => Aa9 _) (fun hb => ?_)))
 have hn := Bf9 hb
 refine Ac0 (Bc9 l hr t ht hn 0 (by omega)) ?_
 by_cases he : Ar0 (arL l) t 1 0 = some t.length
 ·rw [he]; exact Aa3 rfl (Ah7 (Aa9 _) (if_pos rfl).symm)
 ·refine Ab5 ?_ (Ah7 (Aa9 _) (if_neg he).symm)
  cases hE : Ar0 (arL l) t 1 0 with
  | none => simp [Bn2] <;> omega
  | some e =>
   intro k
   have : e = t.length := by simp only [Bn2] at k; omega
   exact he (by rw [hE, this])
structure RightT (l : List S79) (t : List Int) : Prop where
 sig : Right l
 len : 1 ≤ t.length ∧ t.length ≤ 24
 nodes : Bc7 l t
 whole : Ar0 (arL l) t 1 0 = some t.length
theorem Aj2 {l : List S79} {t : List Int} (h : Al7 l t = 0) : RightT l t := by
 unfold Al7 at h
 by_cases hs : Ay1 l = 0
 ·rw [if_pos hs] at h
  unfold Ay3 at h
  by_cases h1 : t.length < 1 ∨ t.length > 24
  ·rw [if_pos h1] at h; cases h
  rw [if_neg h1] at h
  by_cases h2 : Bn1 l t = true
  ·rw [if_pos h2] at h; cases h
  rw [if_neg h2] at h
  by_cases h3 : Ar0 (arL l) t 1 0 = some t.length
  ·exact ⟨Ar5 l hs, by omega, Bf9 h2, h3⟩
  ·rw [if_neg h3] at h; cases h
 ·rw [if_neg hs] at h; exact absurd h hs
theorem nodes_iff {l : List S79} {t : List Int} : Bc7 l t ↔ ∀ n ∈ t, Au0 l n = true := by
 constructor
 ·intro h n hn
  obtain ⟨j, hj, rfl⟩ := List.mem_iff_getElem.1 hn
  have := h j hj
  rwa [An9 t j hj] at this
 ·intro h i hi
  exact h _ (Bk2 t i hi)
theorem sig_of {l : List S79} {t : List Int} (h : Al7 l t = 0) : Ay1 l = 0 := by
 unfold Al7 at h
 by_cases hs : Ay1 l = 0
 ·exact hs
 ·rw [if_neg hs] at h; exact absurd h hs
theorem At0 {l : List S79} {t : List Int} (h : Al7 l t = 0) : 1 ≤ t.length ∧ t.length ≤ 24 ∧ (∀ n ∈ t, Au0 l n = true) ∧ Whole (arL l) t := by
 have hr := Aj2 h
 exact ⟨hr.len.1, hr.len.2, nodes_iff.1 hr.nodes, Bd5.1 hr.whole⟩
def sbL (l : List S79) (t : List Int) (i : Nat) : List Int := (t.take ((Ar0 (arL l) t 1 i).getD 0)).drop i
theorem Aw3 {l : List S79} {t : List Int} (h : RightT l t) {i : Nat} (hi : i < t.length) : ∃ e, Ar0 (arL l) t 1 i = some e ∧ i < e ∧ e ≤ t.length ∧ sbL l t i = (t.take e).drop i := by
 obtain ⟨e, he⟩ := endN_sub _ t h.whole i hi
 obtain ⟨_, h1, h2⟩ := Al3 (by omega) he
 exact ⟨e, he, h1, h2, by unfold sbL; rw [he]; rfl⟩
theorem sbL_length {l : List S79} {t : List Int} (h : RightT l t) (i : Nat) : (sbL l t i).length ≤ 24 := by
 have := h.len
 unfold sbL
 simp only [List.length_drop, List.length_take]; omega
theorem Bi2 : ∀ u v : List Int, u.length = v.length → Bo4 (fun x y => decide (x = y)) u v = decide (u = v)
 | [], [], _ => by simp [Bo4]
 | x :: u, y :: v, h => by
  have ih := Bi2 u v (by simpa using h)
  rw [Bo4]
  by_cases e : x = y
  ·rw [if_pos (by simpa using e), ih]; simp [e]
  ·rw [if_neg (by simpa using e)]; simp [e]
 | [], _ :: _, h => by simp at h
 | _ :: _, [], h => by simp at h
theorem sliceEq_ev (u v : List Int) (hu : u.length ≤ 1048576) : Ev (fun k => Ab3.f k u v) (decide (u = v)) := by
 unfold Ab3.f
 by_cases hl : u.length = v.length
 ·have := loop_all (fun x y => decide (x = y)) u v hl (fun k i => Ab3.l0 k u v (u.length : Int) i)
   (fun k => by simp only [Ab3.l0]; exact if_neg (by omega))
   (fun i ha hb r hr => by
    simp only [Ab3.l0]
    refine Aa3 (by omega) (Aa3 (by omega) (Aa3 (by omega) (Aa3 (by omega) ?_)))
    rw [Ag1 (by omega), An9 u i ha, An9 v i hb]
    by_cases e : u[i] = v[i]
    ·exact Aa3 e (Ah7 hr (by simp [e]))
    ·exact Ab5 e (Ah7 (Aa9 _) (by simp [e])))
   u.length 0 (by omega)
  rw [List.drop_zero, List.drop_zero, Bi2 u v hl] at this
  exact Aa3 (by omega) this
 ·exact Ab5 (by omega) (Ah7 (Aa9 _) (by rw [decide_eq_false (fun e => hl (by rw [e]))]))
theorem l1Same_ev (u v : List Int) (hu : u.length ≤ 1048576) : Ev (fun k => Ai3.f k u v) (decide (u = v)) := by
 unfold Ai3.f
 by_cases hl : u.length = v.length
 ·have := loop_all (fun x y => decide (x = y)) u v hl (fun k i => Ai3.l0 k u v i)
   (fun k => by simp only [Ai3.l0]; exact if_neg (by omega))
   (fun i ha hb r hr => by
    simp only [Ai3.l0]
    refine Aa3 (by omega) (Aa3 (by omega) (Aa3 (by omega) ?_))
    rw [Ag1 (by omega), An9 u i ha, An9 v i hb]
    by_cases e : u[i] = v[i]
    ·exact Aa3 e (Ah7 hr (by simp [e]))
    ·exact Ab5 e (Ah7 (Aa9 _) (by simp [e])))
   u.length 0 (by omega)
  rw [List.drop_zero, List.drop_zero, Bi2 u v hl] at this
  exact Aa3 (by omega) this
 ·exact Ab5 (by omega) (Ah7 (Aa9 _) (by rw [decide_eq_false (fun e => hl (by rw [e]))]))
theorem cmpContains_ev (s : List Int) (hs : s.length ≤ 1048576) (x : Int) : Ev (fun k => Ad0.f k s x) (decide (x ∈ s)) := by
 unfold Ad0.f
 refine Ac0 (Ah7 (At4 s (by omega) x) (placeN_idx s x)) (Ah7 (Aa9 _) ?_)
 by_cases h : x ∈ s
 ·rw [if_pos h, decide_eq_true h]; exact decide_eq_true (by omega)
 ·rw [if_neg h, decide_eq_false h]; exact decide_eq_false (by omega)
theorem cmpCount_ev (t : List Int) (n : Int) (ht : t.length ≤ 1048576) : ∃ c : Nat, (0 < c ↔ n ∈ t) ∧ Ev (fun k => Ah8.f k t n) (c : Int) := by
 have key : ∀ (d i c : Nat), i + d = t.length → c ≤ i → ∃ r : Nat, (c < r ↔ n ∈ t.drop i) ∧ c ≤ r ∧ Ev (fun k => Ah8.l0 k t n (c : Int) (i : Int)) (r : Int) := by
  intro d
  induction d with
  | zero =>
   intro i c hi hc
   refine ⟨c, by rw [List.drop_eq_nil_of_le (by omega)]; simp, Nat.le_refl _, Ad2 ?_⟩
   simp only [Ah8.l0]
   exact Ab5 (by omega) (Aa9 _)
  | succ d ih =>
   intro i c hi hc
   have hd := Bi4 t i (by omega)
   by_cases h : rd t (i : Int) = n
   ·obtain ⟨r, h1, h2, h3⟩ := ih (i + 1) (c + 1) (by omega) (by omega)
    refine ⟨r, ?_, by omega, Ad2 ?_⟩
    ·rw [hd, List.mem_cons]
     exact ⟨fun _ => .inl h.symm, fun _ => by omega⟩
    ·simp only [Ah8.l0]
     refine Aa3 (by omega) (Aa3 (by omega) (Aa3 h ?_))
     rw [Ag1 (by omega), Ag1 (by omega)]
     exact h3
   ·obtain ⟨r, h1, h2, h3⟩ := ih (i + 1) c (by omega) (by omega)
    refine ⟨r, ?_, h2, Ad2 ?_⟩
    ·rw [hd, List.mem_cons, h1]
     exact ⟨.inr, fun q => q.resolve_left (fun e => h e.symm)⟩
    ·simp only [Ah8.l0]
     refine Aa3 (by omega) (Aa3 (by omega) (Ab5 h ?_))
     rw [Ag1 (by omega)]
     exact h3
 obtain ⟨r, h1, _, h3⟩ := key t.length 0 0 (by omega) (by omega)
 exact ⟨r, by simpa using h1, h3⟩
theorem Bb8 {l : List S79} {t : List Int} (h : RightT l t) {i : Nat} (hi : i < t.length) : Ev (fun k => Ag6.f k l t (i : Int)) (sbL l t i) := by
 obtain ⟨e, he, h1, h2, hs⟩ := Aw3 h hi
 have hl := h.len
 have e2 := Bc9 l h.sig t (by omega) h.nodes i (by omega)
 rw [he] at e2
 unfold Ag6.f
 rw [hs]
 refine Ac0 e2 (Aa3 (by omega) (Aa3 (by simp only [Bn2]; omega) (Aa3 (by simp only [Bn2]; omega) ?_)))
 simp only [Bn2, Int.toNat_natCast]
 exact Aa9 _
theorem cmpArgs_l0 (l : List S79) (hr : Right l) (t : List Int) (ht : t.length ≤ 1048576) (hn : Bc7 l t) (n : Nat) : ∀ (m i e e' : Nat) (acc : List Int), i + m = n → n ≤ 2 → e ≤ t.length → Ar0 (arL l) t m e = some e' → acc.length ≤ 1000 + i →
  Ev (fun k => Ac8.l0 k t acc (e : Int) (n : Int) (i : Int) l) (acc ++ (Au2 (arL l) t m e).map fun p : Nat => (p : Int)) := by
 intro m
 induction m with
 | zero =>
  intro i e e' acc hi hn2 he hE hacc
  refine Ad2 ?_
  simp only [Ac8.l0]
  refine Ab5 (by omega) (Ah7 (Aa9 _) ?_)
  simp [Au2]
 | succ m ihm =>
  intro i e e' acc hi hn2 he hE hacc
  refine Ad2 ?_
  simp only [Ac8.l0]
  rw [show m + 1 = 1 + m by omega, Au4 _ _ 1 m e he] at hE
  cases h1 : Ar0 (arL l) t 1 e with
  | none => rw [h1] at hE; cases hE
  | some q =>
   rw [h1] at hE
   simp only [Option.bind_some] at hE
   obtain ⟨_, b1, b2⟩ := Al3 he h1
   have hend := Bc9 l hr t ht hn e he
   rw [h1] at hend
   refine Aa3 (by omega) (Aa3 (by omega) (Ac0 hend ?_))
   rw [Ag1 (by omega), Ar2 h1]
   refine Ah7 (ihm (i + 1) q e' (acc ++ [(e : Int)]) (by omega) hn2 b2 hE (by simp; omega)) ?_
   simp
theorem cmpArgs_ev {l : List S79} {t : List Int} (h : RightT l t) {a : Nat} (ha : a < t.length) : Ev (fun k => Ac8.f k l t (a : Int)) ((Ai8 (arL l) t a).map fun p : Nat => (p : Int)) := by
 obtain ⟨e, he, h1, h2, _⟩ := Aw3 h ha
 have hl := h.len
 unfold Ac8.f
 refine Aa3 (by omega) (Aa3 (by omega) (Ac6 (arityOf_eq l h.sig _ (h.nodes a ha)) ?_))
 rw [Ag1 (by omega)]
 have := cmpArgs_l0 l h.sig t (by omega) h.nodes (arL l (rd t (a : Int))) (arL l (rd t (a : Int))) 0 (a + 1) e [] (by omega) (Bc5 h.sig (h.nodes a ha)) (by omega) (Aw1 ha he) (by simp)
 exact Ah7 this (by simp [Ai8])
theorem starts_ev {l : List S79} {t : List Int} (h : RightT l t) {a : Nat} (ha : a < t.length) (h0 : ¬ rd t (a : Int) < 0) : Ev (fun k => Ag5.f k [(⟨l⟩ : S36)] t (a : Int)) ((Ai8 (arL l) t a).map fun p : Nat => (p : Int)) := by
 obtain ⟨e, he, h1, h2, _⟩ := Aw3 h ha
 have hl := h.len
 have hx := Ax6 (h.nodes a ha) h0
 obtain ⟨hc, hc2⟩ := Ba7 h.sig (h.nodes a ha) h0
 have e0 : (Ad6 [(⟨l⟩ : S36)] 0).f0 = l := rfl
 have key : ∀ (m i q q' : Nat) (acc : List Int), i + m = arL l (rd t (a : Int)) → q ≤ t.length → Ar0 (arL l) t m q = some q' → acc.length ≤ 1000 + i →
   Ev (fun k => Ag5.l0 k [(⟨l⟩ : S36)] t (a : Int) acc (q : Int) (i : Int)) (acc ++ (Au2 (arL l) t m q).map fun p : Nat => (p : Int)) := by
  intro m
  induction m with
  | zero =>
   intro i q q' acc hi hq hE hacc
   refine Ad2 ?_
   simp only [Ag5.l0, e0, List.length_singleton]
   refine Aa3 (by omega) (Aa3 (by omega) (Aa3 (by omega) (Aa3 (by omega) (Aa3 (by omega) (Ab5 (by omega) (Ah7 (Aa9 _) ?_))))))
   simp [Au2]
  | succ m ihm =>
   intro i q q' acc hi hq hE hacc
   refine Ad2 ?_
   simp only [Ag5.l0, e0, List.length_singleton]
   rw [show m + 1 = 1 + m by omega, Au4 _ _ 1 m q hq] at hE
   cases h1 : Ar0 (arL l) t 1 q with
   | none => rw [h1] at hE; cases hE
   | some q2 =>
    rw [h1] at hE
    simp only [Option.bind_some] at hE
    obtain ⟨_, b1, b2⟩ := Al3 hq h1
    have hend := Av7 l h.sig t (by omega) h.nodes (t.length - q) q (by omega)
    rw [h1] at hend
    refine Aa3 (by omega) (Aa3 (by omega) (Aa3 (by omega) (Aa3 (by omega) (Aa3 (by omega) (Aa3 (by omega) (Aa3 (by omega) (Ac0 hend ?_)))))))
    rw [Ag1 (by omega), Ar2 h1]
    refine Ah7 (ihm (i + 1) q2 q' (acc ++ [(q : Int)]) (by omega) b2 hE (by simp; omega)) ?_
    simp
 unfold Ag5.f
 rw [Ag1 (by omega)]
 have := key (arL l (rd t (a : Int))) 0 (a + 1) e [] (by omega) (by omega) (Aw1 ha he) (by simp)
 exact Ah7 this (by simp [Ai8])
theorem l7Equal_ev {l : List S79} {a b : List Int} (ha : RightT l a) (hb : RightT l b) {i j : Nat} (hi : i < a.length) (hj : j < b.length) : Ev (fun k => Ah4.f k [(⟨l⟩ : S36)] a (i : Int) b (j : Int)) (decide (sbL l a i = sbL l b j)) := by
 obtain ⟨e, he, h1, h2, hs⟩ := Aw3 ha hi
 obtain ⟨f, hf, h3, h4, ht⟩ := Aw3 hb hj
 have hla := ha.len
 have hlb := hb.len
 have e1 := Av7 l ha.sig a (by omega) ha.nodes (a.length - i) i (by omega)
 have e2 := Av7 l hb.sig b (by omega) hb.nodes (b.length - j) j (by omega)
 rw [he] at e1
 rw [hf] at e2
 rw [hs, ht]
 unfold Ah4.f
 have hsame := l1Same_ev ((a.take e).drop i) ((b.take f).drop j) (by simp only [List.length_drop, List.length_take]; omega)
 refine Ac0 e1 (Aa3 (by omega) (Aa3 (by simp only [Bi8]; omega) (Aa3 (by simp only [Bi8]; omega) (Ac0 e2 (Aa3 (by omega) (Aa3 (by simp only [Bi8]; omega) (Aa3 (by simp only [Bi8]; omega) ?_)))))))
 simp only [Bi8, Int.toNat_natCast]
 exact Ac0 hsame (Aa9 _)
theorem cmpSame_ev {l : List S79} {a b o : List Int} (ha : RightT l a) (hb : RightT l b) {i j : Nat} (hi : i < a.length) (hj : j < b.length) : Ev (fun k => Ac9.f k [(⟨⟨l⟩, o, a, b, 0⟩ : S114)] (i : Int) (j : Int)) (decide (sbL l a i = sbL l b j)) := by
 unfold Ac9.f
 have e0 : (Ac1 [(⟨⟨l⟩, o, a, b, 0⟩ : S114)] 0).f0.f0 = l := rfl
 have e2 : (Ac1 [(⟨⟨l⟩, o, a, b, 0⟩ : S114)] 0).f2 = a := rfl
 have e3 : (Ac1 [(⟨⟨l⟩, o, a, b, 0⟩ : S114)] 0).f3 = b := rfl
 rw [e0, e2, e3]
 exact Aa3 (by simp) (Ac0 (Bb8 ha hi) (Ac0 (Bb8 hb hj) (Ac0 (sliceEq_ev _ _ (by have := sbL_length ha i; omega)) (Aa9 _))))
theorem cmpRank_ev (o : List Int) (ho : o.length ≤ 1048576) (n : Int) : Ev (fun k => Aj6.f k o n) (At8 (fun j => n == rd o (j : Int)) o.length) := by
 unfold Aj6.f
 have h := Al1 o.length (fun j => if (n == rd o (j : Int)) = true then some (j : Int) else none) (-1) (fun k i => Aj6.l0 k o n i)
  (by simp only [Aj6.l0]; exact Ab5 (by omega) (Aa9 _))
  (fun i hi r hr => by
   simp only [Aj6.l0]
   refine Aa3 (by omega) (Aa3 (by omega) ?_)
   rw [Ag1 (by omega)]
   by_cases h : rd o (i : Int) = n
   ·exact Aa3 h (Ah7 (Aa9 _) (by simp [h]))
   ·exact Ab5 h (Ah7 hr (by have h' : ¬ n = rd o (i : Int) := fun e => h e.symm; simp [h'])))
  o.length 0 (by omega)
 rw [Ax4 (fun j => n == rd o (j : Int))] at h
 exact h
theorem cmp_unif (n : Nat) (P : Nat → Nat → Prop) (hmono : ∀ i K K', K ≤ K' → P i K → P i K') (h : ∀ i, i < n → ∃ K, P i K) : ∃ K, ∀ i, i < n → P i K := by
 induction n with
 | zero => exact ⟨0, fun i hi => by omega⟩
 | succ n ih =>
  obtain ⟨K, hK⟩ := ih (fun i hi => h i (by omega))
  obtain ⟨K', hK'⟩ := h n (by omega)
  refine ⟨max K K', fun i hi => ?_⟩
  by_cases e : i = n
  ·subst e; exact hmono _ _ _ (by omega) hK'
  ·exact hmono _ _ _ (by omega) (hK i (by omega))
theorem Bf8 {l : List S79} {n : Int} (h : Au0 l n = true) (h0 : ¬ n < 0) : Ba4 l n = true := by
 unfold Au0 at h
 rw [Bool.or_eq_true] at h
 rcases h with h | h
 ·exact h
 ·have := of_decide_eq_true h; omega
theorem cmp_right {l : List S79} {o : List Int} (h : Bb5 l o = 0) : Right l ∧ Bo0 l o = 0 := by
 unfold Bb5 at h
 by_cases hs : Ay1 l = 0
 ·rw [if_pos hs] at h; exact ⟨Ar5 l hs, h⟩
 ·rw [if_neg hs] at h; exact absurd h hs
theorem Bj4 {l : List S79} {o : List Int} (h : Bb5 l o = 0) :
  o.length = l.length ∧ (∀ i, i < o.length → Ba4 l (rd o (i : Int)) = true) ∧ ∀ i j, i < o.length → j < i → rd o (i : Int) ≠ rd o (j : Int) := by
 obtain ⟨_, hg⟩ := cmp_right h
 unfold Bo0 at hg
 by_cases hl : o.length = l.length
 ·rw [if_pos hl] at hg
  by_cases hb : (Ak6 (fun j => !Ba4 l (rd o (j : Int))) o.length 0).isSome = true
  ·rw [if_pos hb] at hg; cases hg
  ·rw [if_neg hb] at hg
   have h1 : Ak6 (fun j => !Ba4 l (rd o (j : Int))) o.length 0 = none := by
    cases hf : Ak6 (fun j => !Ba4 l (rd o (j : Int))) o.length 0 with
    | none => rfl
    | some j => rw [hf] at hb; exact absurd rfl hb
   refine ⟨hl, fun i hi => ?_, fun i j hi hj => ?_⟩
   ·have := (As8 o.length 0).1 h1 i (by omega) (by omega)
    simpa using this
   ·rcases scanN_cases (Ap7 o) 0 o.length 0 with ⟨h2, _⟩ | ⟨q, _, _, h3⟩
    ·have hi2 := h2 i (by omega) (by omega)
     unfold Ap7 at hi2
     by_cases hd : Bh6 o i = true
     ·rw [if_pos hd] at hi2; cases hi2
     unfold Bh6 at hd
     have h4 : Ak6 (fun j => rd o (i : Int) == rd o (j : Int)) i 0 = none := by
      cases hf : Ak6 (fun j => rd o (i : Int) == rd o (j : Int)) i 0 with
      | none => rfl
      | some j => rw [hf] at hd; exact absurd rfl hd
     have := (As8 i 0).1 h4 j (by omega) (by omega)
     simpa using this
    ·rw [hg] at h3
     unfold Ap7 at h3
     by_cases hd : Bh6 o q = true
     ·rw [if_pos hd] at h3; cases h3
     ·rw [if_neg hd] at h3; cases h3
 ·rw [if_neg hl] at hg; cases hg
theorem cmp_place {l : List S79} {o : List Int} (h : Bb5 l o = 0) {n : Int} (hn : Ba4 l n = true) :
  ∃ j, j < o.length ∧ At8 (fun j => n == rd o (j : Int)) o.length = (j : Int) ∧ rd o (j : Int) = n := by
 obtain ⟨hl, hs, hd⟩ := Bj4 h
 obtain ⟨h0, h1⟩ := Bd3 hn
 obtain ⟨q, hq, e⟩ := perm_place o (fun i hi => by
  have := Bd3 (hs i hi); omega) hd n h0 (by omega)
 rcases placeN_cases (fun j => n == rd o (j : Int)) o.length with ⟨_, h2⟩ | ⟨j, hj, h2, h3, _⟩
 ·have := h2 q hq
  simp [e] at this
 ·exact ⟨j, hj, h2, by simpa using (beq_iff_eq.1 h3).symm⟩
end Go.Proofs.YtgichahebemmiaaGreatDoor.Pure
set_option linter.unusedVariables false
set_option linter.unusedSectionVars false
namespace Go.Proofs.YtgichahebemmiaaGreatDoor.Pure
open Go.RowKit Go.Proofs.YtgichahebemmiaaGreatDoor.P Go.Proofs.YtgichahebemmiaaGreatDoorW.PrintWords Go.Proofs.YtgichahebemmiaaGreatDoorW.PrintLast Go.Proofs.YtgichahebemmiaaGreatDoor.Base
def Bc6 (l : List S79) (a b : List Int) (g : Nat → Nat → Bool) : List Nat → List Nat → Bool
 | p :: ps, q :: qs => if sbL l a p = sbL l b q then Bc6 l a b g ps qs else g p q
 | _, _ => false
def rkP (o : List Int) (n : Int) : Int := At8 (fun j => n == rd o (j : Int)) o.length
def Bh9 (l : List S79) (o a b : List Int) (g : Nat → Nat → Bool) (i j : Nat) : Bool :=
 if rd b (j : Int) < 0 then (if rd a (i : Int) ≥ 0 then decide (rd b (j : Int) ∈ sbL l a i) else false)
 else if rd a (i : Int) < 0 then false
 else if (Ai8 (arL l) a i).any (fun p => decide (sbL l a p = sbL l b j) || g p j) = true then true
 else if rkP o (rd a (i : Int)) < rkP o (rd b (j : Int)) then false
 else if (Ai8 (arL l) b j).all (fun q => g i q) = true then
  (if rd a (i : Int) = rd b (j : Int) then Bc6 l a b g (Ai8 (arL l) a i) (Ai8 (arL l) b j) else true)
 else false
def gB (l : List S79) (o a b : List Int) : Nat → Nat → Nat → Bool
 | 0, _, _ => false
 | f + 1, i, j => Bh9 l o a b (gB l o a b f) i j
def gT (l : List S79) (o a b : List Int) (i j : Nat) : Bool := gB l o a b (a.length + b.length) i j
theorem lexB_congr {l : List S79} {a b : List Int} {g g' : Nat → Nat → Bool} : ∀ ps qs : List Nat, (∀ p ∈ ps, ∀ q ∈ qs, g p q = g' p q) → Bc6 l a b g ps qs = Bc6 l a b g' ps qs
 | p :: ps, q :: qs, h => by
  rw [Bc6, Bc6, lexB_congr ps qs (fun x hx y hy => h x (by simp [hx]) y (by simp [hy])), h p (by simp) q (by simp)]
 | [], _, _ => by simp [Bc6]
 | _ :: _, [], _ => by simp [Bc6]
section
variable {l : List S79} {o a b : List Int} (ha : RightT l a) (hb : RightT l b)
include ha hb
theorem Aw0 {i : Nat} (hi : i < a.length) : ∀ p ∈ Ai8 (arL l) a i, i < p ∧ p < a.length := by
 obtain ⟨e, he, _⟩ := Aw3 ha hi
 exact fun p hp => ⟨((Am4 hi he).2 p hp).1, ((Am4 hi he).2 p hp).2.1⟩
theorem cellB_congr {g g' : Nat → Nat → Bool} {i j : Nat} (hi : i < a.length) (hj : j < b.length) (h : ∀ p q, p < a.length → q < b.length → i ≤ p → j ≤ q → i + j < p + q → g p q = g' p q) : Bh9 l o a b g i j = Bh9 l o a b g' i j := by
 have hA := Aw0 ha hb hi
 have hB := Aw0 hb ha hj
 unfold Bh9
 by_cases hy : rd b (j : Int) < 0
 ·rw [if_pos hy, if_pos hy]
 rw [if_neg hy, if_neg hy]
 have e1 : (Ai8 (arL l) a i).any (fun p => decide (sbL l a p = sbL l b j) || g p j) = (Ai8 (arL l) a i).any (fun p => decide (sbL l a p = sbL l b j) || g' p j) := by
  rw [Bool.eq_iff_iff, List.any_eq_true, List.any_eq_true]
  constructor
  ·rintro ⟨p, hp, h1⟩; exact ⟨p, hp, by rw [← h p j (hA p hp).2 hj (by have := hA p hp; omega) (Nat.le_refl _) (by have := hA p hp; omega)]; exact h1⟩
  ·rintro ⟨p, hp, h1⟩; exact ⟨p, hp, by rw [h p j (hA p hp).2 hj (by have := hA p hp; omega) (Nat.le_refl _) (by have := hA p hp; omega)]; exact h1⟩
 have e2 : (Ai8 (arL l) b j).all (fun q => g i q) = (Ai8 (arL l) b j).all (fun q => g' i q) := by
  rw [Bool.eq_iff_iff, List.all_eq_true, List.all_eq_true]
  constructor
  ·intro h1 q hq; rw [← h i q hi (hB q hq).2 (Nat.le_refl _) (by have := hB q hq; omega) (by have := hB q hq; omega)]; exact h1 q hq
  ·intro h1 q hq; rw [h i q hi (hB q hq).2 (Nat.le_refl _) (by have := hB q hq; omega) (by have := hB q hq; omega)]; exact h1 q hq
 have e3 := lexB_congr (l := l) (a := a) (b := b) (g := g) (g' := g') (Ai8 (arL l) a i) (Ai8 (arL l) b j) (fun p hp q hq => h p q (hA p hp).2 (hB q hq).2 (by have := hA p hp; omega) (by have := hB q hq; omega) (by have := hA p hp; have := hB q hq; omega))
 rw [e1, e2, e3]
theorem gB_more : ∀ (f g i j : Nat), i < a.length → j < b.length → a.length + b.length ≤ f + i + j → a.length + b.length ≤ g + i + j → gB l o a b f i j = gB l o a b g i j
 | 0, g, i, j, hi, hj, h1, h2 => by omega
 | f + 1, 0, i, j, hi, hj, h1, h2 => by omega
 | f + 1, g + 1, i, j, hi, hj, h1, h2 => by
  rw [gB, gB]
  exact cellB_congr ha hb hi hj (fun p q hp hq h3 h4 h5 => gB_more f g p q hp hq (by omega) (by omega))
theorem Bn6 {i j : Nat} (hi : i < a.length) (hj : j < b.length) : gT l o a b i j = Bh9 l o a b (gT l o a b) i j := by
 have e : gT l o a b i j = gB l o a b (a.length + b.length + 1) i j := gB_more ha hb _ _ i j hi hj (by omega) (by omega)
 rw [e, gB]
 rfl
end
def gM (l : List S79) (o a b : List Int) (m : Nat) (p q : Int) : Option Bool := if 0 ≤ p ∧ p < (a.length : Int) ∧ 0 ≤ q ∧ q < (b.length : Int) ∧ (m : Int) < p + q then some (gT l o a b p.toNat q.toNat) else none
section
variable {l : List S79} {o a b : List Int} (ha : RightT l a) (hb : RightT l b) (ho : Bb5 l o = 0)
include ha hb
theorem Bi0 {m p q : Nat} (hp : p < a.length) (hq : q < b.length) (h : m < p + q) : gM l o a b m (p : Int) (q : Int) = some (gT l o a b p q) := by
 unfold gM
 rw [if_pos (by omega)]
 simp
include ho
theorem isGr_l2 {i j : Nat} (hi : i < a.length) (hj : j < b.length) : ∀ (ps qs xs ys : List Nat), ps.length = qs.length → (Ai8 (arL l) a i) = xs ++ ps → (Ai8 (arL l) b j) = ys ++ qs → xs.length = ys.length →
  Ev (fun k => Aa1.l2 (gM l o a b (i + j)) k [(⟨⟨l⟩, o, a, b, 0⟩ : S114)] ((Ai8 (arL l) b j).map fun p : Nat => (p : Int)) ((Ai8 (arL l) a i).map fun p : Nat => (p : Int)) (((Ai8 (arL l) a i).map fun p : Nat => (p : Int)).length : Int) (xs.length : Int)) (Bc6 l a b (gT l o a b) ps qs)
 | [], qs, xs, ys, h1, h2, h3, h4 => by
  refine Ad2 ?_
  simp only [Aa1.l2]
  refine Ab5 (by rw [List.length_map, h2]; simp) (Ah7 (Aa9 _) (by cases qs <;> simp [Bc6]))
 | p :: ps, [], xs, ys, h1, h2, h3, h4 => by simp at h1
 | p :: ps, q :: qs, xs, ys, h1, h2, h3, h4 => by
  have hA := Aw0 ha hb hi
  have hB := Aw0 hb ha hj
  have hp := hA p (by rw [h2]; simp)
  have hq := hB q (by rw [h3]; simp)
  have ih := isGr_l2 hi hj ps qs (xs ++ [p]) (ys ++ [q]) (by simpa using h1) (by rw [h2]; simp) (by rw [h3]; simp) (by simp [h4])
  have hla : (Ai8 (arL l) a i).length ≤ 2 := by
   obtain ⟨e, he, _⟩ := Aw3 ha hi
   rw [(Am4 hi he).1]; exact Bc5 ha.sig (ha.nodes i hi)
  have hl2 : xs.length + (ps.length + 1) ≤ 2 := by rw [h2] at hla; simpa using hla
  have r1 : rd ((Ai8 (arL l) a i).map fun p : Nat => (p : Int)) (xs.length : Int) = (p : Int) := by
   rw [An9 _ _ (by rw [h2]; simp)]; simp [h2]
  have r2 : rd ((Ai8 (arL l) b j).map fun p : Nat => (p : Int)) (xs.length : Int) = (q : Int) := by
   rw [h4, An9 _ _ (by rw [h3]; simp)]; simp [h3]
  refine Ad2 ?_
  simp only [Aa1.l2]
  rw [r1, r2, Ag1 (by omega)]
  refine Aa3 (by rw [List.length_map, h2]; simp; omega) (Aa3 (by omega) (Aa3 (by rw [List.length_map, h2]; simp; omega) (Aa3 (by rw [List.length_map, h3, h4]; simp; omega) (Ac0 (cmpSame_ev ha hb hp.2 hq.2) ?_))))
  rw [Bc6]
  by_cases e : sbL l a p = sbL l b q
  ·rw [if_pos e]
   refine Aa3 (by simpa using e) ?_
   simpa using ih
  ·rw [if_neg e]
   exact Ab5 (by simpa using e) (Ac6 (Bi0 ha hb hp.2 hq.2 (by omega)) (Aa9 _))
theorem rank_facts {x y : Int} (hx : Ba4 l x = true) (hy : Ba4 l y = true) : ∃ p q : Nat, p < o.length ∧ q < o.length ∧ rkP o x = p ∧ rkP o y = q ∧ (p = q ↔ x = y) := by
 obtain ⟨p, hp, h1, h2⟩ := cmp_place ho hx
 obtain ⟨q, hq, h3, h4⟩ := cmp_place ho hy
 refine ⟨p, q, hp, hq, h1, h3, fun e => ?_, fun e => ?_⟩
 ·rw [← h2, ← h4, e]
 ·subst e
  have : ((p : Nat) : Int) = (q : Int) := h1.symm.trans h3
  omega
theorem isGr_ev {i j : Nat} (hi : i < a.length) (hj : j < b.length) : Ev (fun k => Aa1.f (gM l o a b (i + j)) k [(⟨⟨l⟩, o, a, b, 0⟩ : S114)] (i : Int) (j : Int)) (gT l o a b i j) := by
 have e0 : (Ac1 [(⟨⟨l⟩, o, a, b, 0⟩ : S114)] 0).f0.f0 = l := rfl
 have e1 : (Ac1 [(⟨⟨l⟩, o, a, b, 0⟩ : S114)] 0).f1 = o := rfl
 have e2 : (Ac1 [(⟨⟨l⟩, o, a, b, 0⟩ : S114)] 0).f2 = a := rfl
 have e3 : (Ac1 [(⟨⟨l⟩, o, a, b, 0⟩ : S114)] 0).f3 = b := rfl
 have hla := ha.len
 have hlb := hb.len
 have hol : o.length ≤ 6 := by have := (Bj4 ho).1; have := ha.sig.len; omega
 have hA := Aw0 ha hb hi
 have hB := Aw0 hb ha hj
 rw [Bn6 ha hb hi hj]
 unfold Aa1.f Bh9
 rw [e0, e2, e3]
 refine Aa3 (by simp) (Aa3 (by omega) (Aa3 (by omega) (Aa3 (by omega) (Aa3 (by omega) ?_))))
 by_cases hy : rd b (j : Int) < 0
 ·rw [if_pos hy]
  refine Aa3 hy ?_
  by_cases hx : rd a (i : Int) ≥ 0
  ·rw [if_pos hx]
   exact Aa3 hx (Ac0 (Bb8 ha hi) (Ac0 (cmpContains_ev _ (by have := sbL_length ha i; omega) _) (Aa9 _)))
  ·rw [if_neg hx]; exact Ab5 hx (Aa9 _)
 rw [if_neg hy]
 refine Ab5 hy ?_
 by_cases hx : rd a (i : Int) < 0
 ·rw [if_pos hx]; exact Aa3 hx (Aa9 _)
 rw [if_neg hx]
 refine Ab5 hx (Ac0 (cmpArgs_ev ha hi) (Ac0 (cmpArgs_ev hb hj) ?_))
 obtain ⟨xs, hxs⟩ : ∃ xs, xs = Ai8 (arL l) a i := ⟨_, rfl⟩
 obtain ⟨ys, hys⟩ : ∃ ys, ys = Ai8 (arL l) b j := ⟨_, rfl⟩
 have hlx : xs.length = arL l (rd a (i : Int)) ∧ xs.length ≤ 2 := by
  obtain ⟨e, he, _⟩ := Aw3 ha hi
  rw [hxs, (Am4 hi he).1]; exact ⟨rfl, Bc5 ha.sig (ha.nodes i hi)⟩
 have hly : ys.length = arL l (rd b (j : Int)) ∧ ys.length ≤ 2 := by
  obtain ⟨e, he, _⟩ := Aw3 hb hj
  rw [hys, (Am4 hj he).1]; exact ⟨rfl, Bc5 hb.sig (hb.nodes j hj)⟩
 have hsx : Ba4 l (rd a (i : Int)) = true := Bf8 (ha.nodes i hi) hx
 have hsy : Ba4 l (rd b (j : Int)) = true := Bf8 (hb.nodes j hj) hy
 obtain ⟨rp, rq, hrp, hrq, er1, er2, hiff⟩ := rank_facts ha hb ho hsx hsy
 have h2 : ∀ hxy : rd a (i : Int) = rd b (j : Int), Ev (fun k => Aa1.l2 (gM l o a b (i + j)) k [(⟨⟨l⟩, o, a, b, 0⟩ : S114)] (ys.map fun p : Nat => (p : Int)) (xs.map fun p : Nat => (p : Int)) ((xs.map fun p : Nat => (p : Int)).length : Int) 0) (Bc6 l a b (gT l o a b) xs ys) := by
  intro hxy
  have := isGr_l2 ha hb ho hi hj xs ys [] [] (by rw [hlx.1, hly.1, hxy]) (by rw [← hxs]; simp) (by rw [← hys]; simp) rfl
  rw [← hxs, ← hys] at this
  simpa using this
 rw [← hxs, ← hys]
 rw [← hxs] at hA
 rw [← hys] at hB
 -- what comes behind the second loop
 have h1 : ∀ (d n : Nat), n + d = ys.length → Ev (fun k => Aa1.l1 (gM l o a b (i + j)) k [(⟨⟨l⟩, o, a, b, 0⟩ : S114)] (i : Int) (xs.map fun p : Nat => (p : Int)) (ys.map fun p : Nat => (p : Int)) ((rp : Int) - rq) (ys.map fun p : Nat => (p : Int)) ((ys.map fun p : Nat => (p : Int)).length : Int) (n : Int))
   (if (ys.drop n).all (fun q => gT l o a b i q) = true then (if (rp : Int) - rq > 0 then true else Bc6 l a b (gT l o a b) xs ys) else false) ∨ ¬ ((rp : Int) - rq > 0) ∧ rp ≠ rq := by
  by_cases hcase : ¬ ((rp : Int) - rq > 0) ∧ rp ≠ rq
  ·exact fun _ _ _ => .inr hcase
  intro d
  induction d with
  | zero =>
   intro n hn
   refine .inl (Ad2 ?_)
   simp only [Aa1.l1]
   rw [List.drop_eq_nil_of_le (by omega)]
   refine Ab5 (by rw [List.length_map]; omega) ?_
   simp only [List.all_nil, if_true]
   by_cases hg : (rp : Int) - rq > 0
   ·rw [if_pos hg]; exact Aa3 hg (Aa9 _)
   ·rw [if_neg hg]
    have he : rp = rq := by omega
    exact Ab5 hg (h2 (hiff.1 he))
  | succ d ih =>
   intro n hn
   have hn2 : n < ys.length := by omega
   have hq := hB _ (List.getElem_mem hn2)
   rcases ih (n + 1) (by omega) with ih | ih
   ·refine .inl (Ad2 ?_)
    simp only [Aa1.l1]
    have r1 : rd (ys.map fun p : Nat => (p : Int)) (n : Int) = (ys[n] : Int) := by rw [An9 _ _ (by simpa using hn2)]; simp
    rw [r1, Ag1 (by omega), List.drop_eq_getElem_cons hn2, List.all_cons]
    refine Aa3 (by rw [List.length_map]; omega) (Aa3 (by omega) (Aa3 (by rw [List.length_map]; omega) (Ac6 (Bi0 ha hb hi hq.2 (by omega)) ?_)))
    by_cases hg : gT l o a b i ys[n] = true
    ·rw [hg, Bool.true_and]
     exact Aa3 rfl ih
    ·have hg' : gT l o a b i ys[n] = false := by simpa using hg
     rw [hg', Bool.false_and, if_neg (by simp)]
     exact Ab5 (by simp) (Aa9 _)
   ·exact .inr ih
 -- behind the first loop
 have hrest : Ev (fun k => if 0 < ([(⟨⟨l⟩, o, a, b, 0⟩ : S114)].length : Int) then ((Aa7.f k o (rd a (i : Int))).bind fun t175 => ((Aa7.f k o (rd b (j : Int))).bind fun t178 => (if (wrap64 (t175 - t178)) < 0 then (some false) else (Aa1.l1 (gM l o a b (i + j)) k [(⟨⟨l⟩, o, a, b, 0⟩ : S114)] (i : Int) (xs.map fun p : Nat => (p : Int)) (ys.map fun p : Nat => (p : Int)) (wrap64 (t175 - t178)) (ys.map fun p : Nat => (p : Int)) ((ys.map fun p : Nat => (p : Int)).length : Int) 0)))) else none)
   (if rkP o (rd a (i : Int)) < rkP o (rd b (j : Int)) then false else if ys.all (fun q => gT l o a b i q) = true then (if rd a (i : Int) = rd b (j : Int) then Bc6 l a b (gT l o a b) xs ys else true) else false) := by
  refine Aa3 (by simp) (Ac0 (At4 o (by omega) _) (Ac0 (At4 o (by omega) _) ?_))
  have er1' : At8 (fun j => rd a (i : Int) == rd o (j : Int)) o.length = rp := er1
  have er2' : At8 (fun q => rd b (j : Int) == rd o (q : Int)) o.length = rq := er2
  rw [er1', er2', er1, er2, Aj1 (by omega) (by omega)]
  by_cases hlt : (rp : Int) < rq
  ·rw [if_pos hlt]; exact Aa3 (by omega) (Aa9 _)
  rw [if_neg hlt]
  refine Ab5 (by omega) ?_
  rcases h1 ys.length 0 (by omega) with h1 | h1
  ·rw [List.drop_zero] at h1
   refine Ah7 h1 ?_
   by_cases hall : ys.all (fun q => gT l o a b i q) = true
   ·rw [if_pos hall, if_pos hall]
    by_cases hxy : rd a (i : Int) = rd b (j : Int)
    ·rw [if_pos hxy, if_neg (by have := hiff.2 hxy; omega)]
    ·rw [if_neg hxy, if_pos (by have : rp ≠ rq := fun e => hxy (hiff.1 e); omega)]
   ·rw [if_neg hall, if_neg hall]
  ·omega
 have h0 : ∀ (d n : Nat), n + d = xs.length → Ev (fun k => Aa1.l0 (gM l o a b (i + j)) k [(⟨⟨l⟩, o, a, b, 0⟩ : S114)] (i : Int) (j : Int) (rd a (i : Int)) (rd b (j : Int)) (xs.map fun p : Nat => (p : Int)) (ys.map fun p : Nat => (p : Int)) (xs.map fun p : Nat => (p : Int)) ((xs.map fun p : Nat => (p : Int)).length : Int) (n : Int))
   (if (xs.drop n).any (fun p => decide (sbL l a p = sbL l b j) || gT l o a b p j) = true then true else (if rkP o (rd a (i : Int)) < rkP o (rd b (j : Int)) then false else if ys.all (fun q => gT l o a b i q) = true then (if rd a (i : Int) = rd b (j : Int) then Bc6 l a b (gT l o a b) xs ys else true) else false)) := by
  intro d
  induction d with
  | zero =>
   intro n hn
   refine Ad2 ?_
   simp only [Aa1.l0]
   rw [List.drop_eq_nil_of_le (by omega), e1]
   refine Ab5 (by rw [List.length_map]; omega) ?_
   simp only [List.any_nil, Bool.false_eq_true, if_false]
   exact hrest
  | succ d ih =>
   intro n hn
   have hn2 : n < xs.length := by omega
   have hp := hA _ (List.getElem_mem hn2)
   refine Ad2 ?_
   simp only [Aa1.l0]
   have r1 : rd (xs.map fun p : Nat => (p : Int)) (n : Int) = (xs[n] : Int) := by rw [An9 _ _ (by simpa using hn2)]; simp
   rw [r1, Ag1 (by omega), List.drop_eq_getElem_cons hn2, List.any_cons]
   refine Aa3 (by rw [List.length_map]; omega) (Aa3 (by omega) (Aa3 (by rw [List.length_map]; omega) (Ac0 (cmpSame_ev ha hb hp.2 hj) ?_)))
   by_cases he : sbL l a xs[n] = sbL l b j
   ·refine Aa3 (by simpa using he) (Ah7 (Aa9 _) ?_)
    rw [if_pos (by simp [he])]
   ·refine Ab5 (by simpa using he) (Ac6 (Bi0 ha hb hp.2 hj (by omega)) ?_)
    by_cases hg : gT l o a b xs[n] j = true
    ·refine Aa3 hg (Ah7 (Aa9 _) ?_)
     rw [if_pos (by simp [hg])]
    ·refine Ab5 hg (Ah7 (ih (n + 1) (by omega)) ?_)
     have hg' : gT l o a b xs[n] j = false := by simpa using hg
     simp [he, hg']
 have := h0 xs.length 0 (by omega)
 rw [List.drop_zero] at this
 exact this
theorem greater_ev : ∀ (d i j : Nat), a.length + b.length ≤ d + i + j → i < a.length → j < b.length → ∃ K, ∀ k, K ≤ k → Ab0.f k [(⟨⟨l⟩, o, a, b, 0⟩ : S114)] (i : Int) (j : Int) = some (gT l o a b i j) := by
 intro d
 induction d with
 | zero => intro i j h hi hj; omega
 | succ d ih =>
  intro i j h hi hj
  have hla := ha.len
  have hlb := hb.len
  -- one number of rounds for all pairs further on
  obtain ⟨K, hK⟩ := cmp_unif a.length (fun p K => ∀ q, q < b.length → a.length + b.length ≤ d + p + q → ∀ k, K ≤ k → Ab0.f k [(⟨⟨l⟩, o, a, b, 0⟩ : S114)] (p : Int) (q : Int) = some (gT l o a b p q))
   (fun p K K' hKK hP q hq hm k hk => hP q hq hm k (by omega)) (fun p hp => by
    obtain ⟨K, hK⟩ := cmp_unif b.length (fun q K => a.length + b.length ≤ d + p + q → ∀ k, K ≤ k → Ab0.f k [(⟨⟨l⟩, o, a, b, 0⟩ : S114)] (p : Int) (q : Int) = some (gT l o a b p q))
     (fun q K K' hKK hP hm k hk => hP hm k (by omega)) (fun q hq => by
      by_cases hm : a.length + b.length ≤ d + p + q
      ·obtain ⟨K, hK⟩ := ih p q hm hp hq
       exact ⟨K, fun _ => hK⟩
      ·exact ⟨0, fun h => absurd h hm⟩)
    exact ⟨K, fun q hq => hK q hq⟩)
  obtain ⟨N, hN⟩ := isGr_ev ha hb ho hi hj
  refine ⟨max K (N + 1) + 1, fun k hk => ?_⟩
  obtain ⟨k, rfl⟩ : ∃ m, k = m + 1 := ⟨k - 1, by omega⟩
  obtain ⟨k', rfl⟩ : ∃ m, k = m + 1 := ⟨k - 1, by omega⟩
  rw [Ab0.f_succ, if_pos (by omega)]
  refine Aa1.mono (g := gM l o a b (i + j)) (fun p q r hr => ?_) _ _ _ k' _ (hN k' (by omega))
  unfold gM at hr
  by_cases hc : 0 ≤ p ∧ p < (a.length : Int) ∧ 0 ≤ q ∧ q < (b.length : Int) ∧ ((i + j : Nat) : Int) < p + q
  ·rw [if_pos hc] at hr
   obtain ⟨p', rfl⟩ : ∃ n : Nat, p = n := ⟨p.toNat, by omega⟩
   obtain ⟨q', rfl⟩ : ∃ n : Nat, q = n := ⟨q.toNat, by omega⟩
   rw [hK p' (by omega) q' (by omega) (by omega) (k' + 1) (by omega)]
   simpa using hr
  ·rw [if_neg hc] at hr; cases hr
theorem isGreater_ev : Ev (fun k => Ak2.f k l o a b) (gT l o a b 0 0) := by
 have hla := ha.len
 have hlb := hb.len
 obtain ⟨K, hK⟩ := greater_ev ha hb ho (a.length + b.length) 0 0 (by omega) (by omega) (by omega)
 exact ⟨K, fun k hk => hK k hk⟩
end
end Go.Proofs.YtgichahebemmiaaGreatDoor.Pure
set_option linter.unusedVariables false
set_option linter.unusedSectionVars false
namespace Go.Proofs.YtgichahebemmiaaGreatDoor.Pure
open Go.RowKit Go.Proofs.YtgichahebemmiaaGreatDoor.P Go.Proofs.YtgichahebemmiaaGreatDoorW.PrintWords Go.Proofs.YtgichahebemmiaaGreatDoorW.PrintLast Go.Proofs.YtgichahebemmiaaGreatDoor.Base
theorem tab_idx {p q m n : Nat} (hp : p < m) (hq : q < n) (hm : m ≤ 24) (hn : n ≤ 24) : wrap64 (wrap64 ((p : Int) * (n : Int)) + (q : Int)) = ((p * n + q : Nat) : Int) ∧ p * n + q < m * n ∧ p * n ≤ 576 := by
 have h1 : (p + 1) * n ≤ m * n := Nat.mul_le_mul_right _ hp
 rw [Nat.succ_mul] at h1
 have h2 : p * n ≤ 24 * 24 := Nat.mul_le_mul (by omega) hn
 refine ⟨?_, by omega, by omega⟩
 have e : (p : Int) * (n : Int) = ((p * n : Nat) : Int) := by push_cast; rfl
 rw [e, Aj1 (x := ((p * n : Nat) : Int)) (by omega) (by omega), Aj1 (by omega) (by omega)]
 push_cast; rfl
theorem rdOf_nat (T : List Bool) (n : Nat) : As6 false T (n : Int) = T.getD n false := by
 unfold As6
 rw [Int.toNat_natCast]
def Be9 (l : List S79) (o a b : List Int) (T : List Bool) (n : Nat) : Prop := T.length = a.length * b.length ∧ ∀ p q, p < a.length → q < b.length → n ≤ p * b.length + q → T.getD (p * b.length + q) false = gT l o a b p q
section
variable {l : List S79} {o a b : List Int} (ha : RightT l a) (hb : RightT l b) (ho : Bb5 l o = 0)
include ha hb ho
theorem Bl1 {T : List Bool} {n : Nat} (hT : Be9 l o a b T n) {p q : Nat} (hp : p < a.length) (hq : q < b.length) (h : n ≤ p * b.length + q) :
  0 ≤ wrap64 (wrap64 ((p : Int) * (b.length : Int)) + (q : Int)) ∧ wrap64 (wrap64 ((p : Int) * (b.length : Int)) + (q : Int)) < (T.length : Int) ∧ As6 false T (wrap64 (wrap64 ((p : Int) * (b.length : Int)) + (q : Int))) = gT l o a b p q := by
 obtain ⟨e, h1, _⟩ := tab_idx hp hq ha.len.2 hb.len.2
 rw [e, rdOf_nat, hT.1]
 exact ⟨by omega, by omega, hT.2 p q hp hq h⟩
theorem cell_l2 {T : List Bool} {i j : Nat} (hi : i < a.length) (hj : j < b.length) (hT : Be9 l o a b T (i * b.length + j + 1)) : ∀ (ps qs xs ys : List Nat), ps.length = qs.length → (Ai8 (arL l) a i) = xs ++ ps → (Ai8 (arL l) b j) = ys ++ qs → xs.length = ys.length →
  Ev (fun k => Ab1.l2 k [(⟨l⟩ : S36)] a b T (b.length : Int) ((Ai8 (arL l) a i).map fun p : Nat => (p : Int)) ((Ai8 (arL l) b j).map fun p : Nat => (p : Int)) (xs.length : Int)) (Bc6 l a b (gT l o a b) ps qs)
 | [], qs, xs, ys, h1, h2, h3, h4 => by
  refine Ad2 ?_
  simp only [Ab1.l2]
  refine Ab5 (by rw [List.length_map, h2]; simp) (Ad2 ?_)
  simp only [Ab1.j3]
  exact Ab5 (by simp) (Ah7 (Aa9 _) (by cases qs <;> simp [Bc6]))
 | p :: ps, [], xs, ys, h1, h2, h3, h4 => by simp at h1
 | p :: ps, q :: qs, xs, ys, h1, h2, h3, h4 => by
  have hA := Aw0 ha hb hi
  have hB := Aw0 hb ha hj
  have hp := hA p (by rw [h2]; simp)
  have hq := hB q (by rw [h3]; simp)
  have ih := cell_l2 hi hj hT ps qs (xs ++ [p]) (ys ++ [q]) (by simpa using h1) (by rw [h2]; simp) (by rw [h3]; simp) (by simp [h4])
  have hla : (Ai8 (arL l) a i).length ≤ 2 := by
   obtain ⟨e, he, _⟩ := Aw3 ha hi
   rw [(Am4 hi he).1]; exact Bc5 ha.sig (ha.nodes i hi)
  have hl2 : xs.length + (ps.length + 1) ≤ 2 := by rw [h2] at hla; simpa using hla
  have r1 : rd ((Ai8 (arL l) a i).map fun p : Nat => (p : Int)) (xs.length : Int) = (p : Int) := by
   rw [An9 _ _ (by rw [h2]; simp)]; simp [h2]
  have r2 : rd ((Ai8 (arL l) b j).map fun p : Nat => (p : Int)) (xs.length : Int) = (q : Int) := by
   rw [h4, An9 _ _ (by rw [h3]; simp)]; simp [h3]
  have hm : (i + 1) * b.length ≤ p * b.length := Nat.mul_le_mul_right _ hp.1
  rw [Nat.succ_mul] at hm
  obtain ⟨t1, t2, t3⟩ := Bl1 ha hb ho hT hp.2 hq.2 (by omega)
  refine Ad2 ?_
  simp only [Ab1.l2]
  refine Aa3 (by rw [List.length_map, h2]; simp; omega) (Ad2 ?_)
  simp only [Ab1.j3]
  rw [r1, r2, Ag1 (by omega)]
  refine Aa3 (decide_eq_true (by rw [List.length_map, h3, h4]; simp; omega)) (Aa3 (by omega) (Aa3 (by rw [List.length_map, h2]; simp; omega) (Aa3 (by rw [List.length_map, h3, h4]; simp; omega) (Ac0 (l7Equal_ev ha hb hp.2 hq.2) ?_))))
  rw [Bc6]
  by_cases e : sbL l a p = sbL l b q
  ·rw [if_pos e]
   refine Aa3 (by simpa using e) ?_
   simpa using ih
  ·rw [if_neg e]
   exact Ab5 (by simpa using e) (Aa3 t1 (Aa3 t2 (Ah7 (Aa9 _) t3)))
theorem cell_ev {T : List Bool} {i j : Nat} (hi : i < a.length) (hj : j < b.length) (hT : Be9 l o a b T (i * b.length + j + 1)) : Ev (fun k => Ab1.f k [(⟨l⟩ : S36)] o a b (i : Int) (j : Int) T) (gT l o a b i j) := by
 have hla := ha.len
 have hlb := hb.len
 have hol : o.length ≤ 6 := by have := (Bj4 ho).1; have := ha.sig.len; omega
 have hA := Aw0 ha hb hi
 have hB := Aw0 hb ha hj
 rw [Bn6 ha hb hi hj]
 unfold Ab1.f Bh9
 refine Aa3 (by omega) (Aa3 (by omega) ?_)
 by_cases hy : rd b (j : Int) < 0
 ·rw [if_pos hy]
  refine Aa3 hy (Aa3 (by omega) (Aa3 (by omega) ?_))
  by_cases hx : rd a (i : Int) ≥ 0
  ·rw [if_pos hx]
   obtain ⟨e, he, h1, h2, hs⟩ := Aw3 ha hi
   have e1 := Av7 l ha.sig a (by omega) ha.nodes (a.length - i) i (by omega)
   rw [he] at e1
   obtain ⟨c, hc, hcev⟩ := cmpCount_ev ((a.take e).drop i) (rd b (j : Int)) (by simp only [List.length_drop, List.length_take]; omega)
   refine Aa3 hx (Ac0 e1 (Aa3 (by simp only [Bi8]; omega) (Aa3 (by simp only [Bi8]; omega) ?_)))
   simp only [Bi8, Int.toNat_natCast]
   refine Ac0 hcev (Ah7 (Aa9 _) ?_)
   rw [hs]
   by_cases hm : rd b (j : Int) ∈ (a.take e).drop i
   ·rw [decide_eq_true hm]; exact decide_eq_true (by have := hc.2 hm; omega)
   ·rw [decide_eq_false hm]; exact decide_eq_false (fun h => hm (hc.1 (by omega)))
  ·rw [if_neg hx]; exact Ab5 hx (Aa9 _)
 rw [if_neg hy]
 refine Ab5 hy (Aa3 (by omega) (Aa3 (by omega) ?_))
 by_cases hx : rd a (i : Int) < 0
 ·rw [if_pos hx]; exact Aa3 hx (Aa9 _)
 rw [if_neg hx]
 refine Ab5 hx (Ac0 (starts_ev ha hi hx) ?_)
 obtain ⟨xs, hxs⟩ : ∃ xs, xs = Ai8 (arL l) a i := ⟨_, rfl⟩
 obtain ⟨ys, hys⟩ : ∃ ys, ys = Ai8 (arL l) b j := ⟨_, rfl⟩
 have hlx : xs.length = arL l (rd a (i : Int)) ∧ xs.length ≤ 2 := by
  obtain ⟨e, he, _⟩ := Aw3 ha hi
  rw [hxs, (Am4 hi he).1]; exact ⟨rfl, Bc5 ha.sig (ha.nodes i hi)⟩
 have hly : ys.length = arL l (rd b (j : Int)) ∧ ys.length ≤ 2 := by
  obtain ⟨e, he, _⟩ := Aw3 hb hj
  rw [hys, (Am4 hj he).1]; exact ⟨rfl, Bc5 hb.sig (hb.nodes j hj)⟩
 have h2 : ∀ hxy : rd a (i : Int) = rd b (j : Int), Ev (fun k => Ab1.l2 k [(⟨l⟩ : S36)] a b T (b.length : Int) (xs.map fun p : Nat => (p : Int)) (ys.map fun p : Nat => (p : Int)) 0) (Bc6 l a b (gT l o a b) xs ys) := by
  intro hxy
  have := cell_l2 ha hb ho hi hj hT xs ys [] [] (by rw [hlx.1, hly.1, hxy]) (by rw [← hxs]; simp) (by rw [← hys]; simp) rfl
  rw [← hxs, ← hys] at this
  simpa using this
 have hst := starts_ev hb hj hy
 rw [← hys] at hst
 rw [← hxs, ← hys]
 rw [← hxs] at hA
 rw [← hys] at hB
 have h1 : ∀ (d n : Nat), n + d = ys.length → Ev (fun k => Ab1.l1 k [(⟨l⟩ : S36)] a b (i : Int) (j : Int) T (b.length : Int) (xs.map fun p : Nat => (p : Int)) (ys.map fun p : Nat => (p : Int)) (n : Int))
   (if (ys.drop n).all (fun q => gT l o a b i q) = true then (if rd a (i : Int) = rd b (j : Int) then Bc6 l a b (gT l o a b) xs ys else true) else false) := by
  intro d
  induction d with
  | zero =>
   intro n hn
   refine Ad2 ?_
   simp only [Ab1.l1]
   rw [List.drop_eq_nil_of_le (by omega)]
   refine Ab5 (by rw [List.length_map]; omega) (Aa3 (by omega) (Aa3 (by omega) (Aa3 (by omega) (Aa3 (by omega) ?_))))
   simp only [List.all_nil, if_true]
   by_cases hxy : rd a (i : Int) = rd b (j : Int)
   ·rw [if_pos hxy]; exact Aa3 hxy (h2 hxy)
   ·rw [if_neg hxy]; exact Ab5 hxy (Aa9 _)
  | succ d ih =>
   intro n hn
   have hn2 : n < ys.length := by omega
   have hq := hB _ (List.getElem_mem hn2)
   obtain ⟨t1, t2, t3⟩ := Bl1 ha hb ho hT hi hq.2 (by omega)
   refine Ad2 ?_
   simp only [Ab1.l1]
   have r1 : rd (ys.map fun p : Nat => (p : Int)) (n : Int) = (ys[n] : Int) := by rw [An9 _ _ (by simpa using hn2)]; simp
   rw [r1, Ag1 (by omega), List.drop_eq_getElem_cons hn2, List.all_cons, t3]
   refine Aa3 (by rw [List.length_map]; omega) (Aa3 (by omega) (Aa3 t1 (Aa3 t2 ?_)))
   by_cases hg : gT l o a b i ys[n] = true
   ·rw [hg, Bool.true_and]
    exact Aa3 rfl (ih (n + 1) (by omega))
   ·have hg' : gT l o a b i ys[n] = false := by simpa using hg
    rw [hg', Bool.false_and, if_neg (by simp)]
    exact Ab5 (by simp) (Aa9 _)
 have h0 : ∀ (d n : Nat), n + d = xs.length → Ev (fun k => Ab1.l0 k [(⟨l⟩ : S36)] o a b (i : Int) (j : Int) T (b.length : Int) (xs.map fun p : Nat => (p : Int)) (n : Int))
   (if (xs.drop n).any (fun p => decide (sbL l a p = sbL l b j) || gT l o a b p j) = true then true else (if rkP o (rd a (i : Int)) < rkP o (rd b (j : Int)) then false else if ys.all (fun q => gT l o a b i q) = true then (if rd a (i : Int) = rd b (j : Int) then Bc6 l a b (gT l o a b) xs ys else true) else false)) := by
  intro d
  induction d with
  | zero =>
   intro n hn
   refine Ad2 ?_
   simp only [Ab1.l0]
   rw [List.drop_eq_nil_of_le (by omega)]
   refine Ab5 (by rw [List.length_map]; omega) (Aa3 (by omega) (Aa3 (by omega) (Ac0 (cmpRank_ev o (by omega) _) (Aa3 (by omega) (Aa3 (by omega) (Ac0 (cmpRank_ev o (by omega) _) ?_))))))
   simp only [List.any_nil, Bool.false_eq_true, if_false]
   by_cases hlt : rkP o (rd a (i : Int)) < rkP o (rd b (j : Int))
   ·rw [if_pos hlt]; exact Aa3 hlt (Aa9 _)
   ·rw [if_neg hlt]
    refine Ab5 hlt (Ac0 hst ?_)
    have := h1 ys.length 0 (by omega)
    rwa [List.drop_zero] at this
  | succ d ih =>
   intro n hn
   have hn2 : n < xs.length := by omega
   have hp := hA _ (List.getElem_mem hn2)
   have hm : (i + 1) * b.length ≤ xs[n] * b.length := Nat.mul_le_mul_right _ hp.1
   rw [Nat.succ_mul] at hm
   obtain ⟨t1, t2, t3⟩ := Bl1 ha hb ho hT hp.2 hj (by omega)
   refine Ad2 ?_
   simp only [Ab1.l0]
   have r1 : rd (xs.map fun p : Nat => (p : Int)) (n : Int) = (xs[n] : Int) := by rw [An9 _ _ (by simpa using hn2)]; simp
   rw [r1, Ag1 (by omega), List.drop_eq_getElem_cons hn2, List.any_cons, t3]
   refine Aa3 (by rw [List.length_map]; omega) (Aa3 (by omega) (Aa3 t1 (Aa3 t2 ?_)))
   by_cases hg : gT l o a b xs[n] j = true
   ·refine Aa3 hg (Ah7 (Aa9 _) ?_)
    rw [if_pos (by simp [hg])]
   ·refine Ab5 hg (Ac0 (l7Equal_ev ha hb hp.2 hj) ?_)
    have hg' : gT l o a b xs[n] j = false := by simpa using hg
    by_cases he : sbL l a xs[n] = sbL l b j
    ·refine Aa3 (by simpa using he) (Ah7 (Aa9 _) ?_)
     rw [if_pos (by simp [he])]
    ·refine Ab5 (by simpa using he) (Ah7 (ih (n + 1) (by omega)) ?_)
     simp [he, hg']
 have := h0 xs.length 0 (by omega)
 rw [List.drop_zero] at this
 exact this
theorem tab_row {i : Nat} (hi : i < a.length) (hprev : ∀ T, Be9 l o a b T (i * b.length) → ∃ T', Be9 l o a b T' 0 ∧ Ev (fun k => Af4.l0 k [(⟨l⟩ : S36)] o a b (b.length : Int) T ((i : Int) - 1)) T') :
  ∀ (j : Nat), j ≤ b.length → ∀ T, Be9 l o a b T (i * b.length + j) → ∃ T', Be9 l o a b T' 0 ∧ Ev (fun k => Af4.l1 k [(⟨l⟩ : S36)] o a b (b.length : Int) T (i : Int) ((j : Int) - 1)) T' := by
 have hla := ha.len
 have hlb := hb.len
 intro j
 induction j with
 | zero =>
  intro hj T hT
  obtain ⟨T', h1, h2⟩ := hprev T hT
  refine ⟨T', h1, Ad2 ?_⟩
  simp only [Af4.l1]
  rw [Aj1 (x := (i : Int) - 1) (by omega) (by omega)]
  exact Ab5 (by omega) h2
 | succ j ih =>
  intro hj T hT
  obtain ⟨e, h1, h2⟩ := tab_idx hi (show j < b.length by omega) hla.2 hlb.2
  have hT' : Be9 l o a b (T.set (i * b.length + j) (gT l o a b i j)) (i * b.length + j) := by
   refine ⟨by rw [List.length_set]; exact hT.1, fun p q hp hq hle => ?_⟩
   rw [List.getD_eq_getElem?_getD]
   by_cases hpq : i * b.length + j = p * b.length + q
   ·have hip : i = p := by
     have a1 : (i * b.length + j) / b.length = i := by rw [Nat.mul_comm, Nat.mul_add_div (by omega), Nat.div_eq_of_lt (by omega), Nat.add_zero]
     have a2 : (p * b.length + q) / b.length = p := by rw [Nat.mul_comm, Nat.mul_add_div (by omega), Nat.div_eq_of_lt (by omega), Nat.add_zero]
     rw [← a1, ← a2, hpq]
    subst hip
    have hjq : j = q := by omega
    subst hjq
    rw [List.getElem?_set_self (by rw [hT.1]; exact h1)]
    rfl
   ·rw [List.getElem?_set_ne hpq, ← List.getD_eq_getElem?_getD]
    exact hT.2 p q hp hq (by omega)
  obtain ⟨T', h3, h4⟩ := ih (by omega) _ hT'
  refine ⟨T', h3, Ad2 ?_⟩
  simp only [Af4.l1]
  have ej : ((j + 1 : Nat) : Int) - 1 = (j : Int) := by omega
  rw [ej, e, Aj1 (x := (j : Int) - 1) (by omega) (by omega)]
  refine Aa3 (by omega) (Ac0 (cell_ev ha hb ho hi (by omega) (by rw [Nat.add_assoc]; exact hT)) (Aa3 (by omega) (Aa3 (by rw [hT.1]; omega) ?_)))
  rw [Int.toNat_natCast]
  exact h4
theorem tab_all : ∀ (i : Nat), i ≤ a.length → ∀ T, Be9 l o a b T (i * b.length) → ∃ T', Be9 l o a b T' 0 ∧ Ev (fun k => Af4.l0 k [(⟨l⟩ : S36)] o a b (b.length : Int) T ((i : Int) - 1)) T' := by
 have hla := ha.len
 have hlb := hb.len
 intro i
 induction i with
 | zero =>
  intro hi T hT
  refine ⟨T, by simpa using hT, Ad2 ?_⟩
  simp only [Af4.l0]
  exact Ab5 (by omega) (Aa9 _)
 | succ i ih =>
  intro hi T hT
  rw [Nat.succ_mul] at hT
  obtain ⟨T', h1, h2⟩ := tab_row ha hb ho (show i < a.length by omega) (ih (by omega)) b.length (Nat.le_refl _) T hT
  refine ⟨T', h1, Ad2 ?_⟩
  simp only [Af4.l0]
  have ej : ((i + 1 : Nat) : Int) - 1 = (i : Int) := by omega
  rw [ej, Aj1 (x := (b.length : Int) - 1) (by omega) (by omega)]
  exact Aa3 (by omega) h2
theorem over_ev : Ev (fun k => Ao4.f k [(⟨l⟩ : S36)] o a b) (gT l o a b 0 0) := by
 have hla := ha.len
 have hlb := hb.len
 have hm : a.length * b.length ≤ 24 * 24 := Nat.mul_le_mul hla.2 hlb.2
 have hm1 : 1 * 1 ≤ a.length * b.length := Nat.mul_le_mul hla.1 hlb.1
 have e : (a.length : Int) * (b.length : Int) = ((a.length * b.length : Nat) : Int) := by push_cast; rfl
 obtain ⟨T, h1, h2⟩ := tab_all ha hb ho a.length (Nat.le_refl _) (List.replicate (a.length * b.length) false) ⟨by simp, fun p q hp hq h => by
  have : (p + 1) * b.length ≤ a.length * b.length := Nat.mul_le_mul_right _ hp
  rw [Nat.succ_mul] at this
  omega⟩
 unfold Ao4.f Af4.f
 rw [e, Aj1 (x := ((a.length * b.length : Nat) : Int)) (by omega) (by omega), Aj1 (x := (a.length : Int) - 1) (by omega) (by omega), Int.toNat_natCast]
 refine Ac0 (Aa3 (by omega) (Aa3 (by omega) h2)) (Aa3 (by rw [h1.1]; omega) (Ah7 (Aa9 _) ?_))
 have h3 := h1.2 0 0 (by omega) (by omega) (Nat.zero_le _)
 rw [show (0 : Int) = ((0 : Nat) : Int) from rfl, rdOf_nat]
 simpa using h3
end
end Go.Proofs.YtgichahebemmiaaGreatDoor.Pure
set_option linter.unusedVariables false
namespace Go.Proofs.YtgichahebemmiaaGreatDoor.Pure
open Go.RowKit Go.Proofs.YtgichahebemmiaaGreatDoor.P Go.Proofs.YtgichahebemmiaaGreatDoorW.PrintWords Go.Proofs.YtgichahebemmiaaGreatDoorW.PrintLast Go.Proofs.YtgichahebemmiaaGreatDoor.Base
def orL : List Int → Int
 | [] => 0
 | x :: xs => if x = 0 then orL xs else x
theorem or_ev : ∀ (q p : List Int), p.length + q.length ≤ 1000 → Ev (fun k => Aj4.l0 k 0 (p ++ q) ((p ++ q).length : Int) (p.length : Int)) (orL q)
 | [], p, h => by
  refine Ad2 ?_
  simp only [Aj4.l0]
  exact Ab5 (by simp) (Aa9 _)
 | x :: q, p, h => by
  rw [List.length_cons] at h
  have ih := or_ev q (p ++ [x]) (by rw [List.length_append, List.length_singleton]; omega)
  have r : rd (p ++ x :: q) (p.length : Int) = x := by rw [An9 _ _ (by simp)]; simp
  refine Ad2 ?_
  simp only [Aj4.l0]
  rw [r, Ag1 (by omega)]
  refine Aa3 (by rw [List.length_append, List.length_cons]; omega) (Aa3 (by omega) (Aa3 (by rw [List.length_append, List.length_cons]; omega) ?_))
  rw [orL]
  refine Ap9 (fun h => ?_) (fun h => Aa9 _)
  simpa using ih
theorem first_ev3 (a b c : Int) : Ev (fun k => An0.f k [a, b, c]) (if a = 0 then (if b = 0 then c else b) else a) := by
 unfold An0.f Aj4.f
 have := or_ev [a, b, c] [] (by simp)
 refine Ac0 (a := if a = 0 then (if b = 0 then c else b) else a) (Ah7 this ?_) (Aa9 _)
 simp only [orL]
 by_cases hc : c = 0
 ·rw [if_pos hc, hc]
 ·rw [if_neg hc]
def Az8 (l : List S79) (o a b : List Int) : Int := if a = b then 3 else if gT l o a b 0 0 = true then 1 else if gT l o b a 0 0 = true then 2 else 0
def Be6 (l : List S79) (o a b : List Int) : Int × Int :=
 if Bb5 l o = 0 then (if Al7 l a = 0 then (if Al7 l b = 0 then (0, Az8 l o a b) else (Al7 l b, 0)) else (Al7 l a, 0)) else (Bb5 l o, 0)
theorem ordF_sig {l : List S79} {o : List Int} (h : Bb5 l o = 0) : Ay1 l = 0 := by
 unfold Bb5 at h
 by_cases hs : Ay1 l = 0
 ·exact hs
 ·rw [if_neg hs] at h; exact absurd h hs
theorem l7Compare_ev {l : List S79} {o a b : List Int} (ho : Bb5 l o = 0) (ha : Al7 l a = 0) (hb : Al7 l b = 0) : Ev (fun k => Ao1.f k [(⟨l⟩ : S36)] o a b) (Az8 l o a b) := by
 have hA := Aj2 ha
 have hB := Aj2 hb
 have hla := hA.len
 unfold Ao1.f Az8
 refine Ac0 (l1Same_ev a b (by omega)) ?_
 by_cases e : a = b
 ·rw [if_pos e]; exact Aa3 (by simpa using e) (Aa9 _)
 ·rw [if_neg e]
  refine Ab5 (by simpa using e) (Ac0 (over_ev hA hB ho) (Ap9 (fun _ => Aa9 _) (fun _ => Ac0 (over_ev hB hA ho) (Ap9 (fun _ => Aa9 _) (fun _ => Aa9 _)))))
theorem compareTerms_ev {l : List S79} {o a b : List Int} (ho : Bb5 l o = 0) (ha : Al7 l a = 0) (hb : Al7 l b = 0) : Ev (fun k => Al0.f k l o a b) (Az8 l o a b) := by
 have hA := Aj2 ha
 have hB := Aj2 hb
 have hla := hA.len
 unfold Al0.f Az8
 refine Ac0 (sliceEq_ev a b (by omega)) ?_
 by_cases e : a = b
 ·rw [if_pos e]; exact Aa3 (by simpa using e) (Aa9 _)
 ·rw [if_neg e]
  refine Ab5 (by simpa using e) (Ac0 (isGreater_ev hA hB ho) (Ap9 (fun _ => Aa9 _) (fun _ => Ac0 (isGreater_ev hB hA ho) (Ap9 (fun _ => Aa9 _) (fun _ => Aa9 _)))))
theorem CompareTerms_spec (l : List S79) (o a b : List Int) (ho : o.length ≤ 1048576) (ha : a.length ≤ 1048576) (hb : b.length ≤ 1048576) : Ev (fun k => Ak3.f k l o a b) (Be6 l o a b) := by
 unfold Ak3.f Be6
 refine Ac0 (OrderFault_spec l o ho) (Ap9 (fun h0 => ?_) (fun h => Aa9 _))
 have hs := ordF_sig h0
 have ga : Ay3 l a = Al7 l a := by unfold Al7; rw [if_pos hs]
 have gb : Ay3 l b = Al7 l b := by unfold Al7; rw [if_pos hs]
 refine Ac0 (At3 l (Ar5 l hs) a ha) ?_
 rw [ga]
 refine Ap9 (fun h1 => ?_) (fun h => Aa9 _)
 refine Ac0 (At3 l (Ar5 l hs) b hb) ?_
 rw [gb]
 exact Ap9 (fun h2 => Ac0 (l7Compare_ev h0 h1 h2) (Aa9 _)) (fun h => Aa9 _)
theorem Ap1 (l : List S79) (o a b : List Int) (ho : o.length ≤ 1048576) (ha : a.length ≤ 1048576) (hb : b.length ≤ 1048576) : Ev (fun k => Ae3.f k l o a b) (Be6 l o a b) := by
 unfold Ae3.f Be6
 refine Ac0 (OrderFault_impl l o ho) (Ac0 (TermFault_impl l a ha) (Ac0 (TermFault_impl l b hb) (Ac0 (first_ev3 _ _ _) ?_)))
 by_cases h0 : Bb5 l o = 0
 ·rw [if_pos h0, if_pos h0]
  by_cases h1 : Al7 l a = 0
  ·rw [if_pos h1, if_pos h1]
   by_cases h2 : Al7 l b = 0
   ·rw [if_pos h2]
    exact Aa3 h2 (Ac0 (compareTerms_ev h0 h1 h2) (Aa9 _))
   ·rw [if_neg h2]; exact Ab5 h2 (Aa9 _)
  ·rw [if_neg h1, if_neg h1]; exact Ab5 h1 (Aa9 _)
 ·rw [if_neg h0, if_neg h0]; exact Ab5 h0 (Aa9 _)
end Go.Proofs.YtgichahebemmiaaGreatDoor.Pure
set_option linter.unusedVariables false
set_option linter.unusedSectionVars false
namespace Go.Proofs.YtgichahebemmiaaGreatDoor.Pure
open Go.RowKit Go.Proofs.YtgichahebemmiaaGreatDoor.P Go.Proofs.YtgichahebemmiaaGreatDoorW.PrintWords Go.Proofs.YtgichahebemmiaaGreatDoorW.PrintLast Go.Proofs.YtgichahebemmiaaGreatDoor.Base
theorem Bg8 (l : List S79) : ∀ n : Int, n < 0 → arL l n = 0 := fun n h => by unfold arL; rw [if_pos h]
theorem Bh4 {l : List S79} {a : List Int} {i : Nat} {T : Tr} (h : Bg2 a i T) (hT : T.ok (arL l)) : sbL l a i = T.fl := by
 unfold sbL
 rw [at_skip (Bg8 l) h hT]
 exact at_part h
def rkN (o : List Int) (n : Int) : Nat := (rkP o n).toNat
section
variable {l : List S79} {o a b : List Int} (ha : RightT l a) (hb : RightT l b) (ho : Bb5 l o = 0)
include ha hb ho
theorem lex_tree {g : Nat → Nat → Bool} {R : Tr → Tr → Prop} (hR : ∀ s, ¬ R s s) : ∀ (ps qs : List Nat) (ss ts : List Tr), Aw7 a ps ss → Aw7 b qs ts → oks (arL l) ss → oks (arL l) ts →
  (∀ p q s t, s ∈ ss → t ∈ ts → Bg2 a p s → Bg2 b q t → (g p q = true ↔ R s t)) → (Bc6 l a b g ps qs = true ↔ Bi6 R ss ts)
 | p :: ps, q :: qs, s :: ss, t :: ts, h1, h2, h3, h4, h => by
  rw [Aw7] at h1 h2
  rw [oks] at h3 h4
  have ih := lex_tree hR ps qs ss ts h1.2 h2.2 h3.2 h4.2 (fun p q s t hs ht => h p q s t (by simp [hs]) (by simp [ht]))
  rw [Bc6, Bh4 h1.1 h3.1, Bh4 h2.1 h4.1, Bi6]
  by_cases e : s = t
  ·subst e
   rw [if_pos rfl, ih]
   exact ⟨fun h => .inl ⟨rfl, h⟩, fun h => h.elim (fun h => h.2) (fun h => absurd h (hR _))⟩
  ·rw [if_neg (fun q => e (fl_eq h3.1 h4.1 q)), h p q s t (by simp) (by simp) h1.1 h2.1]
   exact ⟨.inr, fun h => h.elim (fun h => absurd h.1 e) id⟩
 | [], qs, [], ts, h1, h2, h3, h4, h => by
  cases qs <;> cases ts <;> simp [Bc6, Bi6]
 | [], qs, s :: ss, ts, h1, h2, h3, h4, h => by simp [Aw7] at h1
 | p :: ps, qs, [], ts, h1, h2, h3, h4, h => by simp [Aw7] at h1
 | p :: ps, [], s :: ss, [], h1, h2, h3, h4, h => by simp [Bc6, Bi6]
 | p :: ps, [], s :: ss, t :: ts, h1, h2, h3, h4, h => by simp [Aw7] at h2
 | p :: ps, q :: qs, s :: ss, [], h1, h2, h3, h4, h => by simp [Aw7] at h2
theorem gT_tree : ∀ (k : Nat) (T U : Tr) (i j : Nat), T.sz + U.sz ≤ k → Bg2 a i T → Bg2 b j U → T.ok (arL l) → U.ok (arL l) → (gT l o a b i j = true ↔ gt (rkN o) T U) := by
 intro k
 induction k with
 | zero => intro T U i j h; have := T.sz_pos; omega
 | succ k ih =>
  intro T U i j hk hT hU okT okU
  have hi : i < a.length := by have := at_lt hT; have := T.fl_pos; omega
  have hj : j < b.length := by have := at_lt hU; have := U.fl_pos; omega
  rw [Bn6 ha hb hi hj]
  unfold Bh9
  rw [Bh4 hT okT, Bh4 hU okU]
  cases U with
  | v m =>
   have om := okU
   rw [Tr.ok] at om
   rw [Bl2 hU, if_pos om]
   cases T with
   | v n =>
    have on := okT
    rw [Tr.ok] at on
    rw [Bl2 hT, if_neg (by omega)]
    exact ⟨fun h => by simp at h, fun h => absurd h (Aw6 _ _ _)⟩
   | f n ts =>
    have on := okT
    rw [Tr.ok] at on
    rw [Bf6 hT, if_pos (by omega), decide_eq_true_eq, Bk0, mem_fl _ okT m om, Tr.vs]
  | f m us =>
   have om := okU
   rw [Tr.ok] at om
   rw [Bf6 hU, if_neg (by omega)]
   cases T with
   | v n =>
    have on := okT
    rw [Tr.ok] at on
    rw [Bl2 hT, if_pos on]
    exact ⟨fun h => by simp at h, fun h => absurd h (Aw6 _ _ _)⟩
   | f n ts =>
    have on := okT
    rw [Tr.ok] at on
    have hsz : (Tr.f n ts).sz = 1 + szs ts := by rw [Tr.sz]
    have hsz2 : (Tr.f m us).sz = 1 + szs us := by rw [Tr.sz]
    have hA := at_args (Bg8 l) hT okT
    have hB := at_args (Bg8 l) hU okU
    rw [Bf6 hT, if_neg (by omega), Bc3]
    have e1 := ats_any (P := fun p => decide (sbL l a p = (Tr.f m us).fl) || gT l o a b p j) (Q := fun s => s = .f m us ∨ gt (rkN o) s (.f m us)) _ _ hA (fun p s hs hp => by
     have := Ao5 ts s hs
     have oks_ := Bd4 on.2.2 s hs
     rw [Bool.or_eq_true, decide_eq_true_eq, ih s (.f m us) p j (by omega) hp hU oks_ okU, Bh4 hp oks_]
     exact ⟨fun h => h.imp (fl_eq oks_ okU) id, fun h => h.imp (fun e => by rw [e]) id⟩)
    have e2 := ats_all (P := fun q => gT l o a b i q) (Q := fun u => gt (rkN o) (.f n ts) u) _ _ hB (fun q u hu hq => by
     have := Ao5 us u hu
     exact ih (.f n ts) u i q (by omega) hT hq okT (Bd4 om.2.2 u hu))
    have hsn : Ba4 l n = true := by
     have := ha.nodes i hi
     rw [Bf6 hT] at this
     exact Bf8 this (by omega)
    have hsm : Ba4 l m = true := by
     have := hb.nodes j hj
     rw [Bf6 hU] at this
     exact Bf8 this (by omega)
    obtain ⟨p, q, hp, hq, er1, er2, hiff⟩ := rank_facts ha hb ho hsn hsm
    have k1 : rkN o n = p := by unfold rkN; rw [er1]; simp
    have k2 : rkN o m = q := by unfold rkN; rw [er2]; simp
    rw [k1, k2, er1, er2]
    by_cases c1 : (Ai8 (arL l) a i).any (fun p => decide (sbL l a p = (Tr.f m us).fl) || gT l o a b p j) = true
    ·rw [if_pos c1]
     exact ⟨fun _ => .inl (e1.1 c1), fun _ => rfl⟩
    rw [if_neg c1]
    have c1' : ¬ ∃ s ∈ ts, s = .f m us ∨ gt (rkN o) s (.f m us) := fun h => c1 (e1.2 h)
    by_cases c2 : (p : Int) < q
    ·rw [if_pos c2]
     exact ⟨fun h => by simp at h, fun h => h.elim (fun h => absurd h c1') (fun h => by omega)⟩
    rw [if_neg c2]
    by_cases c3 : (Ai8 (arL l) b j).all (fun q => gT l o a b i q) = true
    ·rw [if_pos c3]
     have c3' := e2.1 c3
     by_cases c4 : n = m
     ·rw [if_pos c4]
      have hl := lex_tree ha hb ho (g := gT l o a b) (R := gt (rkN o)) (gt_irrefl _) _ _ _ _ hA hB on.2.2 om.2.2 (fun p q s t hs ht hp hq => by
       have := Ao5 ts s hs
       have := Ao5 us t ht
       exact ih s t p q (by omega) hp hq (Bd4 on.2.2 s hs) (Bd4 om.2.2 t ht))
      rw [hl]
      have hpq := hiff.2 c4
      exact ⟨fun h => .inr ⟨by omega, c3', .inr h⟩, fun h => h.elim (fun h => absurd h c1') (fun h => h.2.2.elim (fun h => by omega) id)⟩
     ·rw [if_neg c4]
      have hpq : p ≠ q := fun e => c4 (hiff.1 e)
      exact ⟨fun _ => .inr ⟨by omega, c3', .inl (by omega)⟩, fun _ => rfl⟩
    ·rw [if_neg c3]
     exact ⟨fun h => by simp at h, fun h => h.elim (fun h => absurd h c1') (fun h => absurd (e2.2 h.2.1) c3)⟩
end
theorem Az4 {l : List S79} {a : List Int} (ha : RightT l a) : ∃ T : Tr, T.ok (arL l) ∧ T.fl = a := tr_of (Bg8 l) (Bd5.1 ha.whole)
theorem Bj6 {l : List S79} {o : List Int} (ho : Bb5 l o = 0) {A B : Tr} (ha : RightT l A.fl) (hb : RightT l B.fl) (oa : A.ok (arL l)) (ob : B.ok (arL l)) : gT l o A.fl B.fl 0 0 = true ↔ gt (rkN o) A B :=
 gT_tree ha hb ho _ A B 0 0 (Nat.le_refl _) (Bg2.top A) (Bg2.top B) oa ob
theorem gT_not {l : List S79} {o a : List Int} (ho : Bb5 l o = 0) (ha : RightT l a) : gT l o a a 0 0 = false := by
 obtain ⟨A, oa, rfl⟩ := Az4 ha
 cases h : gT l o A.fl A.fl 0 0 with
 | false => rfl
 | true => exact absurd ((Bj6 ho ha ha oa oa).1 h) (gt_irrefl _ _)
theorem gT_trans {l : List S79} {o a b c : List Int} (ho : Bb5 l o = 0) (ha : RightT l a) (hb : RightT l b) (hc : RightT l c) (h1 : gT l o a b 0 0 = true) (h2 : gT l o b c 0 0 = true) : gT l o a c 0 0 = true := by
 obtain ⟨A, oa, rfl⟩ := Az4 ha
 obtain ⟨B, ob, rfl⟩ := Az4 hb
 obtain ⟨C, oc, rfl⟩ := Az4 hc
 exact (Bj6 ho ha hc oa oc).2 (gt_trans _ ((Bj6 ho ha hb oa ob).1 h1) ((Bj6 ho hb hc ob oc).1 h2))
end Go.Proofs.YtgichahebemmiaaGreatDoor.Pure
set_option linter.unusedVariables false
namespace Go.Proofs.YtgichahebemmiaaGreatDoor.Pure
open Go.RowKit Go.Proofs.YtgichahebemmiaaGreatDoorW.PrintWords Go.Proofs.YtgichahebemmiaaGreatDoorW.PrintLast Go.Proofs.YtgichahebemmiaaGreatDoor.Base
def Bn4 (x : Int) : Prop := 0 ≤ x ∧ x ≤ 255
theorem Bj0 {xs : List Int} (hx : ∀ x ∈ xs, Bn4 x) (i : Int) (h0 : 0 ≤ i) (h1 : i < xs.length) : Bn4 (rd xs i) := by
 have := hx _ (Bk2 xs i.toNat (by omega))
 rwa [Int.toNat_of_nonneg h0] at this
end Go.Proofs.YtgichahebemmiaaGreatDoor.Pure
set_option linter.unusedVariables false
namespace Go.Proofs.YtgichahebemmiaaGreatDoor.Pure
open Go.RowKit Go.Proofs.YtgichahebemmiaaGreatDoor.P Go.Proofs.YtgichahebemmiaaGreatDoorW.PrintWords Go.Proofs.YtgichahebemmiaaGreatDoorW.PrintLast Go.Proofs.YtgichahebemmiaaGreatDoor.Base
theorem Bb9 {x n : Int} (hx : 0 ≤ x) (hn : 1 ≤ n) : 0 ≤ Int.tmod x n ∧ Int.tmod x n < n := by
 rw [Int.tmod_eq_emod_of_nonneg hx]
 exact ⟨Int.emod_nonneg _ (by omega), Int.emod_lt_of_pos _ (by omega)⟩
structure Code (c : List Int) : Prop where
 bytes : ∀ x ∈ c, Bn4 x
 len : c.length ≤ 2000000
theorem An5 {c : List Int} (hc : Code c) {a n : Int} (ha : 0 ≤ a) (ha' : a ≤ 1000000000000) (hn : n ≤ 1000000) :
  ∃ v, Ad7.f c a n = some (v, a + 1) ∧ (n < 1 → v = 0) ∧ (1 ≤ n → 0 ≤ v ∧ v < n) := by
 unfold Ad7.f
 have e1 : wrap64 (a + 1) = a + 1 := Aj1 (by omega) (by omega)
 have e2 : wrap64 (a + 1 - 1) = a := by rw [Aj1 (by omega) (by omega)]; omega
 simp only [e1, e2]
 by_cases h1 : n < 1
 ·rw [if_pos h1]
  exact ⟨0, rfl, fun _ => rfl, fun h => by omega⟩
 rw [if_neg h1]
 have hl := hc.len
 by_cases h2 : (c.length : Int) = 0
 ·rw [if_pos h2, if_neg (by omega), Aj1 (x := a * 7) (by omega) (by omega)]
  exact ⟨_, rfl, fun h => by omega, fun h => Bb9 (by omega) h⟩
 rw [if_neg h2]
 have hp : 0 < (c.length : Int) := by omega
 obtain ⟨m0, m1⟩ := Bb9 (x := a) (n := (c.length : Int)) ha (by omega)
 have hb := Bj0 hc.bytes _ m0 m1
 have hq : 0 ≤ Int.tdiv a (c.length : Int) ∧ Int.tdiv a (c.length : Int) ≤ a := by
  rw [Int.tdiv_eq_ediv_of_nonneg ha]
  exact ⟨Int.ediv_nonneg ha (by omega), Int.ediv_le_self _ ha⟩
 rw [if_pos m0, if_pos m1]
 generalize rd c (Int.tmod a (c.length : Int)) = b at *
 generalize Int.tdiv a (c.length : Int) = q at *
 unfold Bn4 at hb
 have w1 : wrap64 b = b := Aj1 (by omega) (by omega)
 have w2 : wrap64 q = q := Aj1 (by omega) (by omega)
 have w3 : wrap64 (q * 37) = q * 37 := Aj1 (by omega) (by omega)
 have w4 : wrap64 (b + q * 37) = b + q * 37 := Aj1 (by omega) (by omega)
 by_cases h3 : n > 200
 ·rw [if_pos h3]
  obtain ⟨k0, k1⟩ := Bb9 (x := a + 1) (n := (c.length : Int)) (by omega) (by omega)
  have hd := Bj0 hc.bytes _ k0 k1
  rw [if_pos k0, if_pos k1, if_neg (by omega)]
  generalize rd c (Int.tmod (a + 1) (c.length : Int)) = d at *
  unfold Bn4 at hd
  have w5 : wrap64 d = d := Aj1 (by omega) (by omega)
  have w6 : wrap64 (d * 13) = d * 13 := Aj1 (by omega) (by omega)
  have w7 : wrap64 ((b + q * 37) * 251) = (b + q * 37) * 251 := Aj1 (by omega) (by omega)
  have w8 : wrap64 ((b + q * 37) * 251 + d * 13) = (b + q * 37) * 251 + d * 13 := Aj1 (by omega) (by omega)
  have w9 : wrap64 ((b + q * 37) * 251 + d * 13 + a) = (b + q * 37) * 251 + d * 13 + a := Aj1 (by omega) (by omega)
  simp only [w1, w2, w3, w4, w5, w6, w7, w8, w9]
  exact ⟨_, rfl, fun h => by omega, fun h => Bb9 (by omega) h⟩
 ·rw [if_neg h3, if_neg (by omega)]
  simp only [w1, w2, w3, w4]
  exact ⟨_, rfl, fun h => by omega, fun h => Bb9 (by omega) h⟩
theorem Ao3 {c : List Int} (hc : Code c) {a n : Int} (ha : 0 ≤ a) (ha' : a ≤ 1000000000000) (hn : n ≤ 1000000) :
  ∃ b, Ae1.f c a n = some (b, a + 1) := by
 obtain ⟨v, hv, _⟩ := An5 hc ha ha' hn
 exact ⟨v == 0, by unfold Ae1.f; rw [hv]; rfl⟩
theorem Ap8 {c : List Int} (hc : Code c) {a : Int} (ha : 0 ≤ a) (ha' : a ≤ 1000000000000) (l : List Int) (hl : 0 < l.length) (hl' : l.length ≤ 1000000) :
  ∃ v, Ad8.f c a l = some (v, a + 1) ∧ v ∈ l := by
 obtain ⟨v, hv, _, h⟩ := An5 (n := (l.length : Int)) hc ha ha' (by omega)
 obtain ⟨h0, h1⟩ := h (by omega)
 refine ⟨rd l v, ?_, ?_⟩
 ·unfold Ad8.f
  rw [hv]
  simp only [Option.bind_some]
  rw [if_pos h0, if_pos h1]
 ·have := Bk2 l v.toNat (by omega)
  rwa [Int.toNat_of_nonneg h0] at this
theorem l2Sig_j1 (v : Int) (f : Bool) (c : List Int) (a : Int) (n1 : ByteArray) (i1 : Int) (n2 : ByteArray) (i2 : Int) (n3 : ByteArray) (i3 : Int) (n4 : ByteArray) (i4 : Int) (n5 : ByteArray) (i5 : Int) (n6 : ByteArray) (i6 : Int) :
  ∃ g, Ev (fun k => Ag0.j1 k v f c a n1 i1 n2 i2 n3 i3 n4 i4 n5 i5 n6 i6) (g, a) ∧ 1 ≤ g.length ∧ g.length ≤ 6 := by
 cases f with
 | true =>
  refine ⟨[(⟨n5, i5⟩ : S79), (⟨n4, i4⟩ : S79), (⟨(⟨#[97, 100, 100]⟩ : ByteArray), 2⟩ : S79), (⟨n6, i6⟩ : S79)], Ad2 ?_, by simp, by simp⟩
  simp only [Ag0.j1]
  exact Aa3 (by simp) (Aa9 _)
 | false =>
  by_cases h5 : v = 5
  ·refine ⟨[(⟨n5, i5⟩ : S79), (⟨(⟨#[102]⟩ : ByteArray), 1⟩ : S79), (⟨(⟨#[103]⟩ : ByteArray), 1⟩ : S79)], Ad2 ?_, by simp, by simp⟩
   simp only [Ag0.j1]
   exact Ab5 (by simp) (Aa3 h5 (Aa9 _))
  by_cases h6 : v = 6
  ·refine ⟨[(⟨n5, i5⟩ : S79), (⟨n6, i6⟩ : S79), (⟨n1, i1⟩ : S79), (⟨n3, i3⟩ : S79), (⟨n2, i2⟩ : S79), (⟨n4, i4⟩ : S79)], Ad2 ?_, by simp, by simp⟩
   simp only [Ag0.j1]
   exact Ab5 (by simp) (Ab5 h5 (Aa3 h6 (Aa9 _)))
  ·refine ⟨[(⟨n5, i5⟩ : S79)], Ad2 ?_, by simp, by simp⟩
   simp only [Ag0.j1]
   exact Ab5 (by simp) (Ab5 h5 (Ab5 h6 (Aa9 _)))
theorem Bg5 (v : Int) (f : Bool) (c : List Int) (a : Int) (n1 : ByteArray) (i1 : Int) (n2 : ByteArray) (i2 : Int) (n3 : ByteArray) (i3 : Int) (n4 : ByteArray) (i4 : Int) (n5 : ByteArray) (i5 : Int) (n6 : ByteArray) (i6 : Int) :
  ∃ g, Ev (fun k => Ag0.j0 k v f c a n1 i1 n2 i2 n3 i3 n4 i4 n5 i5 n6 i6) (g, a) ∧ 1 ≤ g.length ∧ g.length ≤ 6 := by
 cases f with
 | true =>
  refine ⟨[(⟨n1, i1⟩ : S79), (⟨n2, i2⟩ : S79), (⟨n3, i3⟩ : S79), (⟨n5, i5⟩ : S79)], Ad2 ?_, by simp, by simp⟩
  simp only [Ag0.j0]
  exact Aa3 (by simp) (Aa9 _)
 | false =>
  by_cases h3 : v = 3
  ·obtain ⟨g, hg, hl⟩ := l2Sig_j1 v (v == 3) c a n1 i1 n2 i2 n3 i3 n4 i4 n5 i5 n6 i6
   refine ⟨g, Ad2 ?_, hl⟩
   simp only [Ag0.j0]
   exact Ab5 (by simp) (Aa3 h3 hg)
  ·obtain ⟨g, hg, hl⟩ := l2Sig_j1 v (v == 4) c a n1 i1 n2 i2 n3 i3 n4 i4 n5 i5 n6 i6
   refine ⟨g, Ad2 ?_, hl⟩
   simp only [Ag0.j0]
   exact Ab5 (by simp) (Ab5 h3 hg)
theorem l2Sig_ex {c : List Int} (hc : Code c) {a : Int} (ha : 0 ≤ a) (ha' : a ≤ 1000000) : ∃ g, Ev (fun k => Ag0.f k c a) (g, a + 1) ∧ 1 ≤ g.length ∧ g.length ≤ 6 := by
 obtain ⟨v, hv, _, h⟩ := An5 hc (a := a) (n := 8) ha (by omega) (by omega)
 unfold Ag0.f
 by_cases h0 : v = 0
 ·obtain ⟨g, hg, hl⟩ := Bg5 v (v == 0) c (a + 1) (⟨#[101]⟩ : ByteArray) 0 (⟨#[105]⟩ : ByteArray) 1 (⟨#[109]⟩ : ByteArray) 2 (⟨#[115, 117, 99]⟩ : ByteArray) 1 (⟨#[97]⟩ : ByteArray) 0 (⟨#[98]⟩ : ByteArray) 0
  exact ⟨g, Ac6 hv (Aa3 h0 hg), hl⟩
 by_cases h1 : v = 1
 ·obtain ⟨g, hg, hl⟩ := Bg5 v (v == 1) c (a + 1) (⟨#[101]⟩ : ByteArray) 0 (⟨#[105]⟩ : ByteArray) 1 (⟨#[109]⟩ : ByteArray) 2 (⟨#[115, 117, 99]⟩ : ByteArray) 1 (⟨#[97]⟩ : ByteArray) 0 (⟨#[98]⟩ : ByteArray) 0
  exact ⟨g, Ac6 hv (Ab5 h0 (Aa3 h1 hg)), hl⟩
 ·obtain ⟨g, hg, hl⟩ := Bg5 v (v == 2) c (a + 1) (⟨#[101]⟩ : ByteArray) 0 (⟨#[105]⟩ : ByteArray) 1 (⟨#[109]⟩ : ByteArray) 2 (⟨#[115, 117, 99]⟩ : ByteArray) 1 (⟨#[97]⟩ : ByteArray) 0 (⟨#[98]⟩ : ByteArray) 0
  exact ⟨g, Ac6 hv (Ab5 h0 (Ab5 h1 hg)), hl⟩
theorem l2Bent_l0 (c : List Int) (a : Int) (n : Nat) (hn : n ≤ 10) : ∀ (d i : Nat) (g : List S79), i + d = n → g.length = n → ∃ g', Ev (fun k => Ad3.l0 k (n : Int) (i : Int) c a g) (g', a) ∧ g'.length = n := by
 intro d
 induction d with
 | zero =>
  intro i g hi hg
  refine ⟨g, Ad2 ?_, hg⟩
  simp only [Ad3.l0]
  exact Ab5 (by omega) (Aa9 _)
 | succ d ih =>
  intro i g hi hg
  obtain ⟨g', h, hl⟩ := ih (i + 1) (g.set ((i : Int)).toNat (⟨(Ac2 g (i : Int)).f0, 1⟩ : S79)) (by omega) (by rw [List.length_set]; exact hg)
  refine ⟨g', Ad2 ?_, hl⟩
  simp only [Ad3.l0]
  refine Aa3 (by omega) (Aa3 (by omega) (Aa3 (by omega) ?_))
  rw [Ag1 (by omega)]
  exact h
theorem l2Bent_l1 (c : List Int) (a : Int) : ∀ (d : Nat) (g : List S79), g.length + d = 7 → ∃ g', Ev (fun k => Ad3.l1 k c a g) (g', a) ∧ g'.length ≤ 7 := by
 intro d
 induction d with
 | zero =>
  intro g hg
  refine ⟨g, Ad2 ?_, by omega⟩
  simp only [Ad3.l1]
  exact Ab5 (by omega) (Aa9 _)
 | succ d ih =>
  intro g hg
  obtain ⟨g', h, hl⟩ := ih (g ++ [(⟨(⟨#[122]⟩ : ByteArray), 0⟩ : S79)]) (by simp; omega)
  refine ⟨g', Ad2 ?_, hl⟩
  simp only [Ad3.l1]
  exact Aa3 (by omega) (Aa3 (by omega) h)
theorem l2Bent_ex {c : List Int} (hc : Code c) {a : Int} (ha : 0 ≤ a) (ha' : a ≤ 100000) : ∃ g b, Ev (fun k => Ad3.f k c a) (g, b) ∧ g.length ≤ 7 ∧ a ≤ b ∧ b ≤ a + 10 := by
 obtain ⟨g, hg, g1, g6⟩ := l2Sig_ex hc ha (by omega)
 obtain ⟨q, hq⟩ := Ao3 hc (a := a + 1) (n := 9) (by omega) (by omega) (by omega)
 unfold Ad3.f
 cases q with
 | false => exact ⟨g, _, Ac0 hg (Ac6 hq (Ab5 (by simp) (Aa9 _))), by omega, by omega, by omega⟩
 | true =>
  obtain ⟨v, hv, _, h⟩ := An5 hc (a := a + 1 + 1) (n := 7) (by omega) (by omega) (by omega)
  by_cases h0 : v = 0
  ·exact ⟨[], _, Ac0 hg (Ac6 hq (Aa3 rfl (Ac6 hv (Aa3 h0 (Aa9 _))))), by simp, by omega, by omega⟩
  have hw : wrap64 ((g.length : Int) - 1) = (g.length : Int) - 1 := Aj1 (by omega) (by omega)
  by_cases h1 : v = 1
  ·refine ⟨g.set (wrap64 ((g.length : Int) - 1)).toNat (⟨(⟨#[97, 98, 99, 100]⟩ : ByteArray), (Ac2 g (wrap64 ((g.length : Int) - 1))).f1⟩ : S79), a + 1 + 1 + 1, Ac0 hg (Ac6 hq (Aa3 rfl (Ac6 hv (Ab5 h0 (Aa3 h1 ?_))))), by rw [List.length_set]; omega, by omega, by omega⟩
   simp only
   exact Aa3 (by omega) (Aa3 (by omega) (Aa9 _))
  obtain ⟨i, hi, _, hb⟩ := An5 hc (a := a + 1 + 1 + 1) (n := (g.length : Int)) (by omega) (by omega) (by omega)
  obtain ⟨i0, i1⟩ := hb (by omega)
  by_cases h2 : v = 2
  ·refine ⟨g.set (i : Int).toNat (⟨(⟨#[97, 66]⟩ : ByteArray), (Ac2 g i).f1⟩ : S79), a + 1 + 1 + 1 + 1, Ac0 hg (Ac6 hq (Aa3 rfl (Ac6 hv (Ab5 h0 (Ab5 h1 (Aa3 h2 (Ac6 hi ?_))))))), by rw [List.length_set]; omega, by omega, by omega⟩
   simp only
   exact Aa3 i0 (Aa3 i1 (Aa9 _))
  by_cases h3 : v = 3
  ·obtain ⟨u, hu, _⟩ := Ap8 hc (a := a + 1 + 1 + 1 + 1) (by omega) (by omega) [3, (-1)] (by simp) (by simp)
   refine ⟨g.set (i : Int).toNat (⟨(Ac2 g i).f0, u⟩ : S79), a + 1 + 1 + 1 + 1 + 1, Ac0 hg (Ac6 hq (Aa3 rfl (Ac6 hv (Ab5 h0 (Ab5 h1 (Ab5 h2 (Aa3 h3 (Ac6 hi (Ac6 hu ?_))))))))), by rw [List.length_set]; omega, by omega, by omega⟩
   simp only
   exact Aa3 i0 (Aa3 i1 (Aa9 _))
  by_cases h4 : v = 4
  ·refine ⟨g ++ [(⟨(Ac2 g 0).f0, (Ac2 g 0).f1⟩ : S79)], a + 1 + 1 + 1, Ac0 hg (Ac6 hq (Aa3 rfl (Ac6 hv (Ab5 h0 (Ab5 h1 (Ab5 h2 (Ab5 h3 (Aa3 h4 ?_)))))))), by simp; omega, by omega, by omega⟩
   simp only
   exact Aa3 (by omega) (Aa3 (by omega) (Aa9 _))
  by_cases h5 : v = 5
  ·obtain ⟨g', hg', hl⟩ := l2Bent_l0 c (a + 1 + 1 + 1) g.length (by omega) g.length 0 g (by omega) rfl
   exact ⟨g', _, Ac0 hg (Ac6 hq (Aa3 rfl (Ac6 hv (Ab5 h0 (Ab5 h1 (Ab5 h2 (Ab5 h3 (Ab5 h4 (Aa3 h5 hg'))))))))), by omega, by omega, by omega⟩
  ·obtain ⟨g', hg', hl⟩ := l2Bent_l1 c (a + 1 + 1 + 1) (7 - g.length) g (by omega)
   exact ⟨g', _, Ac0 hg (Ac6 hq (Aa3 rfl (Ac6 hv (Ab5 h0 (Ab5 h1 (Ab5 h2 (Ab5 h3 (Ab5 h4 (Ab5 h5 hg'))))))))), hl, by omega, by omega⟩
theorem l2Rise_l0 (n : Nat) (hn : n ≤ 10) : ∀ (d i : Nat) (x : List Int), i + d = n → x.length = i → ∃ y, Ev (fun k => Aj5.l0 k (n : Int) x (i : Int)) y ∧ y.length = n := by
 intro d
 induction d with
 | zero =>
  intro i x hi hx
  refine ⟨x, Ad2 ?_, by omega⟩
  simp only [Aj5.l0]
  exact Ab5 (by omega) (Aa9 _)
 | succ d ih =>
  intro i x hi hx
  obtain ⟨y, h, hl⟩ := ih (i + 1) (x ++ [(i : Int)]) (by omega) (by simp [hx])
  refine ⟨y, Ad2 ?_, hl⟩
  simp only [Aj5.l0]
  refine Aa3 (by omega) (Aa3 (by omega) ?_)
  rw [Ag1 (by omega)]
  exact h
theorem l2DrawOrder_l0 {c : List Int} (hc : Code c) : ∀ (n : Nat) (x : List Int) (a : Int), 0 ≤ a → a + n ≤ 100000 → x.length ≤ 10 → ∃ y b, Ev (fun k => Af2.l0 k x (n : Int) c a) (y, b) ∧ y.length = x.length ∧ a ≤ b ∧ b ≤ a + n := by
 intro n
 induction n with
 | zero =>
  intro x a h0 h1 hx
  refine ⟨x, a, Ad2 ?_, rfl, by omega, by omega⟩
  simp only [Af2.l0]
  exact Ab5 (by omega) (Aa9 _)
 | succ n ih =>
  intro x a h0 h1 hx
  by_cases h : (x.length : Int) > 1
  ·obtain ⟨i, hi, _, hb⟩ := An5 hc (a := a) (n := (x.length : Int) - 1) h0 (by omega) (by omega)
   obtain ⟨i0, i1⟩ := hb (by omega)
   have hw : wrap64 ((x.length : Int) - 1) = (x.length : Int) - 1 := Aj1 (by omega) (by omega)
   have hw1 : wrap64 (i + 1) = i + 1 := Aj1 (by omega) (by omega)
   have hw2 : wrap64 (((n + 1 : Nat) : Int) - 1) = (n : Int) := by rw [Aj1 (by omega) (by omega)]; omega
   obtain ⟨y, b, hy, hl, b0, b1⟩ := ih ((x.set (i : Int).toNat (rd x (i + 1))).set (i + 1 : Int).toNat (rd x i)) (a + 1) (by omega) (by omega) (by simp only [List.length_set]; omega)
   refine ⟨y, b, Ad2 ?_, by rw [hl]; simp only [List.length_set], by omega, by omega⟩
   simp only [Af2.l0, hw]
   refine Aa3 (by omega) (Aa3 h (Ac6 hi ?_))
   simp only [hw1, hw2]
   exact Aa3 i0 (Aa3 (by omega) (Aa3 (by omega) (Aa3 (by omega) hy)))
  ·refine ⟨x, a, Ad2 ?_, rfl, by omega, by omega⟩
   simp only [Af2.l0]
   exact Aa3 (by omega) (Ab5 h (Aa9 _))
theorem l2DrawOrder_ex {c : List Int} (hc : Code c) {a : Int} (ha : 0 ≤ a) (ha' : a ≤ 10000) (g : List S79) (hg : g.length ≤ 7) : ∃ y b, Ev (fun k => Af2.f k c a g) (y, b) ∧ y.length = g.length ∧ a ≤ b ∧ b ≤ a + 10 := by
 unfold Af2.f Aj5.f
 obtain ⟨x, hx, hxl⟩ := l2Rise_l0 g.length (by omega) g.length 0 [] (by omega) rfl
 obtain ⟨v, hv, _, h⟩ := An5 hc (a := a) (n := 4) ha (by omega) (by omega)
 obtain ⟨v0, v1⟩ := h (by omega)
 obtain ⟨n, rfl⟩ := Int.eq_ofNat_of_zero_le v0
 obtain ⟨y, b, hy, hl, b0, b1⟩ := l2DrawOrder_l0 hc n x (a + 1) (by omega) (by omega) (by omega)
 exact ⟨y, b, Ac0 hx (Ac6 hv hy), by omega, by omega, by omega⟩
theorem l2BentOrder_ex {c : List Int} (hc : Code c) {a : Int} (ha : 0 ≤ a) (ha' : a ≤ 10000) (g : List S79) (hg : g.length ≤ 7) : ∃ y b, Ev (fun k => Af5.f k c a g) (y, b) ∧ y.length ≤ 7 ∧ a ≤ b ∧ b ≤ a + 20 := by
 obtain ⟨x, b, hx, hxl, b0, b1⟩ := l2DrawOrder_ex hc ha ha' g hg
 unfold Af5.f
 by_cases h1 : (x.length : Int) < 1
 ·refine ⟨x, b, Ac0 hx (Aa3 h1 (Ad2 ?_)), by omega, by omega, by omega⟩
  simp only [Af5.j0]
  exact Aa3 (by simp) (Aa9 _)
 obtain ⟨q, hq⟩ := Ao3 hc (a := b) (n := 10) (by omega) (by omega) (by omega)
 cases q with
 | false =>
  refine ⟨x, b + 1, Ac0 hx (Ab5 h1 (Ac6 hq (Ad2 ?_))), by omega, by omega, by omega⟩
  simp only [Af5.j0]
  exact Aa3 (by simp) (Aa9 _)
 | true =>
  obtain ⟨v, hv, _, h⟩ := An5 hc (a := b + 1) (n := 3) (by omega) (by omega) (by omega)
  by_cases h0 : v = 0
  ·refine ⟨x.drop (1 : Int).toNat, b + 1 + 1, Ac0 hx (Ab5 h1 (Ac6 hq (Ad2 ?_))), by rw [List.length_drop]; omega, by omega, by omega⟩
   simp only [Af5.j0]
   exact Ab5 (by simp) (Ac6 hv (Aa3 h0 (Aa3 (by omega) (Aa9 _))))
  by_cases h2 : v = 1
  ·obtain ⟨u, hu, _⟩ := Ap8 hc (a := b + 1 + 1) (by omega) (by omega) [6, (-1)] (by simp) (by simp)
   refine ⟨x.set (0 : Int).toNat u, b + 1 + 1 + 1, Ac0 hx (Ab5 h1 (Ac6 hq (Ad2 ?_))), by rw [List.length_set]; omega, by omega, by omega⟩
   simp only [Af5.j0]
   exact Ab5 (by simp) (Ac6 hv (Ab5 h0 (Aa3 h2 (Ac6 hu (Aa3 (by omega) (Aa9 _))))))
  ·have hw : wrap64 ((x.length : Int) - 1) = (x.length : Int) - 1 := Aj1 (by omega) (by omega)
   refine ⟨x.set (0 : Int).toNat (rd x ((x.length : Int) - 1)), b + 1 + 1, Ac0 hx (Ab5 h1 (Ac6 hq (Ad2 ?_))), by rw [List.length_set]; omega, by omega, by omega⟩
   simp only [Af5.j0, hw]
   exact Ab5 (by simp) (Ac6 hv (Ab5 h0 (Ab5 h2 (Aa3 (by omega) (Aa3 (by omega) (Aa3 (by omega) (Aa9 _)))))))
theorem zero_of (l : List S79) (h : Ay1 l = 0) : ∃ z : Nat, z < l.length ∧ (Ac2 l (z : Int)).f1 = 0 := by
 unfold Ay1 at h
 by_cases h1 : l.length < 1 ∨ l.length > 6
 ·rw [if_pos h1] at h; omega
 rw [if_neg h1] at h
 rcases scanN_cases (Ar4 l) (Av3 (Ap0 l) (if Ay5 l = true then 0 else 4) l.length 0) l.length 0 with ⟨h2, h3⟩ | ⟨j, _, _, h3⟩
 ·rw [h3] at h
  rcases scanN_cases (Ap0 l) (if Ay5 l = true then 0 else 4) l.length 0 with ⟨h4, h5⟩ | ⟨j, _, _, h5⟩
  ·rw [h5] at h
   by_cases hz : Ay5 l = true
   ·unfold Ay5 at hz
    cases hf : Ak6 (fun j => (Ac2 l (j : Int)).f1 == 0) l.length 0 with
    | none => rw [hf] at hz; cases hz
    | some j =>
     obtain ⟨_, hj, hp, _⟩ := Ax3 _ _ _ hf
     exact ⟨j, by omega, by simpa using hp⟩
   ·rw [if_neg hz] at h; omega
  ·rw [h] at h5
   unfold Ap0 at h5
   by_cases hd : Bm5 l j = true
   ·rw [if_pos hd] at h5; cases h5
   ·rw [if_neg hd] at h5; cases h5
 ·rw [h] at h3
  unfold Ar4 at h3
  by_cases hn : Ba2 (Ac2 l (j : Int)).f0 = true
  ·rw [if_pos hn] at h3
   by_cases ha : 0 ≤ (Ac2 l (j : Int)).f1 ∧ (Ac2 l (j : Int)).f1 ≤ 2
   ·rw [if_pos ha] at h3; cases h3
   ·rw [if_neg ha] at h3; cases h3
  ·rw [if_neg hn] at h3; cases h3
theorem Ax7 (l : List S79) : (Ad6 [(⟨l⟩ : S36)] 0).f0 = l := rfl
theorem l3Draw_l0 {l : List S79} (hl : 1 ≤ l.length ∧ l.length ≤ 6) (m v : Int) (c : List Int) (a : Int) : ∀ (d i n e : Nat), i + d = l.length → n < l.length → e < d → (Ac2 l (((n + e) % l.length : Nat) : Int)).f1 < m →
  ∃ n' : Nat, n' < l.length ∧ (Ac2 l (n' : Int)).f1 < m ∧ ∀ r, Ev (fun k => Ab6.j2 k [(⟨l⟩ : S36)] m v (l.length : Int) (n' : Int) c a) r → Ev (fun k => Ab6.l0 k [(⟨l⟩ : S36)] m v (l.length : Int) (n : Int) (i : Int) c a) r := by
 intro d
 induction d with
 | zero => intro i n e hi hn he; omega
 | succ d ih =>
  intro i n e hi hn he hlt
  by_cases h : (Ac2 l (n : Int)).f1 ≥ m
  ·have he0 : e ≠ 0 := by
    intro e0
    subst e0
    rw [Nat.add_zero, Nat.mod_eq_of_lt hn] at hlt
    omega
   obtain ⟨n', h1, h2, h3⟩ := ih (i + 1) ((n + 1) % l.length) (e - 1) (by omega) (Nat.mod_lt _ (by omega)) (by omega) (by
    rw [Nat.mod_add_mod, show n + 1 + (e - 1) = n + e by omega]; exact hlt)
   refine ⟨n', h1, h2, fun r hr => ?_⟩
   have hq := h3 r hr
   refine Ad2 ?_
   simp only [Ab6.l0, Ax7]
   refine Aa3 (by omega) (Aa3 (by simp) (Aa3 (by omega) (Aa3 (by omega) (Aa3 h (Ab5 (by omega) ?_)))))
   rw [Ag1 (i := n) (by omega), Ag1 (i := i) (by omega), show Int.tmod ((n + 1 : Nat) : Int) (l.length : Int) = (((n + 1) % l.length : Nat) : Int) by rw [Int.tmod_eq_emod_of_nonneg (by omega)]; omega]
   exact hq
  ·refine ⟨n, hn, by omega, fun r hr => Ad2 ?_⟩
   simp only [Ab6.l0, Ax7]
   exact Aa3 (by omega) (Aa3 (by simp) (Aa3 (by omega) (Aa3 (by omega) (Ab5 h hr))))
theorem l3Draw_j2 {l : List S79} (hl : 1 ≤ l.length ∧ l.length ≤ 6) (m v : Int) (c : List Int) (a : Int) (n : Nat) (hn : n < l.length) (hlt : (Ac2 l (n : Int)).f1 < m) (r : List Int × Int)
  (hr : Ev (fun k => Ab6.j4 k [(⟨l⟩ : S36)] m v (n : Int) c a) r) : Ev (fun k => Ab6.j2 k [(⟨l⟩ : S36)] m v (l.length : Int) (n : Int) c a) r := by
 refine Ad2 ?_
 simp only [Ab6.j2]
 by_cases h : m < 2
 ·refine Aa3 h (Ad2 ?_)
  simp only [Ab6.l1, Ax7]
  exact Aa3 (by omega) (Aa3 (by simp) (Aa3 (by omega) (Aa3 (by omega) (Ab5 (by omega) hr))))
 ·exact Ab5 h hr
theorem Ax9 {c : List Int} (hc : Code c) {l : List S79} (hr : Right l) (hz : ∃ z : Nat, z < l.length ∧ (Ac2 l (z : Int)).f1 = 0) (v : Int) (hv : v ≤ 1000) : ∀ (m : Nat), 1 ≤ m → m ≤ 1000 → ∀ a : Int, 0 ≤ a → a + 3 * m ≤ 1000000 →
  ∃ t b, Ev (fun k => Ab6.f k c a [(⟨l⟩ : S36)] (m : Int) v) (t, b) ∧ 1 ≤ t.length ∧ t.length ≤ m ∧ a ≤ b ∧ b ≤ a + 3 * t.length := by
 intro m
 induction m using Nat.strongRecOn with
 | _ m ih =>
  intro m1 m2 a a0 a1
  have hl := hr.len
  -- behind the choice of the first node
  have hj4 : ∀ (n : Nat) (b : Int), n < l.length → (Ac2 l (n : Int)).f1 < (m : Int) → a ≤ b → b ≤ a + 3 → ∃ t b', Ev (fun k => Ab6.j4 k [(⟨l⟩ : S36)] (m : Int) v (n : Int) c b) (t, b') ∧ 1 ≤ t.length ∧ t.length ≤ m ∧ b ≤ b' ∧ b' + 3 ≤ b + 3 * t.length := by
   intro n b hn hlt hab hb
   obtain ⟨r0, r1⟩ := hr.arities n hn
   by_cases h1 : (Ac2 l (n : Int)).f1 = 1
   ·obtain ⟨t, b', ht, l1, l2, b0, b1⟩ := ih (m - 1) (by omega) (by omega) (by omega) b (by omega) (by omega)
    refine ⟨[(n : Int)] ++ t, b', Ad2 ?_, by simp, by simp; omega, by omega, by simp; omega⟩
    simp only [Ab6.j4, Ax7, Option.bind_some]
    refine Aa3 (by simp) (Aa3 (by omega) (Aa3 (by omega) (Aa3 h1 ?_)))
    rw [Aj1 (x := (m : Int) - 1) (by omega) (by omega), show (m : Int) - 1 = ((m - 1 : Nat) : Int) by omega]
    exact Ac0 ht (Aa3 (by simp; omega) (Aa9 _))
   by_cases h2 : (Ac2 l (n : Int)).f1 = 2
   ·obtain ⟨t, b', ht, l1, l2, b0, b1⟩ := ih (m - 2) (by omega) (by omega) (by omega) b (by omega) (by omega)
    obtain ⟨u, b'', hu, k1, k2, d0, d1⟩ := ih (m - 1 - t.length) (by omega) (by omega) (by omega) b' (by omega) (by omega)
    refine ⟨([(n : Int)] ++ t) ++ u, b'', Ad2 ?_, by simp only [List.length_append, List.length_singleton]; omega, by simp only [List.length_append, List.length_singleton]; omega, by omega, by simp only [List.length_append, List.length_singleton]; omega⟩
    simp only [Ab6.j4, Ax7, Option.bind_some]
    refine Aa3 (by simp) (Aa3 (by omega) (Aa3 (by omega) (Ab5 h1 (Aa3 h2 ?_))))
    rw [Aj1 (x := (m : Int) - 2) (by omega) (by omega), show (m : Int) - 2 = ((m - 2 : Nat) : Int) by omega, Aj1 (x := (m : Int) - 1) (by omega) (by omega)]
    refine Ac0 ht (Aa3 (by simp; omega) ?_)
    simp only
    rw [Aj1 (x := (m : Int) - 1 - (t.length : Int)) (by omega) (by omega), show (m : Int) - 1 - (t.length : Int) = ((m - 1 - t.length : Nat) : Int) by omega]
    exact Ac0 hu (Aa3 (by simp; omega) (Aa9 _))
   ·refine ⟨[(n : Int)], b, Ad2 ?_, by simp, by simp; omega, by omega, by simp⟩
    simp only [Ab6.j4, Ax7, Option.bind_some]
    exact Aa3 (by simp) (Aa3 (by omega) (Aa3 (by omega) (Ab5 h1 (Ab5 h2 (Aa9 _)))))
  have hj0 : ∀ (q : Bool) (b : Int), a ≤ b → b ≤ a + 2 → ∃ t b', Ev (fun k => Ab6.j0 k [(⟨l⟩ : S36)] (m : Int) v q c b) (t, b') ∧ 1 ≤ t.length ∧ t.length ≤ m ∧ b ≤ b' ∧ b' + 2 ≤ b + 3 * t.length := by
   intro q b hab hb
   cases q with
   | true =>
    obtain ⟨x, hx, _⟩ := An5 hc (a := b) (n := v) (by omega) (by omega) (by omega)
    refine ⟨[wrap64 ((-1) - x)], b + 1, Ad2 ?_, by simp, by simp; omega, by omega, by simp; omega⟩
    simp only [Ab6.j0]
    exact Aa3 (by simp) (Ac6 hx (Aa9 _))
   | false =>
    obtain ⟨x, hx, _, hb2⟩ := An5 hc (a := b) (n := (l.length : Int)) (by omega) (by omega) (by omega)
    obtain ⟨x0, x1⟩ := hb2 (by omega)
    obtain ⟨n, rfl⟩ := Int.eq_ofNat_of_zero_le x0
    obtain ⟨z, hz1, hz2⟩ := hz
    have hmod : (n + (z + l.length - n) % l.length) % l.length = z := by
     rw [Nat.add_mod_mod, show n + (z + l.length - n) = z + l.length by omega, Nat.add_mod_right, Nat.mod_eq_of_lt hz1]
    obtain ⟨n', h1, h2, h3⟩ := l3Draw_l0 hl (m : Int) v c (b + 1) l.length 0 n ((z + l.length - n) % l.length) (by omega) (by omega) (Nat.mod_lt _ (by omega)) (by rw [hmod]; omega)
    obtain ⟨t, b', ht, l1, l2, b0, b1⟩ := hj4 n' (b + 1) h1 h2 (by omega) (by omega)
    refine ⟨t, b', Ad2 ?_, l1, l2, by omega, by omega⟩
    simp only [Ab6.j0, Ax7]
    exact Ab5 (by simp) (Aa3 (by simp) (Ac6 hx (h3 _ (l3Draw_j2 hl (m : Int) v c (b + 1) n' h1 h2 _ ht))))
  by_cases h1 : v > 0
  ·by_cases h2 : (m : Int) < 2
   ·obtain ⟨q, hq⟩ := Ao3 hc (a := a) (n := 2) a0 (by omega) (by omega)
    cases q with
    | true =>
     obtain ⟨t, b', ht, l1, l2, b0, b1⟩ := hj0 true (a + 1) (by omega) (by omega)
     refine ⟨t, b', Ad2 ?_, l1, l2, by omega, by omega⟩
     simp only [Ab6.f]
     exact Aa3 h1 (Aa3 h2 (Ac6 hq (Aa3 rfl ht)))
    | false =>
     obtain ⟨q2, hq2⟩ := Ao3 hc (a := a + 1) (n := 4) (by omega) (by omega) (by omega)
     obtain ⟨t, b', ht, l1, l2, b0, b1⟩ := hj0 q2 (a + 1 + 1) (by omega) (by omega)
     refine ⟨t, b', Ad2 ?_, l1, l2, by omega, by omega⟩
     simp only [Ab6.f]
     exact Aa3 h1 (Aa3 h2 (Ac6 hq (Ab5 (by simp) (Ac6 hq2 ht))))
   ·obtain ⟨q2, hq2⟩ := Ao3 hc (a := a) (n := 4) (by omega) (by omega) (by omega)
    obtain ⟨t, b', ht, l1, l2, b0, b1⟩ := hj0 q2 (a + 1) (by omega) (by omega)
    refine ⟨t, b', Ad2 ?_, l1, l2, by omega, by omega⟩
    simp only [Ab6.f]
    exact Aa3 h1 (Ab5 h2 (Ac6 hq2 ht))
  ·obtain ⟨t, b', ht, l1, l2, b0, b1⟩ := hj0 false a (by omega) (by omega)
   refine ⟨t, b', Ad2 ?_, l1, l2, by omega, by omega⟩
   simp only [Ab6.f]
   exact Ab5 h1 ht
theorem l3Bent_l0 {c : List Int} (hc : Code c) : ∀ (d i : Nat) (x : List Int) (a : Int), i + d = 25 → x.length ≤ i → 0 ≤ a → a + 2 * d ≤ 1000000 → ∃ t b, Ev (fun k => Aa8.l0 k x (i : Int) c a) (t, b) ∧ t.length ≤ 25 ∧ a ≤ b ∧ b ≤ a + 2 * d + 1 := by
 intro d
 induction d with
 | zero =>
  intro i x a hi hx h0 h1
  obtain ⟨u, hu, hm⟩ := Ap8 hc (a := a) h0 (by omega) [24, 25] (by simp) (by simp)
  refine ⟨x, a + 1, Ad2 ?_, by omega, by omega, by omega⟩
  simp only [Aa8.l0]
  have : u = 24 ∨ u = 25 := by simpa using hm
  exact Ac6 hu (Ab5 (by simp only; omega) (Aa9 _))
 | succ d ih =>
  intro i x a hi hx h0 h1
  obtain ⟨u, hu, hm⟩ := Ap8 hc (a := a) h0 (by omega) [24, 25] (by simp) (by simp)
  by_cases h : (i : Int) < u
  ·obtain ⟨y, hy, _⟩ := Ap8 hc (a := a + 1) (by omega) (by omega) [1, 2, 0] (by simp) (by simp)
   obtain ⟨t, b, ht, l1, b0, b1⟩ := ih (i + 1) (x ++ [y]) (a + 1 + 1) (by omega) (by simp; omega) (by omega) (by omega)
   refine ⟨t, b, Ad2 ?_, l1, by omega, by omega⟩
   simp only [Aa8.l0]
   refine Ac6 hu (Aa3 h (Ac6 hy (Aa3 (by omega) ?_)))
   rw [Ag1 (by omega)]
   exact ht
  ·refine ⟨x, a + 1, Ad2 ?_, by omega, by omega, by omega⟩
   simp only [Aa8.l0]
   exact Ac6 hu (Ab5 h (Aa9 _))
theorem Ay9 {c : List Int} (hc : Code c) (l : List S79) (hl : l.length ≤ 7) (m : Nat) (m1 : 1 ≤ m) (m2 : m ≤ 100) (v : Int) (hv : v ≤ 1000) {a : Int} (a0 : 0 ≤ a) (a1 : a ≤ 10000) :
  ∃ t b, Ev (fun k => Aa8.f k c a [(⟨l⟩ : S36)] (m : Int) v) (t, b) ∧ t.length ≤ 110 ∧ a ≤ b ∧ b ≤ a + 400 := by
 have htrue : ∃ t b, Ev (fun k => Aa8.j0 k [(⟨l⟩ : S36)] (m : Int) v true c a) (t, b) ∧ t.length ≤ 110 ∧ a ≤ b ∧ b ≤ a + 400 := by
  refine ⟨[0], a, Ad2 ?_, by simp, by omega, by omega⟩
  simp only [Aa8.j0]
  exact Aa3 (by simp) (Aa9 _)
 unfold Aa8.f
 simp only [Ax7]
 by_cases h1 : (l.length : Int) < 1
 ·obtain ⟨t, b, ht, h⟩ := htrue
  exact ⟨t, b, Aa3 (by simp) (Aa3 h1 ht), h⟩
 have hS := Am1 l
 by_cases hs : Ay1 l = 0
 ·have hr := Ar5 l hs
  have hz := zero_of l hs
  rw [hs] at hS
  obtain ⟨t, b, ht, l1, l2, b0, b1⟩ := Ax9 hc hr hz v hv m m1 (by omega) a a0 (by omega)
  obtain ⟨q, hq⟩ := Ao3 hc (a := b) (n := 11) (by omega) (by omega) (by omega)
  have key : ∃ t' b', Ev (fun k => Aa8.j0 k [(⟨l⟩ : S36)] (m : Int) v false c a) (t', b') ∧ t'.length ≤ 110 ∧ a ≤ b' ∧ b' ≤ a + 400 := by
   cases q with
   | false =>
    refine ⟨t, b + 1, Ad2 ?_, by omega, by omega, by omega⟩
    simp only [Aa8.j0]
    exact Ab5 (by simp) (Ac0 ht (Ac6 hq (Ab5 (by simp) (Aa9 _))))
   | true =>
    obtain ⟨x, hx, _, hb⟩ := An5 hc (a := b + 1) (n := 4) (by omega) (by omega) (by omega)
    obtain ⟨x0, x1⟩ := hb (by omega)
    have hw : wrap64 ((t.length : Int) - 1) = (t.length : Int) - 1 := Aj1 (by omega) (by omega)
    by_cases e0 : x = 0
    ·refine ⟨t.take ((t.length : Int) - 1).toNat, b + 1 + 1, Ad2 ?_, by rw [List.length_take]; omega, by omega, by omega⟩
     simp only [Aa8.j0]
     refine Ab5 (by simp) (Ac0 ht (Ac6 hq (Aa3 rfl (Ac6 hx (Aa3 e0 ?_)))))
     simp only [hw]
     exact Aa3 (by omega) (Aa3 (by omega) (Aa9 _))
    by_cases e1 : x = 1
    ·refine ⟨t ++ [0], b + 1 + 1, Ad2 ?_, by simp; omega, by omega, by omega⟩
     simp only [Aa8.j0]
     exact Ab5 (by simp) (Ac0 ht (Ac6 hq (Aa3 rfl (Ac6 hx (Ab5 e0 (Aa3 e1 (Aa3 (by simp only; omega) (Aa9 _))))))))
    by_cases e2 : x = 2
    ·obtain ⟨i, hi, _, hbi⟩ := An5 hc (a := b + 1 + 1) (n := (t.length : Int)) (by omega) (by omega) (by omega)
     obtain ⟨i0, i1⟩ := hbi (by omega)
     obtain ⟨y, hy, _⟩ := Ap8 hc (a := b + 1 + 1 + 1) (by omega) (by omega) [(l.length : Int), (-13), (-12)] (by simp) (by simp)
     refine ⟨t.set i.toNat y, b + 1 + 1 + 1 + 1, Ad2 ?_, by rw [List.length_set]; omega, by omega, by omega⟩
     simp only [Aa8.j0, Ax7]
     exact Ab5 (by simp) (Ac0 ht (Ac6 hq (Aa3 rfl (Ac6 hx (Ab5 e0 (Ab5 e1 (Aa3 e2 (Ac6 hi (Aa3 (by simp) (Ac6 hy (Aa3 i0 (Aa3 i1 (Aa9 _)))))))))))))
    ·obtain ⟨u, b', hu, u1, b2, b3⟩ := l3Bent_l0 hc 25 0 [] (b + 1 + 1) (by omega) (by simp) (by omega) (by omega)
     refine ⟨u, b', Ad2 ?_, by omega, by omega, by omega⟩
     simp only [Aa8.j0]
     exact Ab5 (by simp) (Ac0 ht (Ac6 hq (Aa3 rfl (Ac6 hx (Ab5 e0 (Ab5 e1 (Ab5 e2 hu)))))))
  obtain ⟨t', b', ht', h⟩ := key
  exact ⟨t', b', Aa3 (by simp) (Ab5 h1 (Ac0 hS ht')), h⟩
 ·obtain ⟨t, b, ht, h⟩ := htrue
  refine ⟨t, b, Aa3 (by simp) (Ab5 h1 (Ac0 hS ?_)), h⟩
  have : (Ay1 l != 0) = true := by simpa using hs
  rw [this]
  exact ht
end Go.Proofs.YtgichahebemmiaaGreatDoor.Pure
set_option linter.unusedVariables false
namespace Go.Proofs.YtgichahebemmiaaGreatDoor.Pure
open Go.RowKit Go.Proofs.YtgichahebemmiaaGreatDoorW.PrintWords Go.Proofs.YtgichahebemmiaaGreatDoor.Base
def Bj2 (ps : List ByteArray) : ByteArray := ⟨(Lib.join (ps.map (·.data.toList)) [44]).toArray⟩
def Bc1 (ar : Int → Nat) (nm : Int → ByteArray) (t : List Int) : Nat → Nat → ByteArray
 | 0, _ => ⟨#[]⟩
 | f + 1, a =>
  if rd t (a : Int) < 0 then strOfNums [(wrap64 (64 - (rd t (a : Int)))) % 256]
  else if (Ai8 ar t a) = [] then nm (rd t (a : Int))
  else nm (rd t (a : Int)) ++ (⟨#[40]⟩ : ByteArray) ++ Bj2 ((Ai8 ar t a).map (Bc1 ar nm t f)) ++ (⟨#[41]⟩ : ByteArray)
theorem txtN_more {ar : Int → Nat} {nm : Int → ByteArray} {t : List Int} : ∀ (f g a e : Nat), a < t.length → Ar0 ar t 1 a = some e → t.length - a ≤ f → t.length - a ≤ g → Bc1 ar nm t f a = Bc1 ar nm t g a
 | 0, g, a, e, ha, h, hf, hg => by omega
 | f + 1, 0, a, e, ha, h, hf, hg => by omega
 | f + 1, g + 1, a, e, ha, h, hf, hg => by
  obtain ⟨_, hb⟩ := Am4 ha h
  rw [Bc1, Bc1]
  have hm : (Ai8 ar t a).map (Bc1 ar nm t f) = (Ai8 ar t a).map (Bc1 ar nm t g) := List.map_congr_left fun p hp => by
   obtain ⟨b1, b2, q, hq⟩ := hb p hp
   exact txtN_more f g p q b2 hq (by omega) (by omega)
  rw [hm]
def Bn0 : List ByteArray → Nat
 | [] => 0
 | x :: xs => x.size + 1 + Bn0 xs
theorem join_len (x : ByteArray) : ∀ ps : List ByteArray, (Lib.join ((x :: ps).map (·.data.toList)) [44]).length = x.size + Bn0 ps := by
 intro ps
 rw [List.map_cons, Lib.join_cons, List.length_append, ← Lib.size_eq]
 congr 1
 induction ps with
 | nil => rfl
 | cons y ys ih =>
  simp only [Lib.joinTail, List.map_cons, List.flatten_cons, List.length_append, List.length_singleton, Bn0] at ih ⊢
  rw [← Lib.size_eq, ih]; omega
theorem joinB_size (x : ByteArray) (ps : List ByteArray) : (Bj2 (x :: ps)).size = x.size + Bn0 ps := by
 rw [Lib.size_eq, Bj2]
 simp only
 exact join_len x ps
theorem txtN_size {ar : Int → Nat} {nm : Int → ByteArray} {t : List Int} (hn : ∀ i, i < t.length → (nm (rd t (i : Int))).size ≤ 3) : ∀ (f a e : Nat), a < t.length → Ar0 ar t 1 a = some e → (Bc1 ar nm t f a).size + 1 ≤ 6 * (e - a)
 | 0, a, e, ha, h => by
  obtain ⟨_, h1, h2⟩ := Al3 (by omega) h
  show 0 + 1 ≤ _
  omega
 | f + 1, a, e, ha, h => by
  obtain ⟨_, h1, h2⟩ := Al3 (by omega) h
  rw [Bc1]
  by_cases h0 : rd t (a : Int) < 0
  ·rw [if_pos h0]
   have : (strOfNums [(wrap64 (64 - (rd t (a : Int)))) % 256]).size = 1 := rfl
   omega
  rw [if_neg h0]
  have hnm := hn a ha
  by_cases hA : Ai8 ar t a = []
  ·rw [if_pos hA]; omega
  rw [if_neg hA]
  have hE := Aw1 ha h
  have key : ∀ (m p q : Nat), p ≤ t.length → Ar0 ar t m p = some q → Bn0 ((Au2 ar t m p).map (Bc1 ar nm t f)) ≤ 6 * (q - p) ∧ p ≤ q := by
   intro m
   induction m with
   | zero =>
    intro p q hp hq
    rw [Av1 _ _ _ hp] at hq
    obtain rfl := Option.some.inj hq
    exact ⟨by simp [Au2, Bn0], Nat.le_refl _⟩
   | succ m ih =>
    intro p q hp hq
    rw [show m + 1 = 1 + m by omega, Au4 ar t 1 m p hp] at hq
    cases h1 : Ar0 ar t 1 p with
    | none => rw [h1] at hq; cases hq
    | some p' =>
     rw [h1] at hq
     simp only [Option.bind_some] at hq
     obtain ⟨_, b1, b2⟩ := Al3 hp h1
     obtain ⟨i1, i2⟩ := ih p' q b2 hq
     have hs := txtN_size hn f p p' (by omega) h1
     rw [Ar2 h1]
     simp only [List.map_cons, Bn0]
     omega
  obtain ⟨k1, k2⟩ := key _ _ _ (by omega) hE
  unfold Ai8 at hA ⊢
  cases hc : Au2 ar t (ar (rd t (a : Int))) (a + 1) with
  | nil => exact absurd hc hA
  | cons p ps =>
   rw [hc] at k1
   simp only [List.map_cons, Bn0] at k1
   rw [List.map_cons]
   rw [ByteArray.size_append, ByteArray.size_append, ByteArray.size_append, joinB_size]
   have s1 : (⟨#[40]⟩ : ByteArray).size = 1 := rfl
   have s2 : (⟨#[41]⟩ : ByteArray).size = 1 := rfl
   rw [s1, s2]
   omega
def Be4 (b : UInt8) : Bool := b.toNat == 40 || b.toNat == 41 || b.toNat == 44
def Bl0 (n : Nat) : Bool := n == 40 || n == 41 || n == 44
def Bg4 (b : UInt8) : Bool := decide (97 ≤ b.toNat ∧ b.toNat ≤ 122)
def Bh1 (b : UInt8) : Bool := decide (65 ≤ b.toNat ∧ b.toNat < 77)
def Bi7 (w : List UInt8) : Prop := (∃ b, w = [b] ∧ Bh1 b = true) ∨ (w ≠ [] ∧ ∀ b ∈ w, Bg4 b = true)
def Ay0 (s : List UInt8) : Prop := ∀ b r, s = b :: r → Be4 b = true
theorem word_plain {w : List UInt8} (h : Bi7 w) : w ≠ [] ∧ ∀ b ∈ w, Be4 b = false := by
 rcases h with ⟨b, rfl, hb⟩ | ⟨h1, h2⟩
 ·refine ⟨by simp, fun c hc => ?_⟩
  rw [List.mem_singleton] at hc
  subst hc
  have := of_decide_eq_true hb
  unfold Be4
  simp only [Bool.or_eq_false_iff, beq_eq_false_iff_ne]
  omega
 ·refine ⟨h1, fun c hc => ?_⟩
  have := of_decide_eq_true (h2 c hc)
  unfold Be4
  simp only [Bool.or_eq_false_iff, beq_eq_false_iff_ne]
  omega
def Bb2 (nm : Int → ByteArray) (n : Int) : List UInt8 := if n < 0 then (strOfNums [(wrap64 (64 - n)) % 256]).data.toList else (nm n).data.toList
theorem Ay8 {α : Type} {ar : Int → Nat} {nm : Int → ByteArray} {t : List Int} (har : ∀ n, n < 0 → ar n = 0) (hw : ∀ i, i < t.length → Bi7 (Bb2 nm (rd t (i : Int)))) (F : List UInt8 → α) (c : List UInt8 → α → α)
  (hsep : ∀ b s, Be4 b = true → F (b :: s) = F s) (hword : ∀ w s, Bi7 w → Ay0 s → F (w ++ s) = c w (F s)) :
  ∀ (f a e : Nat), a < t.length → Ar0 ar t 1 a = some e → t.length - a ≤ f → ∀ x, Ay0 x → F ((Bc1 ar nm t f a).data.toList ++ x) = (((t.take e).drop a).map (Bb2 nm)).foldr c (F x)
 | 0, a, e, ha, h, hf, x, hx => by omega
 | f + 1, a, e, ha, h, hf, x, hx => by
  obtain ⟨_, h1, h2⟩ := Al3 (by omega) h
  have hE := Aw1 ha h
  have hcut : (t.take e).drop a = rd t (a : Int) :: (t.take e).drop (a + 1) := by
   rw [List.drop_eq_getElem_cons (by rw [List.length_take]; omega), List.getElem_take, An9 t a ha]
  have hwa := hw a ha
  rw [hcut, List.map_cons, List.foldr_cons, Bc1]
  unfold Ai8
  cases hA : ar (rd t (a : Int)) with
  | zero =>
   rw [hA, Av1 _ _ _ (by omega)] at hE
   obtain rfl := Option.some.inj hE
   have hnil : (t.take (a + 1)).drop (a + 1) = [] := List.drop_eq_nil_of_le (by rw [List.length_take]; omega)
   rw [hnil]
   simp only [Au2, List.map_nil, List.foldr_nil, if_true]
   have := hword _ x hwa hx
   unfold Bb2 at this ⊢
   by_cases h0 : rd t (a : Int) < 0
   ·simp only [if_pos h0] at this ⊢; exact this
   ·simp only [if_neg h0] at this ⊢; exact this
  | succ m =>
   rw [hA] at hE
   -- the tail of the arguments
   have key : ∀ (m p q : Nat), a < p → p ≤ t.length → Ar0 ar t m p = some q → ∀ x, Ay0 x →
     Ay0 (Lib.joinTail [44] (((Au2 ar t m p).map (Bc1 ar nm t f)).map (·.data.toList)) ++ x) ∧ F (Lib.joinTail [44] (((Au2 ar t m p).map (Bc1 ar nm t f)).map (·.data.toList)) ++ x) = (((t.take q).drop p).map (Bb2 nm)).foldr c (F x) := by
    intro m
    induction m with
    | zero =>
     intro p q hap hp hq x hx
     rw [Av1 _ _ _ hp] at hq
     obtain rfl := Option.some.inj hq
     have hnil : (t.take p).drop p = [] := List.drop_eq_nil_of_le (by rw [List.length_take]; omega)
     rw [hnil]
     simp only [Au2, List.map_nil, List.foldr_nil, Lib.joinTail, List.flatten_nil, List.nil_append]
     exact ⟨hx, trivial⟩
    | succ m ih =>
     intro p q hap hp hq x hx
     rw [show m + 1 = 1 + m by omega, Au4 ar t 1 m p hp] at hq
     cases h1 : Ar0 ar t 1 p with
     | none => rw [h1] at hq; cases hq
     | some p' =>
      rw [h1] at hq
      simp only [Option.bind_some] at hq
      obtain ⟨_, b1, b2⟩ := Al3 hp h1
      obtain ⟨i1, i2⟩ := ih p' q (by omega) b2 hq x hx
      obtain ⟨_, b3, b4⟩ := Al3 b2 hq
      have hs := Ay8 har hw F c hsep hword f p p' (by omega) h1 (by omega) _ i1
      rw [Ar2 h1]
      simp only [List.map_cons, Lib.joinTail, List.flatten_cons, List.append_assoc, List.cons_append, List.nil_append] at hs i2 ⊢
      refine ⟨fun b r e => ?_, ?_⟩
      ·injection e with e1 e2
       subst e1; rfl
      ·rw [hsep _ _ (by rfl)]
       rw [hs, i2, ← List.foldr_append, ← List.map_append]
       congr 2
       have e1 : (t.take p').drop p = (t.drop p).take (p' - p) := List.drop_take ..
       have e2 : (t.take q).drop p = (t.drop p).take (q - p) := List.drop_take ..
       have e3 : (t.take q).drop p' = (t.drop p').take (q - p') := List.drop_take ..
       rw [e1, e2, e3, show q - p = (p' - p) + (q - p') by omega, List.take_add, List.drop_drop, show p + (p' - p) = p' by omega]
   have hn0 : ¬ rd t (a : Int) < 0 := fun h => by rw [har _ h] at hA; cases hA
   rw [show m + 1 = 1 + m by omega, Au4 ar t 1 m (a + 1) (by omega)] at hE
   cases hp : Ar0 ar t 1 (a + 1) with
   | none => rw [hp] at hE; cases hE
   | some p' =>
    rw [hp] at hE
    simp only [Option.bind_some] at hE
    obtain ⟨_, b1, b2⟩ := Al3 (by omega) hp
    obtain ⟨_, b3, b4⟩ := Al3 b2 hE
    have hx' : Ay0 (41 :: x) := fun b r e => by
     injection e with e1 e2
     subst e1; rfl
    obtain ⟨k1, k2⟩ := key m p' e (by omega) b2 hE (41 :: x) hx'
    have hs := Ay8 har hw F c hsep hword f (a + 1) p' (by omega) hp (by omega) _ k1
    rw [Ar2 hp, if_neg hn0, if_neg (by simp)]
    have hl : (nm (rd t (a : Int)) ++ (⟨#[40]⟩ : ByteArray) ++ Bj2 ((((a + 1) :: Au2 ar t m p')).map (Bc1 ar nm t f)) ++ (⟨#[41]⟩ : ByteArray)).data.toList ++ x
      = (nm (rd t (a : Int))).data.toList ++ (40 :: ((Bc1 ar nm t f (a + 1)).data.toList ++ (Lib.joinTail [44] (((Au2 ar t m p').map (Bc1 ar nm t f)).map (·.data.toList)) ++ 41 :: x))) := by
     simp only [ByteArray.data_append, Array.toList_append, Bj2, List.map_cons, Lib.join_cons, List.append_assoc, List.cons_append, List.nil_append]
    rw [hl]
    have hh := hword (Bb2 nm (rd t (a : Int))) (40 :: ((Bc1 ar nm t f (a + 1)).data.toList ++ (Lib.joinTail [44] (((Au2 ar t m p').map (Bc1 ar nm t f)).map (·.data.toList)) ++ 41 :: x))) hwa (fun b r e => by
     injection e with e1 e2
     subst e1; rfl)
    have hwn : Bb2 nm (rd t (a : Int)) = (nm (rd t (a : Int))).data.toList := by unfold Bb2; rw [if_neg hn0]
    rw [hwn] at hh ⊢
    rw [hh, hsep _ _ (by rfl), hs, k2, hsep 41 x (by rfl), ← List.foldr_append, ← List.map_append]
    congr 3
    have e1 : (t.take p').drop (a + 1) = (t.drop (a + 1)).take (p' - (a + 1)) := List.drop_take ..
    have e2 : (t.take e).drop (a + 1) = (t.drop (a + 1)).take (e - (a + 1)) := List.drop_take ..
    have e3 : (t.take e).drop p' = (t.drop p').take (e - p') := List.drop_take ..
    rw [e1, e2, e3, show e - (a + 1) = (p' - (a + 1)) + (e - p') by omega, List.take_add, List.drop_drop, show a + 1 + (p' - (a + 1)) = p' by omega]
def An1 (p : Nat → Bool) : List UInt8 → List UInt8 → List (List UInt8)
 | cur, [] => if cur = [] then [] else [cur]
 | cur, b :: l => if p b.toNat = true then (if cur = [] then An1 p [] l else cur :: An1 p [] l) else An1 p (cur ++ [b]) l
theorem fieldsB_word (p : Nat → Bool) : ∀ (w cur s : List UInt8), (∀ b ∈ w, p b.toNat = false) → An1 p cur (w ++ s) = An1 p (cur ++ w) s
 | [], cur, s, _ => by simp
 | b :: w, cur, s, h => by
  rw [List.cons_append, An1, if_neg (by rw [h b (by simp)]; simp), fieldsB_word p w (cur ++ [b]) s (fun c hc => h c (by simp [hc])), List.append_assoc]; rfl
theorem Bl4 (b : UInt8) : Bl0 b.toNat = Be4 b := rfl
theorem fields_words (w s : List UInt8) (hw : Bi7 w) (hs : Ay0 s) : An1 Bl0 [] (w ++ s) = w :: An1 Bl0 [] s := by
 obtain ⟨h1, h2⟩ := word_plain hw
 rw [fieldsB_word Bl0 w [] s (fun b hb => h2 b hb), List.nil_append]
 cases s with
 | nil => simp [An1, h1]
 | cons b r =>
  have hb := hs b r rfl
  rw [An1, if_pos (by rw [Bl4]; exact hb), if_neg h1]
  rw [An1, if_pos (by rw [Bl4]; exact hb)]
  simp
theorem fields_sep (b : UInt8) (s : List UInt8) (h : Be4 b = true) : An1 Bl0 [] (b :: s) = An1 Bl0 [] s := by
 rw [An1, if_pos (by rw [Bl4]; exact h)]; simp
theorem spansA (p : Nat → Bool) (s : ByteArray) (hA : ∀ b ∈ s.data.toList, b.toNat < 128) : ∀ (f pos : Nat) (st : Option Nat) (acc : List (Nat × Nat)), s.size ≤ pos + f → pos ≤ s.size → (∀ a, st = some a → a < pos) →
  acc.map (fun q => Lib.pieceU s.data.toList q.1 q.2) ++ An1 p (Lib.openPiece s.data.toList st pos) (s.data.toList.drop pos) = (Lib.closeSpans s (Lib.spansFromP p s f pos st acc)).map (fun q => Lib.pieceU s.data.toList q.1 q.2) := by
 have hlen : s.data.toList.length = s.size := (Lib.size_eq s).symm
 have hend : ∀ (f pos : Nat) (st : Option Nat) (acc : List (Nat × Nat)), pos = s.size → (∀ a, st = some a → a < pos) →
   acc.map (fun q => Lib.pieceU s.data.toList q.1 q.2) ++ An1 p (Lib.openPiece s.data.toList st pos) (s.data.toList.drop pos) = (Lib.closeSpans s (Lib.spansFromP p s f pos st acc)).map (fun q => Lib.pieceU s.data.toList q.1 q.2) := by
  intro f pos st acc hp hst
  rw [Lib.spansFromP_end p s f pos st acc (by omega), List.drop_eq_nil_of_le (by omega)]
  cases st with
  | none => simp [Lib.closeSpans, Lib.openPiece, An1]
  | some a =>
   have := Lib.pieceU_ne s.data.toList a pos (hst a rfl) (by omega)
   subst hp
   simp [Lib.closeSpans, Lib.openPiece, An1, this]
 intro f
 induction f with
 | zero => intro pos st acc h hp hst; exact hend 0 pos st acc (by omega) hst
 | succ f ih =>
  intro pos st acc h hp hst
  by_cases hlt : pos < s.size
  ·have hl' : pos < s.data.toList.length := by omega
   have hb := hA _ (List.getElem_mem hl')
   have hdec : Utf8.decode s pos = ((s.data.toList[pos]).toNat, 1) := decode_ascii s pos hlt hb
   rw [List.drop_eq_getElem_cons hl']
   simp only [Lib.spansFromP, if_pos hlt, hdec, An1]
   generalize hbb : s.data.toList[pos] = b at *
   have hpc : ∀ a, a ≤ pos → Lib.pieceU s.data.toList a pos ++ [b] = Lib.pieceU s.data.toList a (pos + 1) := fun a ha => by
    rw [← Lib.pieceU_grow _ a pos 1 ha, List.drop_eq_getElem_cons hl', hbb]; rfl
   cases hsp : p b.toNat with
   | true =>
    simp only [if_true]
    cases st with
    | none =>
     have := ih (pos + 1) none acc (by omega) (by omega) (fun a h => by cases h)
     simpa [Lib.openPiece] using this
    | some a =>
     have hpn := Lib.pieceU_ne s.data.toList a pos (hst a rfl) (by omega)
     have := ih (pos + 1) none (acc ++ [(a, pos)]) (by omega) (by omega) (fun a h => by cases h)
     simpa [Lib.openPiece, hpn] using this
   | false =>
    simp only [Bool.false_eq_true, if_false]
    cases st with
    | none =>
     have := ih (pos + 1) (some pos) acc (by omega) (by omega) (fun a h => by cases h; omega)
     simp only [Lib.openPiece] at this ⊢
     rw [← this]
     congr 2
     unfold Lib.pieceU
     rw [List.drop_eq_getElem_cons hl', hbb, Nat.add_sub_cancel_left]; rfl
    | some a =>
     have := ih (pos + 1) (some a) acc (by omega) (by omega) (fun b h => by cases h; have := hst a rfl; omega)
     simp only [Lib.openPiece] at this ⊢
     rw [hpc a (Nat.le_of_lt (hst a rfl))]
     exact this
  ·exact hend (f + 1) pos st acc (by omega) hst
theorem goFields_ascii (p : Nat → Bool) (s : ByteArray) (hA : ∀ b ∈ s.data.toList, b.toNat < 128) : (Lib.goFieldsP p s).map (·.data.toList) = An1 p [] s.data.toList := by
 have h := spansA p s hA s.size 0 none [] (by omega) (Nat.zero_le _) (fun a h => by cases h)
 simp only [List.map_nil, List.nil_append, Lib.openPiece, List.drop_zero] at h
 unfold Lib.goFieldsP Lib.spansOfP
 rw [h, List.map_map]
 congr 1
 funext q
 simp [Lib.pieceU]
def As1 (fd : List UInt8 → Int) (cur : List UInt8) (r : Option (List Int)) : Option (List Int) := if cur = [] then r else if fd cur < 0 then none else r.map (fun ns => fd cur :: ns)
def An3 (fd : List UInt8 → Int) : List UInt8 → List UInt8 → Option (List Int)
 | cur, [] => As1 fd cur (some [])
 | cur, b :: s => if Bg4 b = true then An3 fd (cur ++ [b]) s
  else As1 fd cur (if Be4 b = true then An3 fd [] s else if Bh1 b = true then (An3 fd [] s).map (fun ns => (-1 - ((b.toNat : Int) - 65)) :: ns) else none)
theorem sep_notlow {b : UInt8} (h : Be4 b = true) : Bg4 b = false := by
 unfold Be4 at h
 unfold Bg4
 simp only [Bool.or_eq_true, beq_iff_eq] at h
 exact decide_eq_false (by omega)
theorem Ax1 {b : UInt8} (h : Bh1 b = true) : Bg4 b = false ∧ Be4 b = false := by
 have h := of_decide_eq_true h
 refine ⟨decide_eq_false (by omega), ?_⟩
 unfold Be4
 simp only [Bool.or_eq_false_iff, beq_eq_false_iff_ne]
 omega
theorem scanA_low (fd : List UInt8 → Int) : ∀ (w cur s : List UInt8), (∀ b ∈ w, Bg4 b = true) → An3 fd cur (w ++ s) = An3 fd (cur ++ w) s
 | [], cur, s, _ => by simp
 | b :: w, cur, s, h => by
  rw [List.cons_append, An3, if_pos (h b (by simp)), scanA_low fd w (cur ++ [b]) s (fun c hc => h c (by simp [hc])), List.append_assoc]; rfl
theorem scanA_flush (fd : List UInt8 → Int) (w s : List UInt8) (hs : ∀ b r, s = b :: r → Bg4 b = false) : An3 fd w s = As1 fd w (An3 fd [] s) := by
 cases s with
 | nil =>
  simp only [An3]
  unfold As1
  simp
 | cons b r =>
  have hb := hs b r rfl
  simp only [An3, hb, Bool.false_eq_true, if_false]
  unfold As1
  simp
theorem scanA_sep (fd : List UInt8 → Int) (b : UInt8) (s : List UInt8) (h : Be4 b = true) : An3 fd [] (b :: s) = An3 fd [] s := by
 rw [An3, if_neg (by rw [sep_notlow h]; simp), if_pos h]
 unfold As1
 rw [if_pos rfl]
def Bo1 (fd : List UInt8 → Int) (w : List UInt8) (r : Option (List Int)) : Option (List Int) :=
 match w with
 | [b] => if Bh1 b = true then r.map (fun ns => (-1 - ((b.toNat : Int) - 65)) :: ns) else As1 fd [b] r
 | w => As1 fd w r
theorem scanA_word (fd : List UInt8 → Int) (w s : List UInt8) (hw : Bi7 w) (hs : Ay0 s) : An3 fd [] (w ++ s) = Bo1 fd w (An3 fd [] s) := by
 rcases hw with ⟨b, rfl, hb⟩ | ⟨h1, h2⟩
 ·obtain ⟨c1, c2⟩ := Ax1 hb
  show An3 fd [] (b :: s) = _
  rw [An3, if_neg (by rw [c1]; simp), if_neg (by rw [c2]; simp), if_pos hb]
  show (if ([] : List UInt8) = [] then _ else _) = (if Bh1 b = true then _ else _)
  rw [if_pos rfl, if_pos hb]
 ·rw [scanA_low fd w [] s h2, List.nil_append, scanA_flush fd w s (fun b r e => sep_notlow (hs b r e))]
  unfold Bo1
  split
  ·rename_i b
   have hl := h2 b (by simp)
   rw [if_neg (fun hc => by rw [(Ax1 hc).1] at hl; cases hl)]
  ·rfl
def Bm4 (fd : List UInt8 → Int) (w : List UInt8) : Int :=
 match w with
 | [b] => if Bh1 b = true then -1 - ((b.toNat : Int) - 65) else fd [b]
 | w => fd w
def Bl9 (fd : List UInt8 → Int) : List (List UInt8) → Option (List Int)
 | [] => some []
 | w :: ws => if Bm4 fd w = -1 ∧ w ≠ [65] then none else (Bl9 fd ws).map (fun ns => Bm4 fd w :: ns)
structure NodeWord (fd : List UInt8 → Int) (w : List UInt8) (n : Int) : Prop where
 word : Bi7 w
 look : 0 ≤ n → (∀ b ∈ w, Bg4 b = true) ∧ w ≠ [] ∧ fd w = n
 var : n < 0 → ∃ b, w = [b] ∧ Bh1 b = true ∧ -1 - ((b.toNat : Int) - 65) = n
theorem addW_node {fd : List UInt8 → Int} {w : List UInt8} {n : Int} (h : NodeWord fd w n) (r : List Int) : Bo1 fd w (some r) = some (n :: r) := by
 by_cases h0 : n < 0
 ·obtain ⟨b, rfl, hb, e⟩ := h.var h0
  show (if Bh1 b = true then _ else _) = _
  rw [if_pos hb]
  simp [e]
 ·obtain ⟨h1, h2, h3⟩ := h.look (by omega)
  have hf : As1 fd w (some r) = some (n :: r) := by
   unfold As1
   rw [if_neg h2, h3, if_neg h0]; rfl
  unfold Bo1
  split
  ·rename_i b
   have hl := h1 b (by simp)
   rw [if_neg (fun hc => by rw [(Ax1 hc).1] at hl; cases hl)]
   exact hf
  ·exact hf
theorem nodeW_node {fd : List UInt8 → Int} {w : List UInt8} {n : Int} (h : NodeWord fd w n) : Bm4 fd w = n ∧ ¬ (n = -1 ∧ w ≠ [65]) := by
 by_cases h0 : n < 0
 ·obtain ⟨b, rfl, hb, e⟩ := h.var h0
  have e' : Bm4 fd [b] = n := by
   show (if Bh1 b = true then _ else _) = _
   rw [if_pos hb]; exact e
  refine ⟨e', fun hn => hn.2 ?_⟩
  have hb' := of_decide_eq_true hb
  have : b.toNat = 65 := by omega
  have : b = 65 := UInt8.toNat_inj.1 this
  rw [this]
 ·obtain ⟨h1, h2, h3⟩ := h.look (by omega)
  refine ⟨?_, fun hn => by omega⟩
  unfold Bm4
  split
  ·rename_i b
   have hl := h1 b (by simp)
   rw [if_neg (fun hc => by rw [(Ax1 hc).1] at hl; cases hl)]
   exact h3
  ·exact h3
theorem scan_nodes {fd : List UInt8 → Int} {wd : Int → List UInt8} : ∀ (t : List Int), (∀ n ∈ t, NodeWord fd (wd n) n) → (t.map wd).foldr (Bo1 fd) (An3 fd [] []) = some t
 | [], _ => rfl
 | n :: t, h => by
  rw [List.map_cons, List.foldr_cons, scan_nodes t (fun m hm => h m (by simp [hm])), addW_node (h n (by simp))]
theorem read_nodes {fd : List UInt8 → Int} {wd : Int → List UInt8} : ∀ (t : List Int), (∀ n ∈ t, NodeWord fd (wd n) n) → Bl9 fd (t.map wd) = some t
 | [], _ => rfl
 | n :: t, h => by
  obtain ⟨h1, h2⟩ := nodeW_node (h n (by simp))
  rw [List.map_cons, Bl9, h1, if_neg h2, read_nodes t (fun m hm => h m (by simp [hm]))]; rfl
theorem text_read {fd : List UInt8 → Int} {ar : Int → Nat} {nm : Int → ByteArray} {t : List Int} (har : ∀ n, n < 0 → ar n = 0) (hw : Whole ar t) (hn : ∀ n ∈ t, NodeWord fd (Bb2 nm n) n) (f : Nat) (hf : t.length ≤ f) :
  An3 fd [] (Bc1 ar nm t f 0).data.toList = some t ∧ Bl9 fd ((Lib.goFieldsP Bl0 (Bc1 ar nm t f 0)).map (·.data.toList)) = some t := by
 have hp := whole_pos hw
 have he := Bd5.2 hw
 have hrd : ∀ i, i < t.length → Bi7 (Bb2 nm (rd t (i : Int))) := fun i hi => (hn _ (Bk2 t i hi)).word
 have hcut : (t.take t.length).drop 0 = t := by rw [List.drop_zero, List.take_length]
 have hnil : Ay0 [] := fun b r e => by cases e
 have h1 := Ay8 har hrd (An3 fd []) (Bo1 fd) (fun b s hb => scanA_sep fd b s hb) (fun w s hw hs => scanA_word fd w s hw hs) f 0 t.length hp he (by omega) [] hnil
 rw [List.append_nil, hcut, scan_nodes t hn] at h1
 have h2 := Ay8 har hrd (An1 Bl0 []) List.cons (fun b s hb => fields_sep b s hb) (fun w s hw hs => fields_words w s hw hs) f 0 t.length hp he (by omega) [] hnil
 have hall := Ay8 har hrd (fun s => s.all fun b => decide (b.toNat < 128)) (fun _ r => r) (fun b s hb => by
  unfold Be4 at hb
  simp only [Bool.or_eq_true, beq_iff_eq] at hb
  simp only [List.all_cons]
  rw [decide_eq_true (by omega), Bool.true_and]) (fun w s hw hs => by
  rw [List.all_append]
  have : (w.all fun b => decide (b.toNat < 128)) = true := by
   rw [List.all_eq_true]
   intro b hb
   rcases hw with ⟨c, rfl, hc⟩ | ⟨_, h2⟩
   ·rw [List.mem_singleton] at hb
    subst hb
    have := of_decide_eq_true hc
    exact decide_eq_true (by omega)
   ·have := of_decide_eq_true (h2 b hb)
    exact decide_eq_true (by omega)
  rw [this, Bool.true_and]) f 0 t.length hp he (by omega) [] hnil
 rw [List.append_nil] at h2 hall
 have hall' : ∀ b ∈ (Bc1 ar nm t f 0).data.toList, b.toNat < 128 := by
  have hx : ∀ ws : List (List UInt8), ws.foldr (fun _ r => r) (([] : List UInt8).all fun b => decide (b.toNat < 128)) = true := by
   intro ws
   induction ws with
   | nil => rfl
   | cons w ws ih => rw [List.foldr_cons]; exact ih
  rw [hx] at hall
  intro b hb
  exact of_decide_eq_true (List.all_eq_true.1 hall b hb)
 refine ⟨h1, ?_⟩
 rw [goFields_ascii Bl0 _ hall', h2, hcut]
 have hfn : An1 Bl0 [] [] = [] := by simp [An1]
 rw [hfn, List.foldr_cons_nil]
 exact read_nodes t hn
end Go.Proofs.YtgichahebemmiaaGreatDoor.Pure
set_option linter.unusedVariables false
namespace Go.Proofs.YtgichahebemmiaaGreatDoor.Pure
open Go.RowKit Go.Proofs.YtgichahebemmiaaGreatDoor.P Go.Proofs.YtgichahebemmiaaGreatDoorW.PrintWords Go.Proofs.YtgichahebemmiaaGreatDoorW.PrintLast Go.Proofs.YtgichahebemmiaaGreatDoorW.PrintMore Go.Proofs.YtgichahebemmiaaGreatDoor.Base
def Ax8 (l : List S79) (n : Int) : ByteArray := (Ac2 l n).f0
def Bc8 (l : List S79) (t : List Int) (a : Nat) : ByteArray := Bc1 (arL l) (Ax8 l) t t.length a
theorem txtA_eq (l : List S79) (t : List Int) {a e : Nat} (ha : a < t.length) (h : Ar0 (arL l) t 1 a = some e) :
  Bc8 l t a = if rd t (a : Int) < 0 then strOfNums [(wrap64 (64 - (rd t (a : Int)))) % 256]
   else if (Ai8 (arL l) t a) = [] then Ax8 l (rd t (a : Int))
   else Ax8 l (rd t (a : Int)) ++ (⟨#[40]⟩ : ByteArray) ++ Bj2 ((Ai8 (arL l) t a).map (Bc8 l t)) ++ (⟨#[41]⟩ : ByteArray) := by
 obtain ⟨L, hL⟩ : ∃ L, t.length = L + 1 := ⟨t.length - 1, by omega⟩
 obtain ⟨_, hb⟩ := Am4 ha h
 have hm : (Ai8 (arL l) t a).map (Bc1 (arL l) (Ax8 l) t L) = (Ai8 (arL l) t a).map (Bc8 l t) := List.map_congr_left fun p hp => by
  obtain ⟨b1, b2, q, hq⟩ := hb p hp
  exact txtN_more L t.length p q b2 hq (by omega) (by omega)
 rw [← hm]
 unfold Bc8
 rw [hL, Bc1]
theorem nameL_size {l : List S79} (hr : Right l) {t : List Int} (hn : Bc7 l t) : ∀ i, i < t.length → (Ax8 l (rd t (i : Int))).size ≤ 3 := by
 intro i hi
 by_cases h0 : rd t (i : Int) < 0
 ·have e : Ac2 l (rd t (i : Int)) = Ac2 l ((0 : Nat) : Int) := by
   unfold Ac2
   rw [Int.toNat_of_nonpos (by omega)]; rfl
  have hl := hr.len
  have := hr.names 0 (by omega)
  unfold Ax8
  rw [e]
  unfold Ba2 at this
  rw [Bool.and_eq_true] at this
  have := of_decide_eq_true this.1
  exact this.2
 ·obtain ⟨s0, s1⟩ := Ax6 (hn i hi) h0
  have := hr.names (rd t (i : Int)).toNat (by omega)
  rw [Int.toNat_of_nonneg s0] at this
  unfold Ba2 at this
  rw [Bool.and_eq_true] at this
  have := of_decide_eq_true this.1
  exact this.2
theorem Az0 {l : List S79} (hr : Right l) {t : List Int} (hn : Bc7 l t) (ht : t.length ≤ 24) {a e : Nat} (ha : a < t.length) (h : Ar0 (arL l) t 1 a = some e) : (Bc8 l t a).size ≤ 144 := by
 have := txtN_size (nm := Ax8 l) (nameL_size hr hn) t.length a e ha h
 obtain ⟨_, h1, h2⟩ := Al3 (by omega) h
 unfold Bc8
 omega
theorem Bm9 {x y : ByteArray} (h : x.data.toList = y.data.toList) : x = y := by
 cases x; cases y; congr 1; exact Array.toList_inj.1 h
theorem Bb0 (x y : ByteArray) : (x ++ y).data.toList = x.data.toList ++ y.data.toList := by
 rw [ByteArray.data_append, Array.toList_append]
theorem app_assoc (x y z : ByteArray) : (x ++ y) ++ z = x ++ (y ++ z) := Bm9 (by simp only [Bb0, List.append_assoc])
def Bn7 : List ByteArray → ByteArray
 | [] => ⟨#[]⟩
 | x :: xs => (⟨#[44]⟩ : ByteArray) ++ x ++ Bn7 xs
theorem comB_list : ∀ ps : List ByteArray, (Bn7 ps).data.toList = Lib.joinTail [44] (ps.map (·.data.toList))
 | [] => rfl
 | x :: xs => by
  rw [Bn7, Bb0, Bb0, comB_list xs]
  rfl
theorem joinB_cons (x : ByteArray) (ps : List ByteArray) : Bj2 (x :: ps) = x ++ Bn7 ps := Bm9 (by
 rw [Bb0, comB_list]
 show (Lib.join ((x :: ps).map (·.data.toList)) [44]) = _
 rw [List.map_cons, Lib.join_cons])
theorem app_nil (x : ByteArray) : x ++ (⟨#[]⟩ : ByteArray) = x := Bm9 (by rw [Bb0]; exact List.append_nil _)
theorem l4Text_loop (l : List S79) (hr : Right l) (t : List Int) (ht : t.length ≤ 24) (hn : Bc7 l t) (nm : ByteArray) (A : Nat) (hA : A ≤ 2) (B : Nat)
  (ih : ∀ p, B < p → p < t.length → (∃ q, Ar0 (arL l) t 1 p = some q) → Ev (fun k => Af3.f k [(⟨l⟩ : S36)] t (p : Int)) (Bc8 l t p)) :
  ∀ (m i e e' : Nat) (o : ByteArray), i + m = A → 0 < i → B < e → e ≤ t.length → Ar0 (arL l) t m e = some e' → o.size ≤ 1000 * (i + 1) →
   Ev (fun k => Af3.l0 k [(⟨l⟩ : S36)] t o (e : Int) (i : Int) nm (A : Int)) (o ++ Bn7 ((Au2 (arL l) t m e).map (Bc8 l t)) ++ (⟨#[41]⟩ : ByteArray)) := by
 intro m
 induction m with
 | zero =>
  intro i e e' o hi hi0 hB he hE ho
  refine Ad2 ?_
  simp only [Af3.l0]
  refine Ab5 (by omega) (Aa3 (by omega) (Ah7 (Aa9 _) ?_))
  simp only [Au2, List.map_nil, Bn7, app_nil]
 | succ m ihm =>
  intro i e e' o hi hi0 hB he hE ho
  rw [show m + 1 = 1 + m by omega, Au4 _ _ 1 m e he] at hE
  cases h1 : Ar0 (arL l) t 1 e with
  | none => rw [h1] at hE; cases hE
  | some q =>
   rw [h1] at hE
   simp only [Option.bind_some] at hE
   obtain ⟨_, b1, b2⟩ := Al3 he h1
   have hd := ih e hB (by omega) ⟨q, h1⟩
   have hend := Av7 l hr t (by omega) hn (t.length - e) e (by omega)
   rw [h1] at hend
   have hsz := Az0 hr hn ht (by omega) h1
   have s1 : (⟨#[44]⟩ : ByteArray).size = 1 := rfl
   refine Ad2 ?_
   simp only [Af3.l0]
   refine Aa3 (by omega) (Aa3 (by omega) (Aa3 (by omega) (Ac0 hd (Aa3 (by rw [ByteArray.size_append, s1]; omega) (Ac0 hend ?_)))))
   rw [Ag1 (by omega)]
   refine Ah7 (ihm (i + 1) q e' (o ++ (⟨#[44]⟩ : ByteArray) ++ Bc8 l t e) (by omega) (by omega) (by omega) b2 hE (by rw [ByteArray.size_append, ByteArray.size_append, s1]; omega)) ?_
   rw [Ar2 h1]
   simp only [List.map_cons, Bn7, app_assoc]
theorem l4Text_ev (l : List S79) (hr : Right l) (t : List Int) (ht : t.length ≤ 24) (hn : Bc7 l t) : ∀ (d a : Nat), a + d = t.length → a < t.length → (∃ e, Ar0 (arL l) t 1 a = some e) →
  Ev (fun k => Af3.f k [(⟨l⟩ : S36)] t (a : Int)) (Bc8 l t a) := by
 intro d
 induction d using Nat.strongRecOn with
 | _ d ih =>
  intro a hd ha ⟨e, he⟩
  have e0 : (Ad6 [(⟨l⟩ : S36)] 0).f0 = l := rfl
  refine Ad2 ?_
  simp only [Af3.f, e0]
  refine Aa3 (by omega) (Aa3 (by omega) ?_)
  rw [txtA_eq l t ha he]
  by_cases h0 : rd t (a : Int) < 0
  ·rw [if_pos h0]; exact Aa3 h0 (Aa9 _)
  rw [if_neg h0]
  refine Ab5 h0 ?_
  obtain ⟨s0, s1⟩ := Ax6 (hn a ha) h0
  obtain ⟨hA, hA2⟩ := Ba7 hr (hn a ha) h0
  obtain ⟨hlen, hb⟩ := Am4 ha he
  have hE := Aw1 ha he
  have hnm := nameL_size hr hn a ha
  refine Aa3 (by simp) (Aa3 s0 (Aa3 s1 ?_))
  rw [hA]
  cases hm : arL l (rd t (a : Int)) with
  | zero =>
   rw [hm] at hlen
   rw [if_pos (List.eq_nil_of_length_eq_zero hlen)]
   exact Aa3 rfl (Aa9 _)
  | succ m =>
   have hne : ¬ Ai8 (arL l) t a = [] := fun k => by rw [k, hm] at hlen; cases hlen
   rw [if_neg hne]
   refine Ab5 (by omega) (Aa3 (by show (Ax8 l (rd t (a : Int))).size + 1 ≤ _; omega) ?_)
   rw [hm] at hE
   rw [show m + 1 = 1 + m by omega, Au4 _ _ 1 m (a + 1) (by omega)] at hE
   cases h1 : Ar0 (arL l) t 1 (a + 1) with
   | none => rw [h1] at hE; cases hE
   | some q =>
    rw [h1] at hE
    simp only [Option.bind_some] at hE
    obtain ⟨_, b1, b2⟩ := Al3 (by omega) h1
    have ih' : ∀ p, a < p → p < t.length → (∃ q, Ar0 (arL l) t 1 p = some q) → Ev (fun k => Af3.f k [(⟨l⟩ : S36)] t (p : Int)) (Bc8 l t p) := fun p h1 h2 h3 => ih (t.length - p) (by omega) p (by omega) h2 h3
    have hend := Av7 l hr t (by omega) hn (t.length - (a + 1)) (a + 1) (by omega)
    rw [h1] at hend
    have hsz := Az0 hr hn ht (by omega) h1
    have s2 : (⟨#[40]⟩ : ByteArray).size = 1 := rfl
    refine Ad2 ?_
    simp only [Af3.l0]
    rw [Ag1 (by omega)]
    refine Aa3 (by omega) (Ab5 (by omega) (Ac0 (ih' (a + 1) (by omega) (by omega) ⟨q, h1⟩) (Aa3 (by rw [ByteArray.size_append, s2]; show (Ax8 l (rd t (a : Int))).size + 1 + _ ≤ _; omega) (Ac0 hend ?_))))
    have hloop := l4Text_loop l hr t ht hn (Ax8 l (rd t (a : Int))) (m + 1) (by omega) a ih' m 1 q e (Ax8 l (rd t (a : Int)) ++ (⟨#[40]⟩ : ByteArray) ++ Bc8 l t (a + 1)) (by omega) (by omega) (by omega) b2 hE (by rw [ByteArray.size_append, ByteArray.size_append, s2]; omega)
    have e1 : wrap64 (0 + 1) = ((1 : Nat) : Int) := by rw [Aj1 (by omega) (by omega)]; rfl
    rw [e1]
    refine Ah7 hloop ?_
    unfold Ai8
    rw [hm, Ar2 h1, List.map_cons, joinB_cons]
    simp only [app_assoc]
def fdL (l : List S79) (w : List UInt8) : Int := At8 (fun j => An7 l j == w) l.length
theorem l2Find_evR (l : List S79) (hl : l.length ≤ 1048576) (s : ByteArray) : Ev (fun k => Ah5.f k [(⟨l⟩ : S36)] s) (fdL l s.toList) := by
 unfold Ah5.f
 have e : (Ad6 [(⟨l⟩ : S36)] 0).f0 = l := rfl
 have h := Al1 l.length (fun j => if (An7 l j == s.toList) = true then some (j : Int) else none) (-1) (fun k i => Ah5.l0 k [(⟨l⟩ : S36)] s i)
  (by simp only [Ah5.l0, e]; exact Aa3 (by simp) (Ab5 (by omega) (Aa9 _)))
  (fun i hi r hr => by
   simp only [Ah5.l0, e]
   refine Aa3 (by simp) (Aa3 (by omega) (Aa3 (by omega) ?_))
   rw [Ag1 (by omega)]
   by_cases h : An7 l i = s.toList
   ·exact Aa3 h (Ah7 (Aa9 _) (by simp [h]))
   ·exact Ab5 h (Ah7 hr (by simp [h])))
  l.length 0 (by omega)
 rw [Ax4 (fun j => An7 l j == s.toList)] at h
 exact h
theorem node_word {l : List S79} (hr : Right l) {n : Int} (hn : Au0 l n = true) : NodeWord (fdL l) (Bb2 (Ax8 l) n) n := by
 by_cases h0 : n < 0
 ·have hb : -12 ≤ n := by
   unfold Au0 Ba4 at hn
   rw [Bool.or_eq_true, decide_eq_true_eq, decide_eq_true_eq] at hn
   omega
  have hw : Bb2 (Ax8 l) n = [UInt8.ofNat (64 - n).toNat] := by
   unfold Bb2
   rw [if_pos h0, Aj1 (by omega) (by omega)]
   have e : ((64 - n) % 256).toNat = (64 - n).toNat := by omega
   unfold strOfNums
   simp [e]
  have hv : (UInt8.ofNat (64 - n).toNat).toNat = (64 - n).toNat := by rw [UInt8.toNat_ofNat']; omega
  have hc : Bh1 (UInt8.ofNat (64 - n).toNat) = true := by
   unfold Bh1
   rw [hv]
   exact decide_eq_true (by omega)
  refine ⟨.inl ⟨_, hw, hc⟩, fun h => by omega, fun _ => ⟨_, hw, hc, ?_⟩⟩
  rw [hv]; omega
 ·obtain ⟨s0, s1⟩ := Ax6 hn h0
  obtain ⟨i, rfl⟩ := Int.eq_ofNat_of_zero_le s0
  have hi : i < l.length := by omega
  have hw : Bb2 (Ax8 l) (i : Int) = (Ac2 l (i : Int)).f0.data.toList := by
   unfold Bb2 Ax8
   rw [if_neg h0]
  have hN := hr.names i hi
  unfold Ba2 at hN
  rw [Bool.and_eq_true] at hN
  have hsz := of_decide_eq_true hN.1
  have hlen := Lib.size_eq (Ac2 l (i : Int)).f0
  have hlow : ∀ b ∈ (Ac2 l (i : Int)).f0.data.toList, Bg4 b = true := fun b hb => List.all_eq_true.1 hN.2 b hb
  have hne : (Ac2 l (i : Int)).f0.data.toList ≠ [] := fun h => by rw [h, List.length_nil] at hlen; omega
  have hfd : fdL l (Ac2 l (i : Int)).f0.data.toList = (i : Int) := by
   have := (dup_place l i hi).2 (hr.apart i hi)
   rw [Lib.toList_data] at this
   exact this
  rw [hw]
  exact ⟨.inr ⟨hne, hlow⟩, fun _ => ⟨hlow, hne, hfd⟩, fun h => absurd h h0⟩
def Bk8 (out : List Int) (o : Option (List Int)) : List Int × Bool := match o with
 | some ns => (out ++ ns, true)
 | none => ([], false)
theorem Be0 (out : List Int) (n : Int) (o : Option (List Int)) : Bk8 (out ++ [n]) o = Bk8 out (o.map (fun ns => n :: ns)) := by
 cases o with
 | none => rfl
 | some ns => simp [Bk8]
theorem Bd1 (b : UInt8) : Be4 b = true ↔ b.toNat = 40 ∨ b.toNat = 41 ∨ b.toNat = 44 := by
 unfold Be4
 simp only [Bool.or_eq_true, beq_iff_eq]
 omega
theorem l4Nodes_l0 (l : List S79) (hl : l.length ≤ 6) (s : ByteArray) (hs : s.data.toList.length ≤ 1000) : ∀ (d i : Nat) (out : List Int), i + d = s.data.toList.length → out.length ≤ i →
  Ev (fun k => Ac3.l0 k [(⟨l⟩ : S36)] s out (i : Int)) (Bk8 out (An3 (fdL l) [] (s.data.toList.drop i))) := by
 have hz := Lib.size_eq s
 intro d
 induction d using Nat.strongRecOn with
 | _ d ih =>
  intro i out hi ho
  rcases Nat.eq_zero_or_pos d with h0 | h0
  ·refine Ad2 ?_
   simp only [Ac3.l0]
   rw [List.drop_eq_nil_of_le (by omega)]
   exact Ab5 (by omega) (Ah7 (Aa9 _) (by simp [An3, As1, Bk8]))
  have hil : i < s.data.toList.length := by omega
  have hb := Bk1 s i hil
  have hd := List.drop_eq_getElem_cons hil
  generalize hbb : s.data.toList[i] = b at *
  -- a run of letters
  have hrun : ∀ (e j : Nat), j + e = s.data.toList.length → i < j → (∀ x ∈ Lib.pieceU s.data.toList i j, Bg4 x = true) → Ev (fun k => Ac3.l1 k [(⟨l⟩ : S36)] s out (i : Int) (j : Int)) (Bk8 out (An3 (fdL l) (Lib.pieceU s.data.toList i j) (s.data.toList.drop j))) := by
   intro e
   induction e with
   | zero =>
    intro j hj hij hall
    have hne := Lib.pieceU_ne s.data.toList i j hij (by omega)
    have hf := l2Find_evR l (by omega) (s.extract i j)
    have hx : (s.extract i j).toList = Lib.pieceU s.data.toList i j := by rw [Lib.toList_data]; simp [Lib.pieceU]
    rw [hx] at hf
    refine Ad2 ?_
    simp only [Ac3.l1, Int.toNat_natCast]
    rw [List.drop_eq_nil_of_le (by omega), An3, As1, if_neg hne]
    refine Ab5 (by omega) (Aa3 (by omega) (Aa3 (by omega) (Aa3 (by omega) (Ac0 hf ?_))))
    by_cases hlt : fdL l (Lib.pieceU s.data.toList i j) < 0
    ·rw [if_pos hlt]; exact Aa3 hlt (Aa9 _)
    ·rw [if_neg hlt]
     refine Ab5 hlt (Aa3 (by omega) ?_)
     have := ih 0 (by omega) j (out ++ [fdL l (Lib.pieceU s.data.toList i j)]) (by omega) (by rw [List.length_append, List.length_singleton]; omega)
     rw [Be0, List.drop_eq_nil_of_le (by omega)] at this
     simpa [An3, As1] using this
   | succ e ihe =>
    intro j hj hij hall
    have hjl : j < s.data.toList.length := by omega
    have hbj := Bk1 s j hjl
    have hdj := List.drop_eq_getElem_cons hjl
    have hgrow := Lib.pieceU_grow s.data.toList i j 1 (Nat.le_of_lt hij)
    rw [hdj, List.take_succ_cons, List.take_zero] at hgrow
    generalize s.data.toList[j] = c at *
    have hne := Lib.pieceU_ne s.data.toList i j hij (by omega)
    have hf := l2Find_evR l (by omega) (s.extract i j)
    have hx : (s.extract i j).toList = Lib.pieceU s.data.toList i j := by rw [Lib.toList_data]; simp [Lib.pieceU]
    rw [hx] at hf
    have hend : Bg4 c = false → Ev (fun k => (Ah5.f k [(⟨l⟩ : S36)] (s.extract i j)).bind fun t => if t < 0 then some (([] : List Int), false) else if out.length < 17592186044416 then Ac3.l0 k [(⟨l⟩ : S36)] s (out ++ [t]) (j : Int) else none)
      (Bk8 out (An3 (fdL l) (Lib.pieceU s.data.toList i j) (s.data.toList.drop j))) := by
     intro hcl
     rw [hdj, scanA_flush (fdL l) _ _ (fun b r h => by injection h with h1 h2; rw [← h1]; exact hcl), As1, if_neg hne]
     refine Ac0 hf ?_
     by_cases hlt : fdL l (Lib.pieceU s.data.toList i j) < 0
     ·rw [if_pos hlt]; exact Aa3 hlt (Aa9 _)
     ·rw [if_neg hlt]
      refine Ab5 hlt (Aa3 (by omega) ?_)
      have := ih (e + 1) (by omega) j (out ++ [fdL l (Lib.pieceU s.data.toList i j)]) (by omega) (by rw [List.length_append, List.length_singleton]; omega)
      rw [Be0, hdj] at this
      exact this
    refine Ad2 ?_
    simp only [Ac3.l1, Int.toNat_natCast]
    rw [hbj]
    refine Aa3 (by omega) (Aa3 (by omega) ?_)
    by_cases h97 : ((c.toNat : Int)) ≥ 97
    ·by_cases h122 : ((c.toNat : Int)) ≤ 122
     ·have hcl : Bg4 c = true := decide_eq_true (by omega)
      rw [Ag1 (by omega), hdj, An3, if_pos hcl, hgrow]
      refine Aa3 h97 (Aa3 h122 (ihe (j + 1) (by omega) (by omega) ?_))
      rw [← hgrow]
      intro x hx
      rcases List.mem_append.1 hx with h | h
      ·exact hall x h
      ·rw [List.mem_singleton.1 h]; exact hcl
     ·have hcl : Bg4 c = false := decide_eq_false (by omega)
      exact Aa3 h97 (Ab5 h122 (Aa3 (by omega) (Aa3 (by omega) (Aa3 (by omega) (hend hcl)))))
    ·have hcl : Bg4 c = false := decide_eq_false (by omega)
     exact Ab5 h97 (Aa3 (by omega) (Aa3 (by omega) (Aa3 (by omega) (hend hcl))))
  refine Ad2 ?_
  simp only [Ac3.l0]
  rw [hb, hd]
  refine Aa3 (by omega) (Aa3 (by omega) ?_)
  have hstep : ∀ q : Bool, q = Be4 b → Ev (fun k => Ac3.j1 k [(⟨l⟩ : S36)] s out (i : Int) (b.toNat : Int) q) (Bk8 out (An3 (fdL l) [] (b :: s.data.toList.drop (i + 1)))) := by
   intro q hq
   refine Ad2 ?_
   simp only [Ac3.j1]
   by_cases hsep : Be4 b = true
   ·rw [hq, hsep, scanA_sep _ _ _ hsep]
    refine Aa3 rfl ?_
    rw [Ag1 (by omega)]
    exact ih (d - 1) (by omega) (i + 1) out (by omega) (by omega)
   ·rw [hq, Bool.eq_false_iff.2 hsep]
    refine Ab5 (by simp) ?_
    have hj2 : ∀ q2 : Bool, q2 = Bh1 b → Ev (fun k => Ac3.j2 k [(⟨l⟩ : S36)] s out (i : Int) (b.toNat : Int) q2) (Bk8 out (An3 (fdL l) [] (b :: s.data.toList.drop (i + 1)))) := by
     intro q2 hq2
     refine Ad2 ?_
     simp only [Ac3.j2]
     by_cases hcap : Bh1 b = true
     ·have hc := of_decide_eq_true hcap
      rw [hq2, hcap, An3, if_neg (by rw [(Ax1 hcap).1]; simp), if_neg hsep, if_pos hcap, As1, if_pos rfl, ← Be0]
      refine Aa3 rfl (Aa3 (by omega) ?_)
      rw [Ag1 (by omega), show ((b.toNat : Int) - 65) % 256 = (b.toNat : Int) - 65 by omega]
      exact ih (d - 1) (by omega) (i + 1) _ (by omega) (by rw [List.length_append, List.length_singleton]; omega)
     ·rw [hq2, Bool.eq_false_iff.2 hcap]
      refine Ab5 (by simp) ?_
      have hj3 : ∀ q3 : Bool, q3 = Bg4 b → Ev (fun k => Ac3.j3 k [(⟨l⟩ : S36)] s out (i : Int) q3) (Bk8 out (An3 (fdL l) [] (b :: s.data.toList.drop (i + 1)))) := by
       intro q3 hq3
       refine Ad2 ?_
       simp only [Ac3.j3]
       by_cases hlow : Bg4 b = true
       ·have hlo := of_decide_eq_true hlow
        rw [hq3, hlow, An3, if_pos hlow, List.nil_append]
        refine Aa3 rfl (Ad2 ?_)
        simp only [Ac3.l1]
        rw [hb]
        refine Aa3 (by omega) (Aa3 (by omega) (Aa3 (by omega) (Aa3 (by omega) ?_)))
        rw [Ag1 (by omega)]
        have hp : Lib.pieceU s.data.toList i (i + 1) = [b] := by
         unfold Lib.pieceU
         rw [hd, Nat.add_sub_cancel_left]; rfl
        have := hrun (d - 1) (i + 1) (by omega) (by omega) (by rw [hp]; intro x hx; rw [List.mem_singleton.1 hx]; exact hlow)
        rw [hp] at this
        exact this
       ·rw [hq3, Bool.eq_false_iff.2 hlow, An3, if_neg hlow, if_neg hsep, if_neg hcap, As1, if_pos rfl]
        exact Ab5 (by simp) (Aa9 _)
      by_cases h97 : ((b.toNat : Int)) ≥ 97
      ·exact Aa3 h97 (hj3 _ (by unfold Bg4; exact decide_eq_decide.2 (by omega)))
      ·exact Ab5 h97 (hj3 _ (by symm; exact decide_eq_false (by omega)))
    by_cases h65 : ((b.toNat : Int)) ≥ 65
    ·exact Aa3 h65 (hj2 _ (by unfold Bh1; exact decide_eq_decide.2 (by omega)))
    ·exact Ab5 h65 (hj2 _ (by symm; exact decide_eq_false (by omega)))
  by_cases h40 : ((b.toNat : Int)) = 40
  ·exact Aa3 h40 (hstep true (by symm; exact (Bd1 b).2 (by omega)))
  refine Ab5 h40 ?_
  by_cases h41 : ((b.toNat : Int)) = 41
  ·exact Aa3 h41 (hstep true (by symm; exact (Bd1 b).2 (by omega)))
  refine Ab5 h41 (hstep _ ?_)
  by_cases h44 : ((b.toNat : Int)) = 44
  ·rw [(Bd1 b).2 (by omega)]; exact beq_iff_eq.2 h44
  ·have e : Be4 b = false := Bool.eq_false_iff.2 (fun h => by have := (Bd1 b).1 h; omega)
   rw [e]; exact beq_eq_false_iff_ne.2 h44
theorem Av6 (fd : List UInt8 → Int) : ∀ (s cur : List UInt8) (ns : List Int), An3 fd cur s = some ns → ns.length ≤ s.length + 1 ∧ (cur = [] → ns.length ≤ s.length)
 | [], cur, ns, h => by
  rw [An3, As1] at h
  by_cases hc : cur = []
  ·rw [if_pos hc] at h
   obtain rfl := Option.some.inj h
   simp
  ·rw [if_neg hc] at h
   split at h
   ·cases h
   ·simp only [Option.map_some, Option.some.injEq] at h
    subst h
    simp [hc]
 | b :: s, cur, ns, h => by
  rw [An3] at h
  have key : ∀ (o : Option (List Int)), (∀ ms, o = some ms → ms.length ≤ s.length + 1) → As1 fd cur o = some ns → ns.length ≤ s.length + 2 ∧ (cur = [] → ns.length ≤ s.length + 1) := by
   intro o ho h
   rw [As1] at h
   by_cases hc : cur = []
   ·rw [if_pos hc] at h
    have := ho ns h
    exact ⟨by omega, fun _ => this⟩
   ·rw [if_neg hc] at h
    split at h
    ·cases h
    ·cases o with
     | none => cases h
     | some ms =>
      simp only [Option.map_some, Option.some.injEq] at h
      have := ho ms rfl
      subst h
      exact ⟨by simp only [List.length_cons]; omega, fun h => absurd h hc⟩
  by_cases hl : Bg4 b = true
  ·rw [if_pos hl] at h
   obtain ⟨h1, _⟩ := Av6 fd s _ ns h
   rw [List.length_cons]
   exact ⟨by omega, fun _ => h1⟩
  ·rw [if_neg hl] at h
   rw [List.length_cons]
   refine key _ (fun ms hms => ?_) h
   by_cases hs : Be4 b = true
   ·rw [if_pos hs] at hms
    have := (Av6 fd s [] ms hms).2 rfl
    omega
   ·rw [if_neg hs] at hms
    by_cases hc : Bh1 b = true
    ·rw [if_pos hc] at hms
     cases hr : An3 fd [] s with
     | none => rw [hr] at hms; cases hms
     | some us =>
      rw [hr] at hms
      simp only [Option.map_some, Option.some.injEq] at hms
      have := (Av6 fd s [] us hr).2 rfl
      subst hms
      simp only [List.length_cons]; omega
    ·rw [if_neg hc] at hms; cases hms
def Bh2 (l : List S79) (s : ByteArray) : List Int :=
 if (s.size : Int) > 168 then [] else match An3 (fdL l) [] s.data.toList with
  | some t => if Ay3 l t = 0 then (if (Bc8 l t 0).toList = s.toList then t else []) else []
  | none => []
theorem Bg3 {l : List S79} (hs : Ay1 l = 0) (t : List Int) : Al7 l t = Ay3 l t := by unfold Al7; rw [if_pos hs]
theorem l4Read_ev (l : List S79) (hs : Ay1 l = 0) (s : ByteArray) : Ev (fun k => Am2.f k [(⟨l⟩ : S36)] s) (Bh2 l s) := by
 have hr := Ar5 l hs
 have hl := hr.len
 have hz := Lib.size_eq s
 unfold Am2.f Bh2
 refine Ap9 (fun h => Aa9 _) (fun h => ?_)
 have hN := l4Nodes_l0 l (by omega) s (by omega) s.data.toList.length 0 [] (by omega) (by simp)
 rw [List.drop_zero] at hN
 have hN' : Ev (fun k => Ac3.f k [(⟨l⟩ : S36)] s) (Bk8 [] (An3 (fdL l) [] s.data.toList)) := by
  unfold Ac3.f; exact hN
 refine Ac0 hN' ?_
 cases hc : An3 (fdL l) [] s.data.toList with
 | none => exact Ab5 (by simp [Bk8]) (Aa9 _)
 | some t =>
  have htl := (Av6 _ _ _ _ hc).2 rfl
  simp only [Bk8, List.nil_append]
  refine Aa3 trivial (Ac0 (At3 l hr t (by omega)) (Ap9 (fun h0 => ?_) (fun h0 => Aa9 _)))
  have hR := Aj2 (show Al7 l t = 0 by rw [Bg3 hs]; exact h0)
  exact Ac0 (l4Text_ev l hr t hR.len.2 hR.nodes t.length 0 (by omega) (by have := hR.len; omega) ⟨_, hR.whole⟩) (Ap9 (fun _ => Aa9 _) (fun _ => Aa9 _))
def wordsP (s : ByteArray) : List (List UInt8) := (Lib.goFieldsP Bl0 s).map (·.data.toList)
def Bo7 (l : List S79) (s : ByteArray) (t : List Int) : List Int × Bool := if Al7 l t = 0 then (if (Bc8 l t 0).toList = s.toList then (t, true) else ([], false)) else ([], false)
def Bb6 (l : List S79) (s : ByteArray) : List Int × Bool := match Bl9 (fdL l) (wordsP s) with
 | some t => Bo7 l s t
 | none => ([], false)
theorem read_text {l : List S79} {t : List Int} (h : Al7 l t = 0) {s : ByteArray} (hs : (Bc8 l t 0).toList = s.toList) : Bh2 l s = t ∧ Bb6 l s = (t, true) := by
 have hR := Aj2 h
 have hsg := sig_of h
 have hr := hR.sig
 obtain ⟨t1, t2, tn, tw⟩ := At0 h
 have he : Bc8 l t 0 = s := Bm9 (by rw [← Lib.toList_data, ← Lib.toList_data]; exact hs)
 have hsz := Az0 hr hR.nodes t2 (a := 0) (by omega) hR.whole
 have htx : Bc1 (arL l) (Ax8 l) t t.length 0 = s := by rw [← he]; rfl
 obtain ⟨r1, r2⟩ := text_read (fd := fdL l) (nm := Ax8 l) (fun n hn => by unfold arL; rw [if_pos hn]) tw (fun n hn => node_word hr (tn n hn)) t.length (Nat.le_refl _)
 rw [htx] at r1 r2
 rw [he] at hsz
 constructor
 ·unfold Bh2
  rw [if_neg (by omega), r1]
  simp only
  rw [if_pos (by rw [← Bg3 hsg]; exact h), if_pos hs]
 ·unfold Bb6 wordsP
  rw [r2]
  show Bo7 l s t = _
  unfold Bo7
  rw [if_pos h, if_pos hs]
theorem read_cases (l : List S79) (hs : Ay1 l = 0) (s : ByteArray) : (∃ t, Al7 l t = 0 ∧ (Bc8 l t 0).toList = s.toList ∧ Bh2 l s = t ∧ Bb6 l s = (t, true)) ∨ (Bh2 l s = [] ∧ Bb6 l s = ([], false) ∧ ∀ t, Al7 l t = 0 → (Bc8 l t 0).toList ≠ s.toList) := by
 by_cases h : ∃ t, Al7 l t = 0 ∧ (Bc8 l t 0).toList = s.toList
 ·obtain ⟨t, h1, h2⟩ := h
  obtain ⟨r1, r2⟩ := read_text h1 h2
  exact .inl ⟨t, h1, h2, r1, r2⟩
 ·have hno : ∀ t, Al7 l t = 0 → (Bc8 l t 0).toList ≠ s.toList := fun t h1 h2 => h ⟨t, h1, h2⟩
  refine .inr ⟨?_, ?_, hno⟩
  ·unfold Bh2
   split
   ·rfl
   ·split
    ·rename_i t _
     by_cases h0 : Ay3 l t = 0
     ·rw [if_pos h0, if_neg (hno t (by rw [Bg3 hs]; exact h0))]
     ·rw [if_neg h0]
    ·rfl
  ·unfold Bb6
   split
   ·rename_i t _
    unfold Bo7
    by_cases h0 : Al7 l t = 0
    ·rw [if_pos h0, if_neg (hno t h0)]
    ·rw [if_neg h0]
   ·rfl
end Go.Proofs.YtgichahebemmiaaGreatDoor.Pure
