/- A part of the proof of the law FnStrict. -/
import Derived.Lib.IndexMore
import Derived.Lib.SlicesCompact
import Derived.Lib.RowBridge
import Derived.Test.YtgichahebemmiaaGreatDoorCFnStrict16
import Derived.Test.YtgichahebemmiaaGreatDoorCFnStrict17
set_option linter.unusedVariables false
namespace Go.Proofs.YtgichahebemmiaaGreatDoor.Pure
open Go.RowKit Go.Proofs.YtgichahebemmiaaGreatDoor.P Go.Proofs.YtgichahebemmiaaGreatDoorW.PrintWords Go.Proofs.YtgichahebemmiaaGreatDoorW.PrintLast Go.Proofs.YtgichahebemmiaaGreatDoor.Base
def Bk7 (t : List Int) : Bool := (Ak6 (fun j => decide (rd t (j : Int) < -6)) t.length 0).isSome
theorem l4Low_ev (t : List Int) (ht : t.length ≤ 1048576) : Ev (fun k => Aj3.f k t) (!Bk7 t) := by
 unfold Aj3.f
 have h := Al1 t.length (fun j => if decide (rd t (j : Int) < -6) = true then some false else none) true (fun k i => Aj3.l0 k t i)
  (by simp only [Aj3.l0]; exact Ab5 (by omega) (Aa9 _))
  (fun i hi r hr => by
   simp only [Aj3.l0]
   refine Aa3 (by omega) (Aa3 (by omega) ?_)
   rw [Ag1 (by omega)]
   by_cases h : rd t (i : Int) < -6
   ·exact Aa3 h (Ah7 (Aa9 _) (by simp [h]))
   ·exact Ab5 h (Ah7 hr (by simp [h])))
  t.length 0 (by omega)
 rw [Ap6 (fun j => decide (rd t (j : Int) < -6)) (fun _ => false) true] at h
 refine Ah7 h ?_
 unfold Bk7
 cases Ak6 (fun j => decide (rd t (j : Int) < -6)) t.length 0 <;> rfl
def Bn9 (l : List S79) (a b : List Int) : Int :=
 if Ay3 l a = 0 then (if Ay3 l b = 0 then (if Bk7 a = true ∨ Bk7 b = true then 3 else 0) else Ay3 l b) else Ay3 l a
def Bm7 (l : List S79) (a b : List Int) : Int := if Ay1 l = 0 then Bn9 l a b else Ay1 l
theorem l4Fault_ev (l : List S79) (hr : Right l) (a b : List Int) (ha : a.length ≤ 1048576) (hb : b.length ≤ 1048576) : Ev (fun k => Aq6.f k [(⟨l⟩ : S36)] [(⟨a, b⟩ : S30)]) (Bn9 l a b) := by
 have e0 : (Ap2 [(⟨a, b⟩ : S30)] 0).f0 = a := rfl
 have e1 : (Ap2 [(⟨a, b⟩ : S30)] 0).f1 = b := rfl
 unfold Aq6.f Bn9
 simp only [e0, e1]
 refine Aa3 (by simp) (Ac0 (At3 l hr a ha) (Ap9 (fun h1 => Ac0 (At3 l hr b hb) (Ap9 (fun h2 => Ac0 (l4Low_ev a ha) ?_) (fun h2 => Aa9 _))) (fun h1 => Aa9 _)))
 have hb' := l4Low_ev b hb
 cases h3 : Bk7 a with
 | true => exact Ah7 (Ab5 (by simp) (Aa9 3)) (by simp)
 | false =>
  refine Aa3 rfl (Ac0 hb' ?_)
  cases h4 : Bk7 b with
  | true => exact Ah7 (Ab5 (by simp) (Aa9 3)) (by simp)
  | false => exact Ah7 (Aa3 rfl (Aa9 0)) (by simp)
end Go.Proofs.YtgichahebemmiaaGreatDoor.Pure
set_option linter.unusedVariables false
namespace Go.Proofs.YtgichahebemmiaaGreatDoor.Pure
open Go.RowKit Go.Proofs.YtgichahebemmiaaGreatDoor.P Go.Proofs.YtgichahebemmiaaGreatDoorW.PrintWords Go.Proofs.YtgichahebemmiaaGreatDoorW.PrintLast Go.Proofs.YtgichahebemmiaaGreatDoorW.PrintMore Go.Proofs.YtgichahebemmiaaGreatDoor.Base
theorem equF_zero {l : List S79} {a b : List Int} (h : Bm7 l a b = 0) : RightT l a ∧ RightT l b := by
 unfold Bm7 at h
 by_cases hs : Ay1 l = 0
 ·rw [if_pos hs] at h
  unfold Bn9 at h
  by_cases h1 : Ay3 l a = 0
  ·rw [if_pos h1] at h
   by_cases h2 : Ay3 l b = 0
   ·exact ⟨Aj2 (by unfold Al7; rw [if_pos hs]; exact h1), Aj2 (by unfold Al7; rw [if_pos hs]; exact h2)⟩
   ·rw [if_neg h2] at h; exact absurd h h2
  ·rw [if_neg h1] at h; exact absurd h h1
 ·rw [if_neg hs] at h; exact absurd h hs
def Be8 (s : ByteArray) : Nat → Nat → Nat → List ByteArray
 | 0, fr, i => [s.extract fr i]
 | d + 1, fr, i => if bt s (i : Int) = 61 then s.extract fr i :: Be8 s d (i + 1) (i + 1) else Be8 s d fr (i + 1)
theorem l1Cut_l0 (s : ByteArray) (hs : s.size ≤ 1048576) : ∀ (d fr i : Nat) (out : List ByteArray), i + d = s.size → fr ≤ i → out.length ≤ i →
  Ev (fun k => Ai4.l0 k s 61 out (fr : Int) (i : Int)) (out ++ Be8 s d fr i) := by
 intro d
 induction d with
 | zero =>
  intro fr i out hi hf ho
  refine Ad2 ?_
  simp only [Ai4.l0]
  refine Aa3 (by omega) (Aa3 (by omega) (Aa3 (by omega) (Aa3 (by omega) (Aa3 (by omega) ?_))))
  rw [Ag1 (by omega)]
  refine Ad2 ?_
  simp only [Ai4.l0]
  exact Ab5 (by omega) (Ah7 (Aa9 _) (by simp [Be8]))
 | succ d ih =>
  intro fr i out hi hf ho
  refine Ad2 ?_
  simp only [Ai4.l0]
  refine Aa3 (by omega) (Ab5 (by omega) (Aa3 (by omega) (Aa3 (by omega) ?_)))
  rw [Ag1 (by omega)]
  by_cases h : bt s (i : Int) = 61
  ·refine Aa3 h (Aa3 (by omega) (Aa3 (by omega) (Aa3 (by omega) ?_)))
   have := ih (i + 1) (i + 1) (out ++ [s.extract fr i]) (by omega) (by omega) (by simp; omega)
   refine Ah7 this ?_
   rw [Be8, if_pos h, List.append_assoc]; rfl
  ·refine Ab5 h ?_
   have := ih fr (i + 1) out (by omega) (by omega) (by omega)
   refine Ah7 this ?_
   rw [Be8, if_neg h]
theorem cutD_pos (s : ByteArray) : ∀ d fr i, 1 ≤ (Be8 s d fr i).length
 | 0, fr, i => by simp [Be8]
 | d + 1, fr, i => by
  rw [Be8]
  split
  ·simp
  ·exact cutD_pos s d _ _
theorem Be1 (s : ByteArray) : ∀ (d fr i : Nat), (∀ j, i ≤ j → j < i + d → bt s (j : Int) ≠ 61) → Be8 s d fr i = [s.extract fr (i + d)]
 | 0, fr, i, _ => rfl
 | d + 1, fr, i, h => by
  rw [Be8, if_neg (h i (by omega) (by omega)), Be1 s d fr (i + 1) (fun j h1 h2 => h j (by omega) (by omega))]
  rw [show i + 1 + d = i + (d + 1) by omega]
theorem cutD_some (s : ByteArray) : ∀ (d fr i j : Nat), i ≤ j → j < i + d → bt s (j : Int) = 61 → (∀ q, i ≤ q → q < j → bt s (q : Int) ≠ 61) → Be8 s d fr i = s.extract fr j :: Be8 s (i + d - (j + 1)) (j + 1) (j + 1)
 | 0, fr, i, j, h1, h2, _, _ => by omega
 | d + 1, fr, i, j, h1, h2, h3, h4 => by
  by_cases hij : i = j
  ·subst hij
   rw [Be8, if_pos h3, show i + (d + 1) - (i + 1) = d by omega]
  ·rw [Be8, if_neg (h4 i (by omega) (by omega)), cutD_some s d fr (i + 1) j (by omega) (by omega) h3 (fun q h5 h6 => h4 q (by omega) h6), show i + 1 + d - (j + 1) = i + (d + 1) - (j + 1) by omega]
theorem cutD_two (s : ByteArray) : ∀ (d fr i j : Nat), i ≤ j → j < i + d → bt s (j : Int) = 61 → 2 ≤ (Be8 s d fr i).length
 | 0, fr, i, j, h1, h2, _ => by omega
 | d + 1, fr, i, j, h1, h2, h3 => by
  rw [Be8]
  by_cases h : bt s (i : Int) = 61
  ·rw [if_pos h]
   have := cutD_pos s d (i + 1) (i + 1)
   simp only [List.length_cons]
   omega
  ·rw [if_neg h]
   have hij : i ≠ j := fun e => h (by rw [e]; exact h3)
   exact cutD_two s d fr (i + 1) j (by omega) (by omega) h3
theorem Ba1 (fd : List UInt8 → Int) : ∀ (s cur : List UInt8) (r : List Int), An3 fd cur s = some r → (61 : UInt8) ∉ s
 | [], _, _, _ => by simp
 | b :: s, cur, r, h => by
  rw [An3] at h
  by_cases hb : Bg4 b = true
  ·rw [if_pos hb] at h
   have := Ba1 fd s _ _ h
   intro hm
   rcases List.mem_cons.1 hm with e | e
   ·subst e; revert hb; decide
   ·exact this e
  ·rw [if_neg hb] at h
   have key : ∃ r', (if Be4 b = true then An3 fd [] s else if Bh1 b = true then (An3 fd [] s).map (fun ns => (-1 - ((b.toNat : Int) - 65)) :: ns) else none) = some r' := by
    unfold As1 at h
    split at h
    ·exact ⟨_, h⟩
    ·split at h
     ·cases h
     ·obtain ⟨r', hr', _⟩ := Option.map_eq_some_iff.1 h
      exact ⟨r', hr'⟩
   obtain ⟨r', hr'⟩ := key
   have hs : ∃ q, An3 fd [] s = some q := by
    split at hr'
    ·exact ⟨_, hr'⟩
    ·split at hr'
     ·obtain ⟨q, hq, _⟩ := Option.map_eq_some_iff.1 hr'
      exact ⟨q, hq⟩
     ·cases hr'
   obtain ⟨q, hq⟩ := hs
   have := Ba1 fd s _ _ hq
   intro hm
   rcases List.mem_cons.1 hm with e | e
   ·subst e
    have h1 : Be4 61 = false := by decide
    have h2 : Bh1 61 = false := by decide
    rw [h1, h2] at hr'
    simp at hr'
   ·exact this e
theorem text_plain {l : List S79} {t : List Int} (h : Al7 l t = 0) : (61 : UInt8) ∉ (Bc8 l t 0).data.toList := by
 have hR := Aj2 h
 obtain ⟨t1, t2, tn, tw⟩ := At0 h
 have h1 := (text_read (fd := fdL l) (nm := Ax8 l) (fun n hn => by unfold arL; rw [if_pos hn]) tw (fun n hn => node_word hR.sig (tn n hn)) t.length (Nat.le_refl _)).1
 exact Ba1 _ _ _ _ h1
def Bo2 (l : List S79) (s : ByteArray) : Int × List Int × List Int :=
 if Ay1 l = 0 then
  let c := Lib.cut s.data.toList [61]
  let x : ByteArray := ⟨c.1.toArray⟩
  let y : ByteArray := ⟨c.2.1.toArray⟩
  if c.2.2 = true ∧ (Bb6 l x).2 = true ∧ (Bb6 l y).2 = true then (if Bm7 l (Bb6 l x).1 (Bb6 l y).1 = 0 then (0, (Bb6 l x).1, (Bb6 l y).1) else (5, [], [])) else (5, [], [])
 else (Ay1 l, [], [])
theorem Av5 (l : List S79) (hs : Ay1 l = 0) (s : ByteArray) : (Bb6 l s).1.length ≤ 1000 := by
 rcases read_cases l hs s with ⟨t, h1, _, _, h4⟩ | ⟨_, h4, _⟩
 ·rw [h4]
  have := (Aj2 h1).len
  simp only; omega
 ·rw [h4]; simp
theorem readQ_P (l : List S79) (hs : Ay1 l = 0) (s : ByteArray) : Bh2 l s = (Bb6 l s).1 := by
 rcases read_cases l hs s with ⟨t, _, _, h3, h4⟩ | ⟨h3, h4, _⟩ <;> rw [h3, h4]
theorem reqR_length (l : List S79) (s : ByteArray) : (Bo2 l s).2.1.length ≤ 1000 ∧ (Bo2 l s).2.2.length ≤ 1000 := by
 unfold Bo2
 by_cases hs : Ay1 l = 0
 ·rw [if_pos hs]
  simp only
  split
  ·split
   ·exact ⟨Av5 l hs _, Av5 l hs _⟩
   ·simp
  ·simp
 ·rw [if_neg hs]; simp
theorem Bi5 (s : List UInt8) (c : UInt8) (j : Nat) : Lib.occAt s [c] j = true ↔ s[j]? = some c := by
 have e : s[j]? = (s.drop j)[0]? := by simp
 rw [e]
 unfold Lib.occAt
 cases s.drop j with
 | nil => simp
 | cons b r =>
  simp only [List.isPrefixOf, Bool.and_true, beq_iff_eq, List.getElem?_cons_zero, Option.some.injEq]
  exact eq_comm
theorem Bm8 (s : ByteArray) (j : Nat) (hj : j < s.data.toList.length) : bt s (j : Int) = 61 ↔ s.data.toList[j]? = some 61 := by
 rw [Bk1 s j hj, List.getElem?_eq_getElem hj]
 constructor
 ·intro h
  have h2 : (s.data.toList[j]).toNat = 61 := by omega
  rw [show s.data.toList[j] = 61 from UInt8.toNat_inj.1 h2]
 ·intro h
  rw [Option.some.inj h]; rfl
theorem ext_take (s : ByteArray) (j : Nat) (hj : j ≤ s.data.toList.length) : s.extract 0 j = ⟨(s.data.toList.take j).toArray⟩ := Bm9 (by simp)
theorem ext_drop (s : ByteArray) (j : Nat) (hj : j ≤ s.data.toList.length) : s.extract j s.data.toList.length = ⟨(s.data.toList.drop j).toArray⟩ := Bm9 (by
 simp
 rw [List.take_of_length_le (by simp)])
theorem equF_nil_left (l : List S79) (hs : Ay1 l = 0) (b : List Int) : Bn9 l [] b ≠ 0 := by
 intro h
 have h' : Bm7 l [] b = 0 := by unfold Bm7; rw [if_pos hs]; exact h
 have := (equF_zero h').1.len
 simp at this
theorem equF_nil_right (l : List S79) (hs : Ay1 l = 0) (a : List Int) : Bn9 l a [] ≠ 0 := by
 intro h
 have h' : Bm7 l a [] = 0 := by unfold Bm7; rw [if_pos hs]; exact h
 have := (equF_zero h').2.len
 simp at this
theorem ReadEquation_spec (l : List S79) (s : ByteArray) (hz : s.size ≤ 1048576) : Ev (fun k => Af6.f k l s) (Bo2 l s) := by
 unfold Af6.f Bo2
 refine Ac0 (Am1 l) (Ap9 (fun h => ?_) (fun h => Aa9 _))
 have hsz := Lib.size_eq s
 have hcut : Ev (fun k => Ai4.f k s 61) (Be8 s s.size 0 0) := by
  unfold Ai4.f
  have := l1Cut_l0 s hz s.size 0 0 [] (by omega) (Nat.le_refl _) (by simp)
  exact this
 have hG : ∀ a b, Bm7 l a b = Bn9 l a b := fun a b => by unfold Bm7; rw [if_pos h]
 simp only [hG]
 -- where the first '=' is
 rcases Lib.index_spec s.data.toList [61] with ⟨hi, hno⟩ | ⟨i, hi, hil, hocc, hfirst⟩
 ·have hc : Lib.cut s.data.toList [61] = (s.data.toList, [], false) := by
   unfold Lib.cut; rw [if_neg (by omega)]
  rw [hc]
  simp only [Bool.false_eq_true, false_and, if_false]
  by_cases hb : (s.size : Int) > 337
  ·exact Aa3 hb (Aa9 _)
  refine Ab5 hb (Ac0 hcut ?_)
  have hp : Be8 s s.size 0 0 = [s.extract 0 (0 + s.size)] := Be1 s s.size 0 0 (fun j _ hj => by
   intro hb
   have := (Bm8 s j (by omega)).1 hb
   have := (Bi5 s.data.toList 61 j).2 this
   rw [hno j (by omega)] at this; cases this)
  rw [hp]
  exact Ab5 (by simp) (Aa9 _)
 ·have hib := (Bi5 _ _ _).1 hocc
  have hil2 : i < s.data.toList.length := by
   rcases Nat.lt_or_ge i s.data.toList.length with h | h
   ·exact h
   ·rw [List.getElem?_eq_none h] at hib; cases hib
  have hc : Lib.cut s.data.toList [61] = (s.data.toList.take i, s.data.toList.drop (i + 1), true) := by
   unfold Lib.cut
   rw [hi, if_pos (by omega)]
   have e1 : ((i : Int)).toNat = i := by omega
   rw [e1]; rfl
  rw [hc]
  simp only [true_and]
  have hp := cutD_some s s.size 0 0 i (by omega) (by omega) ((Bm8 s i hil2).2 hib) (fun q _ hq => by
   intro hb
   have := (Bm8 s q (by omega)).1 hb
   have := (Bi5 s.data.toList 61 q).2 this
   rw [hfirst q hq] at this; cases this)
  rw [ext_take s i (by omega)] at hp
  rw [show 0 + s.size - (i + 1) = s.size - (i + 1) by omega] at hp
  generalize hX : (⟨(s.data.toList.take i).toArray⟩ : ByteArray) = X at *
  generalize hY : (⟨(s.data.toList.drop (i + 1)).toArray⟩ : ByteArray) = Y at *
  have hXl : X.data.toList = s.data.toList.take i := by rw [← hX]
  have hYl : Y.data.toList = s.data.toList.drop (i + 1) := by rw [← hY]
  by_cases hbig : (s.size : Int) > 337
  ·refine Aa3 hbig ?_
   refine Ah7 (Aa9 _) ?_
   rw [if_neg]
   rintro ⟨h1, h2⟩
   rcases read_cases l h X with ⟨t, r1, r2, _, _⟩ | ⟨_, r4, _⟩
   ·rcases read_cases l h Y with ⟨u, q1, q2, _, _⟩ | ⟨_, q4, _⟩
    ·have s1 := Az0 (Aj2 r1).sig (Aj2 r1).nodes (At0 r1).2.1 (a := 0) (by have := (At0 r1).1; omega) (Aj2 r1).whole
     have s2 := Az0 (Aj2 q1).sig (Aj2 q1).nodes (At0 q1).2.1 (a := 0) (by have := (At0 q1).1; omega) (Aj2 q1).whole
     have e1 : Bc8 l t 0 = X := Bm9 (by rw [← Lib.toList_data, ← Lib.toList_data]; exact r2)
     have e2 : Bc8 l u 0 = Y := Bm9 (by rw [← Lib.toList_data, ← Lib.toList_data]; exact q2)
     rw [e1, Lib.size_eq, hXl, List.length_take] at s1
     rw [e2, Lib.size_eq, hYl, List.length_drop] at s2
     omega
    ·rw [q4] at h2; cases h2
   ·rw [r4] at h1; cases h1
  refine Ab5 hbig (Ac0 hcut ?_)
  by_cases hmore : ∃ j, i + 1 ≤ j ∧ j < s.size ∧ bt s (j : Int) = 61
  ·-- a second '='
   obtain ⟨j0, hj0⟩ := hmore
   have hlen : 3 ≤ (Be8 s s.size 0 0).length := by
    rw [hp]
    have := cutD_two s (s.size - (i + 1)) (i + 1) (i + 1) j0 hj0.1 (by omega) hj0.2.2
    simp only [List.length_cons]
    omega
   refine Ab5 (by omega) (Ah7 (Aa9 _) ?_)
   rw [if_neg]
   rintro ⟨_, h2⟩
   rcases read_cases l h Y with ⟨u, q1, q2, _, _⟩ | ⟨_, q4, _⟩
   ·have e2 : Bc8 l u 0 = Y := Bm9 (by rw [← Lib.toList_data, ← Lib.toList_data]; exact q2)
    have hno := text_plain q1
    rw [e2, hYl] at hno
    apply hno
    have hj := (Bm8 s j0 (by omega)).1 hj0.2.2
    refine List.mem_iff_getElem?.2 ⟨j0 - (i + 1), ?_⟩
    rw [List.getElem?_drop, show i + 1 + (j0 - (i + 1)) = j0 by omega]
    exact hj
   ·rw [q4] at h2; cases h2
  ·have hp2 : Be8 s (s.size - (i + 1)) (i + 1) (i + 1) = [Y] := by
    rw [Be1 s (s.size - (i + 1)) (i + 1) (i + 1) (fun j h1 h2 hb => hmore ⟨j, h1, by omega, hb⟩), show i + 1 + (s.size - (i + 1)) = s.data.toList.length by omega, ext_drop s (i + 1) (by omega), hY]
   rw [hp, hp2]
   have g0 : As6 ByteArray.empty [X, Y] 0 = X := rfl
   have g1 : As6 ByteArray.empty [X, Y] 1 = Y := rfl
   rw [g0, g1]
   refine Aa3 (by simp) (Aa3 (by simp) (Ac0 (l4Read_ev l h X) (Aa3 (by simp) (Ac0 (l4Read_ev l h Y) ?_))))
   rw [readQ_P l h X, readQ_P l h Y]
   have lx := Av5 l h X
   have ly := Av5 l h Y
   refine Ac0 (l4Fault_ev l (Ar5 l h) _ _ (by omega) (by omega)) ?_
   rcases read_cases l h X with ⟨t, _, _, _, r4⟩ | ⟨_, r4, _⟩
   ·rcases read_cases l h Y with ⟨u, _, _, _, q4⟩ | ⟨_, q4, _⟩
    ·rw [r4, q4]
     simp only [and_self, if_true]
     exact Ap9 (fun _ => Aa9 _) (fun _ => Aa9 _)
    ·rw [q4]
     refine Ab5 (equF_nil_right l h _) (Ah7 (Aa9 _) ?_)
     simp
   ·rw [r4]
    refine Ab5 (equF_nil_left l h _) (Ah7 (Aa9 _) ?_)
    simp
end Go.Proofs.YtgichahebemmiaaGreatDoor.Pure
set_option linter.unusedVariables false
namespace Go.Proofs.YtgichahebemmiaaGreatDoor.Pure
open Go.RowKit Go.Proofs.YtgichahebemmiaaGreatDoor.P Go.Proofs.YtgichahebemmiaaGreatDoorW.PrintWords Go.Proofs.YtgichahebemmiaaGreatDoorW.PrintLast Go.Proofs.YtgichahebemmiaaGreatDoor.Base
theorem l4Pool_l0 {c : List Int} (hc : Code c) {l : List S79} (hr : Right l) (hz : ∃ z : Nat, z < l.length ∧ (Ac2 l (z : Int)).f1 = 0) (xs : List ByteArray) (hn : xs.length ≤ 100) (h0 : 0 < xs.length) (hx : ∀ j, (As6 ByteArray.empty xs j).size ≤ 1048576) (n : Int) (n0 : 0 ≤ n) (n1 : n < 1000) {a : Int} (a0 : 0 ≤ a) (a1 : a ≤ 10000) :
  ∀ (d i : Nat), i + d = xs.length → ∃ u v b, Ev (fun k => Af7.l0 k [(⟨l⟩ : S36)] xs (xs.length : Int) n (i : Int) c a) (u, v, b) ∧ u.length ≤ 1000 ∧ v.length ≤ 1000 ∧ a ≤ b ∧ b ≤ a + 30 := by
 intro d
 induction d with
 | zero =>
  intro i hi
  obtain ⟨u, b, hu, u1, u2, b0, b1⟩ := Ax9 hc hr hz 2 (by omega) 4 (by omega) (by omega) a a0 (by omega)
  obtain ⟨v, e, hv, v1, v2, e0, e1⟩ := Ax9 hc hr hz 2 (by omega) 2 (by omega) (by omega) b (by omega) (by omega)
  refine ⟨u, v, e, Ad2 ?_, by omega, by omega, by omega, by omega⟩
  simp only [Af7.l0]
  exact Ab5 (by omega) (Ac0 hu (Ac0 hv (Aa9 _)))
 | succ d ih =>
  intro i hi
  obtain ⟨u, v, b, hu, u1, v1, b0, b1⟩ := ih (i + 1) (by omega)
  obtain ⟨m0, m1⟩ := Bb9 (x := n + (i : Int)) (n := (xs.length : Int)) (by omega) (by omega)
  have hw : wrap64 (n + (i : Int)) = n + (i : Int) := Aj1 (by omega) (by omega)
  have hR := ReadEquation_spec l (As6 ByteArray.empty xs (Int.tmod (n + (i : Int)) (xs.length : Int))) (hx _)
  have hL := reqR_length l (As6 ByteArray.empty xs (Int.tmod (n + (i : Int)) (xs.length : Int)))
  by_cases h : (Bo2 l (As6 ByteArray.empty xs (Int.tmod (n + (i : Int)) (xs.length : Int)))).1 = 0
  ·refine ⟨_, _, a, Ad2 ?_, hL.1, hL.2, by omega, by omega⟩
   simp only [Af7.l0, Ax7]
   rw [hw]
   exact Aa3 (by omega) (Aa3 (by simp) (Ab5 (by omega) (Aa3 m0 (Aa3 m1 (Ac0 hR (Aa3 h (Aa9 _)))))))
  ·refine ⟨u, v, b, Ad2 ?_, u1, v1, b0, b1⟩
   simp only [Af7.l0, Ax7]
   rw [hw, Ag1 (by omega)]
   exact Aa3 (by omega) (Aa3 (by simp) (Ab5 (by omega) (Aa3 m0 (Aa3 m1 (Ac0 hR (Ab5 h hu))))))
theorem l4Pool_ex {c : List Int} (hc : Code c) {l : List S79} (hr : Right l) (hz : ∃ z : Nat, z < l.length ∧ (Ac2 l (z : Int)).f1 = 0) {a : Int} (a0 : 0 ≤ a) (a1 : a ≤ 9000) :
  ∃ u v b, Ev (fun k => Af7.f k c a [(⟨l⟩ : S36)]) (u, v, b) ∧ u.length ≤ 1000 ∧ v.length ≤ 1000 ∧ a ≤ b ∧ b ≤ a + 40 := by
 have key : ∀ xs : List ByteArray, xs.length = 18 → (∀ x ∈ xs, x.size ≤ 100) → ∃ u v b, Ev (fun k => (some xs).bind fun y810 => ((Ad7.f c a (y810.length : Int)).bind fun bt813 => (Af7.l0 k [(⟨l⟩ : S36)] y810 (y810.length : Int) bt813.1 0 c bt813.2))) (u, v, b) ∧ u.length ≤ 1000 ∧ v.length ≤ 1000 ∧ a ≤ b ∧ b ≤ a + 40 := by
  intro xs hl hs
  obtain ⟨n, hn, _, hb⟩ := An5 hc (a := a) (n := (xs.length : Int)) a0 (by omega) (by omega)
  obtain ⟨n0, n1⟩ := hb (by omega)
  have hx : ∀ j, (As6 ByteArray.empty xs j).size ≤ 1048576 := by
   intro j
   unfold As6
   rw [List.getD_eq_getElem?_getD]
   cases hq : xs[j.toNat]? with
   | none => simp [ByteArray.size]
   | some x =>
    have := hs x (List.mem_of_getElem? hq)
    simp only [Option.getD_some]; omega
  obtain ⟨u, v, b, hu, u1, v1, b0, b1⟩ := l4Pool_l0 hc hr hz xs (by omega) (by omega) hx n n0 (by omega) (a := a + 1) (by omega) (by omega) xs.length 0 (by omega)
  exact ⟨u, v, b, Ac6 rfl (Ac6 hn hu), u1, v1, by omega, by omega⟩
 unfold Af7.f
 exact key _ rfl (by
  intro x hx
  simp only [List.mem_cons, List.not_mem_nil, or_false] at hx
  rcases hx with rfl | rfl | rfl | rfl | rfl | rfl | rfl | rfl | rfl | rfl | rfl | rfl | rfl | rfl | rfl | rfl | rfl | rfl <;> decide)
theorem l4Draw_ex {c : List Int} (hc : Code c) {l : List S79} (hr : Right l) (hz : ∃ z : Nat, z < l.length ∧ (Ac2 l (z : Int)).f1 = 0) {a : Int} (a0 : 0 ≤ a) (a1 : a ≤ 5000) :
  ∃ u v b, Ev (fun k => Ar7.f k c a [(⟨l⟩ : S36)]) (u, v, b) ∧ u.length ≤ 1000 ∧ v.length ≤ 1000 ∧ a ≤ b ∧ b ≤ a + 200 := by
 unfold Ar7.f
 obtain ⟨q, hq⟩ := Ao3 hc (a := a) (n := 4) a0 (by omega) (by omega)
 cases q with
 | true =>
  obtain ⟨m, hm, hmm⟩ := Ap8 hc (a := a + 1) (by omega) (by omega) [4, 7, 9] (by simp) (by simp)
  have hm' : m = 4 ∨ m = 7 ∨ m = 9 := by simpa using hmm
  obtain ⟨m, rfl⟩ := Int.eq_ofNat_of_zero_le (show 0 ≤ m by omega)
  obtain ⟨u, b, hu, u1, u2, b0, b1⟩ := Ax9 hc hr hz 3 (by omega) m (by omega) (by omega) (a + 1 + 1) (by omega) (by omega)
  obtain ⟨n, hn, hnn⟩ := Ap8 hc (a := b) (by omega) (by omega) [1, 3, 5] (by simp) (by simp)
  have hn' : n = 1 ∨ n = 3 ∨ n = 5 := by simpa using hnn
  obtain ⟨n, rfl⟩ := Int.eq_ofNat_of_zero_le (show 0 ≤ n by omega)
  obtain ⟨v, e, hv, v1, v2, e0, e1⟩ := Ax9 hc hr hz 3 (by omega) n (by omega) (by omega) (b + 1) (by omega) (by omega)
  exact ⟨u, v, e, Ac6 hq (Aa3 rfl (Ac6 hm (Ac0 hu (Ac6 hn (Ac0 hv (Aa9 _)))))), by omega, by omega, by omega, by omega⟩
 | false =>
  obtain ⟨u, v, b, hu, u1, v1, b0, b1⟩ := l4Pool_ex hc hr hz (a := a + 1) (by omega) (by omega)
  exact ⟨u, v, b, Ac6 hq (Ab5 (by simp) (Ac0 hu (Aa9 _))), u1, v1, by omega, by omega⟩
theorem l4Bent_ex {c : List Int} (hc : Code c) (l : List S79) (hl : l.length ≤ 7) {a : Int} (a0 : 0 ≤ a) (a1 : a ≤ 1000) :
  ∃ u v b, Ev (fun k => Ak9.f k c a [(⟨l⟩ : S36)]) (u, v, b) ∧ u.length ≤ 1000 ∧ v.length ≤ 1000 ∧ a ≤ b ∧ b ≤ a + 1000 := by
 unfold Ak9.f
 simp only [Ax7]
 by_cases hs : Ay1 l = 0
 ·have hr := Ar5 l hs
  have hz := zero_of l hs
  have hS := Am1 l
  rw [hs] at hS
  obtain ⟨q, hq⟩ := Ao3 hc (a := a) (n := 6) a0 (by omega) (by omega)
  cases q with
  | true =>
   obtain ⟨u, b, hu, u1, b0, b1⟩ := Ay9 hc l hl 9 (by omega) (by omega) 7 (by omega) (a := a + 1) (by omega) (by omega)
   obtain ⟨v, e, hv, v1, e0, e1⟩ := Ay9 hc l hl 5 (by omega) (by omega) 12 (by omega) (a := b) (by omega) (by omega)
   exact ⟨u, v, e, Aa3 (by simp) (Ac0 hS (Aa3 rfl (Ac6 hq (Aa3 rfl (Ac0 hu (Ac0 hv (Aa9 _))))))), by omega, by omega, by omega, by omega⟩
  | false =>
   obtain ⟨u, v, b, hu, u1, v1, b0, b1⟩ := l4Draw_ex hc hr hz (a := a + 1) (by omega) (by omega)
   exact ⟨u, v, b, Aa3 (by simp) (Ac0 hS (Aa3 rfl (Ac6 hq (Ab5 (by simp) (Ac0 hu (Aa9 _)))))), u1, v1, by omega, by omega⟩
 ·have hS := Am1 l
  exact ⟨[0], [0], a, Aa3 (by simp) (Ac0 hS (Ab5 hs (Aa9 _))), by simp, by simp, by omega, by omega⟩
theorem l1Ints_eq (o : List Int) (ho : o.length ≤ 1048576) : Ar9.f o = some o := by
 unfold Ar9.f
 simp only [Option.bind_some, List.length_nil, Nat.zero_add, List.nil_append]
 exact if_pos (by omega)
def Bj9 (t : List Int) (a : Int) : Bool := decide (0 ≤ a ∧ a ≤ (t.length : Int) - 1)
theorem l3Place_eq (t : List Int) (ht : t.length ≤ 1048576) (a : Int) : Aq7.f t a = some (Bj9 t a) := by
 unfold Aq7.f Bj9
 rw [Bg7, Aj1 (by omega) (by omega)]; rfl
def endAt (l : List S79) (t : List Int) (a : Nat) : Nat := (Ar0 (arL l) t 1 a).getD 0
theorem end_both {l : List S79} {t : List Int} (h : Al7 l t = 0) {a : Int} (ha : Bj9 t a = true) :
  ∃ i : Nat, a = (i : Int) ∧ i < t.length ∧ i < endAt l t i ∧ endAt l t i ≤ t.length ∧ Ev (fun k => Ae9.f k [(⟨l⟩ : S36)] t (i : Int)) (endAt l t i : Int) ∧ Ev (fun k => Ae5.f k l t (i : Int)) (endAt l t i : Int) := by
 have hr := Aj2 h
 have hl := hr.len
 have hs := of_decide_eq_true ha
 obtain ⟨i, rfl⟩ := Int.eq_ofNat_of_zero_le hs.1
 obtain ⟨e, he⟩ := endN_sub _ t hr.whole i (by omega)
 obtain ⟨_, h1, h2⟩ := Al3 (by omega) he
 have e1 := Av7 l hr.sig t (by omega) hr.nodes (t.length - i) i (by omega)
 have e2 := Bc9 l hr.sig t (by omega) hr.nodes i (by omega)
 rw [he] at e1 e2
 refine ⟨i, rfl, by omega, ?_, ?_, ?_, ?_⟩
 ·unfold endAt; rw [he]; exact h1
 ·unfold endAt; rw [he]; exact h2
 ·unfold endAt; rw [he]; exact e1
 ·unfold endAt; rw [he]; exact e2
def Bo5 (l : List S79) (t : List Int) (a : Int) (b : List Int) : List Int := t.take a.toNat ++ b ++ t.drop (endAt l t a.toNat)
def Bo3 (l : List S79) (t : List Int) (a : Int) (b : List Int) : Int × List Int :=
 if Al7 l t = 0 then (if Bj9 t a = true then (if Al7 l b = 0 then (if ((Bo5 l t a b).length : Int) > 24 then (2, []) else (0, Bo5 l t a b)) else (Al7 l b, [])) else (3, [])) else (Al7 l t, [])
theorem repR_length (l : List S79) (t : List Int) (a : Int) (b : List Int) : (Bo3 l t a b).2.length ≤ 1000 := by
 unfold Bo3
 split
 ·split
  ·split
   ·split
    ·simp
    ·simp only; omega
   ·simp
  ·simp
 ·simp
theorem ReplaceAt_spec (l : List S79) (t : List Int) (ht : t.length ≤ 1048576) (a : Int) (b : List Int) (hb : b.length ≤ 1048576) : Ev (fun k => Ai5.f k l t a b) (Bo3 l t a b) := by
 unfold Ai5.f Bo3
 refine Ac0 (TermFault_spec l t ht) (Ap9 (fun h => ?_) (fun h => Aa9 _))
 have hr := Aj2 h
 refine Ac6 (l3Place_eq t ht a) (Ap9 (fun ha => ?_) (fun ha => Aa9 _))
 have hg : Al7 l b = Ay3 l b := by
  unfold Al7
  by_cases hs : Ay1 l = 0
  ·rw [if_pos hs]
  ·unfold Al7 at h; rw [if_neg hs] at h; exact absurd h hs
 have hf := At3 l hr.sig b hb
 rw [← hg] at hf
 refine Ac0 hf (Ap9 (fun hc => ?_) (fun hc => Aa9 _))
 obtain ⟨i, rfl, h0, h1, h2, e1, e2⟩ := end_both h ha
 refine Ac0 (a := Bo5 l t (i : Int) b) ?_ (Ap9 (fun _ => Aa9 _) (fun _ => Aa9 _))
 have hl := hr.len
 have hbl := (Aj2 hc).len
 unfold Aq0.f Bo5
 refine Aa3 (by omega) (Aa3 (by omega) ?_)
 rw [Int.toNat_natCast]
 refine Ac6 (l1Ints_eq _ (by rw [List.length_take]; omega)) (Aa3 (by rw [List.length_take]; omega) (Ac6 rfl (Ac0 e1 (Aa3 (by omega) (Aa3 (by omega) ?_)))))
 rw [Int.toNat_natCast]
 exact Aa3 (by simp only [List.length_append, List.length_take, List.length_drop]; omega) (Aa9 _)
theorem DrawCompareTerms_ex {c : List Int} (hc : Code c) : ∃ g o a b, Ev (fun k => Ac4.f k c) (g, o, a, b) ∧ o.length ≤ 1000 ∧ a.length ≤ 1000 ∧ b.length ≤ 1000 := by
 unfold Ac4.f Aq9.f
 obtain ⟨g, b, hg, gl, b0, b1⟩ := l2Bent_ex hc (a := 0) (by omega) (by omega)
 obtain ⟨o, e, ho, ol, e0, e1⟩ := l2BentOrder_ex hc (a := b) (by omega) (by omega) g gl
 obtain ⟨q, hq⟩ := Ao3 hc (a := e) (n := 3) (by omega) (by omega) (by omega)
 cases q with
 | true =>
  obtain ⟨u, v, f, hu, u1, v1, f0, f1⟩ := l4Bent_ex hc g gl (a := e + 1) (by omega) (by omega)
  exact ⟨g, o, v, u, Ac6 rfl (Ac0 hg (Ac0 ho (Ac6 hq (Aa3 rfl (Ac0 hu (Aa9 _)))))), by omega, v1, u1⟩
 | false =>
  obtain ⟨m, hm, hmm⟩ := Ap8 hc (a := e + 1) (by omega) (by omega) [4, 8, 14, 24] (by simp) (by simp)
  have hm' : m = 4 ∨ m = 8 ∨ m = 14 ∨ m = 24 := by simpa using hmm
  obtain ⟨m, rfl⟩ := Int.eq_ofNat_of_zero_le (show 0 ≤ m by omega)
  obtain ⟨v, hv, hvm⟩ := Ap8 hc (a := e + 1 + 1) (by omega) (by omega) [0, 2, 3] (by simp) (by simp)
  have hv' : v = 0 ∨ v = 2 ∨ v = 3 := by simpa using hvm
  obtain ⟨a, d, ha, al, d0, d1⟩ := Ay9 hc g gl m (by omega) (by omega) v (by omega) (a := e + 1 + 1 + 1) (by omega) (by omega)
  obtain ⟨m2, hm2, hmm2⟩ := Ap8 hc (a := d) (by omega) (by omega) [4, 8, 14, 24] (by simp) (by simp)
  have hm2' : m2 = 4 ∨ m2 = 8 ∨ m2 = 14 ∨ m2 = 24 := by simpa using hmm2
  obtain ⟨m2, rfl⟩ := Int.eq_ofNat_of_zero_le (show 0 ≤ m2 by omega)
  obtain ⟨v2, hv2, hvm2⟩ := Ap8 hc (a := d + 1) (by omega) (by omega) [0, 2, 3] (by simp) (by simp)
  have hv2' : v2 = 0 ∨ v2 = 2 ∨ v2 = 3 := by simpa using hvm2
  obtain ⟨b', d', hb', bl', d0', d1'⟩ := Ay9 hc g gl m2 (by omega) (by omega) v2 (by omega) (a := d + 1 + 1) (by omega) (by omega)
  obtain ⟨p, hp⟩ := Ao3 hc (a := d') (n := 4) (by omega) (by omega) (by omega)
  cases p with
  | false => exact ⟨g, o, a, b', Ac6 rfl (Ac0 hg (Ac0 ho (Ac6 hq (Ab5 (by simp) (Ac6 hm (Ac6 hv (Ac0 ha (Ac6 hm2 (Ac6 hv2 (Ac0 hb' (Ac6 hp (Ab5 (by simp) (Aa9 _))))))))))))), by omega, by omega, by omega⟩
  | true =>
   obtain ⟨x, hx, _⟩ := An5 hc (a := d' + 1) (n := (a.length : Int)) (by omega) (by omega) (by omega)
   obtain ⟨y, f, hy, yl, f0, f1⟩ := Ay9 hc g gl 2 (by omega) (by omega) 2 (by omega) (a := d' + 1 + 1) (by omega) (by omega)
   have hR := ReplaceAt_spec g a (by omega) x y (by omega)
   have hL := repR_length g a x y
   by_cases h0 : (Bo3 g a x y).1 = 0
   ·exact ⟨g, o, a, (Bo3 g a x y).2, Ac6 rfl (Ac0 hg (Ac0 ho (Ac6 hq (Ab5 (by simp) (Ac6 hm (Ac6 hv (Ac0 ha (Ac6 hm2 (Ac6 hv2 (Ac0 hb' (Ac6 hp (Aa3 rfl (Ac6 hx (Ac0 hy (Ac0 hR (Aa3 h0 (Aa9 _))))))))))))))))), by omega, by omega, hL⟩
   ·exact ⟨g, o, a, b', Ac6 rfl (Ac0 hg (Ac0 ho (Ac6 hq (Ab5 (by simp) (Ac6 hm (Ac6 hv (Ac0 ha (Ac6 hm2 (Ac6 hv2 (Ac0 hb' (Ac6 hp (Aa3 rfl (Ac6 hx (Ac0 hy (Ac0 hR (Ab5 h0 (Aa9 _))))))))))))))))), by omega, by omega, by omega⟩
theorem lwNums_l0 (a b : List Int) (hab : a.length = b.length) (hl : a.length ≤ 9223372036854775807) : ∀ (d i : Nat), i + d = a.length → Ev (fun k => Ak0.l0 k a b (i : Int)) (decide (a.drop i = b.drop i)) := by
 intro d
 induction d with
 | zero =>
  intro i hi
  refine Ad2 ?_
  simp only [Ak0.l0]
  refine Ab5 (by omega) ?_
  rw [List.drop_eq_nil_of_le (by omega), List.drop_eq_nil_of_le (by omega)]
  exact Aa9 _
 | succ d ih =>
  intro i hi
  refine Ad2 ?_
  simp only [Ak0.l0]
  refine Aa3 (by omega) (Aa3 (by omega) (Aa3 (by omega) ?_))
  rw [Bi4 a i (by omega), Bi4 b i (by omega)]
  by_cases h : rd a (i : Int) = rd b (i : Int)
  ·refine Aa3 h ?_
   rw [Ag1 (by omega)]
   refine Ah7 (ih (i + 1) (by omega)) ?_
   simp [h]
  ·refine Ab5 h ?_
   refine Ah7 (Aa9 _) ?_
   simp [h]
theorem lwNums_ev (a b : List Int) (hl : a.length ≤ 9223372036854775807) : Ev (fun k => Ak0.f k a b) (decide (a = b)) := by
 unfold Ak0.f
 by_cases h : a.length = b.length
 ·refine Aa3 (by omega) ?_
  exact lwNums_l0 a b h hl a.length 0 (by omega)
 ·refine Ab5 (by omega) ?_
  refine Ah7 (Aa9 _) ?_
  have : ¬ a = b := fun e => h (by rw [e])
  simp [this]
theorem lwThree_ex {c : List Int} (hc : Code c) (hl : c.length ≤ 1048576) : ∃ g o a b d, Ev (fun k => Aq5.f k c) (g, o, a, b, d) ∧ o.length ≤ 1000 ∧ a.length ≤ 1000 ∧ b.length ≤ 1000 ∧ d.length ≤ 1000 := by
 obtain ⟨g, o, a, b, h, ol, al, bl⟩ := DrawCompareTerms_ex hc
 have hb : ∃ x, Ar6.f c = some x ∧ Bn4 x := by
  unfold Ar6.f
  by_cases h0 : (c.length : Int) = 0
  ·rw [if_pos h0]; exact ⟨0, rfl, by unfold Bn4; omega⟩
  ·rw [if_neg h0, if_pos (by omega)]
   exact ⟨_, rfl, Bj0 hc.bytes 0 (by omega) (by omega)⟩
 obtain ⟨x, hx, bx⟩ := hb
 have hc2 : Code ([x, 2] ++ c) := ⟨fun y hy => by
  rcases List.mem_append.1 hy with h | h
  ·simp only [List.mem_cons, List.not_mem_nil, or_false] at h
   rcases h with rfl | rfl
   ·exact bx
   ·unfold Bn4; omega
  ·exact hc.bytes y h, by simp only [List.length_append, List.length_cons, List.length_nil]; omega⟩
 obtain ⟨g2, o2, a2, b2, h2, ol2, al2, bl2⟩ := DrawCompareTerms_ex hc2
 refine ⟨g, o, a, b, a2, ?_, ol, al, bl, al2⟩
 unfold Aq5.f
 exact Ac0 h (Ac6 hx (Ac6 rfl (Aa3 (by simp only [List.length_cons, List.length_nil]; omega) (Ac0 h2 (Aa9 _)))))
theorem cmpV_self (l : List S79) (o a : List Int) : Az8 l o a a = 3 := by unfold Az8; rw [if_pos rfl]
theorem cmpV_back {l : List S79} {o a b : List Int} (ho : Bb5 l o = 0) (ha : RightT l a) (hb : RightT l b) : Az8 l o b a = if Az8 l o a b = 1 then 2 else if Az8 l o a b = 2 then 1 else Az8 l o a b := by
 unfold Az8
 by_cases e : a = b
 ·subst e; simp
 ·rw [if_neg e, if_neg (fun h => e h.symm)]
  have hboth : ¬ (gT l o a b 0 0 = true ∧ gT l o b a 0 0 = true) := fun h => by
   have := gT_trans ho ha hb ha h.1 h.2
   rw [gT_not ho ha] at this; cases this
  by_cases h1 : gT l o a b 0 0 = true
  ·have h2 : ¬ gT l o b a 0 0 = true := fun h => hboth ⟨h1, h⟩
   simp [h1, h2]
  ·by_cases h2 : gT l o b a 0 0 = true
   ·simp [h1, h2]
   ·simp [h1, h2]
theorem cmpV_same {l : List S79} {o a b : List Int} : Az8 l o a b = 3 ↔ a = b := by
 unfold Az8
 constructor
 ·intro h
  by_cases e : a = b
  ·exact e
  ·rw [if_neg e] at h; split at h <;> (try split at h) <;> omega
 ·intro e; rw [if_pos e]
theorem Bf7 {l : List S79} {o a b : List Int} (ho : Bb5 l o = 0) (ha : RightT l a) : Az8 l o a b = 1 ↔ gT l o a b 0 0 = true := by
 unfold Az8
 by_cases e : a = b
 ·subst e
  rw [if_pos rfl, gT_not ho ha]
  exact ⟨fun h => by omega, fun h => by cases h⟩
 ·rw [if_neg e]
  by_cases h1 : gT l o a b 0 0 = true
  ·simp [h1]
  ·rw [if_neg h1]
   constructor
   ·intro h; split at h <;> omega
   ·intro h; exact absurd h h1
section
variable {l : List S79} {o a b c : List Int} (ol : o.length ≤ 1000) (al : a.length ≤ 1000) (bl : b.length ≤ 1000) (cl : c.length ≤ 1000)
include ol al bl cl
theorem strict_j3 (h0 : Bb5 l o = 0) (ha : Al7 l a = 0) (hb : Al7 l b = 0) (q : Bool) (hq : q = false → Al7 l c = 0 ∧ Az8 l o a b = 1 ∧ Az8 l o b c = 1) : Ev (fun k => Ab8.j3 k o a b c q l (Be6 l o b c).1 (Be6 l o b c).2) true := by
 refine Ad2 ?_
 simp only [Ab8.j3]
 cases q with
 | true => exact Aa3 rfl (Ac0 (CompareTerms_spec l o b c (by omega) (by omega) (by omega)) (Ah7 (Aa9 _) (by simp)))
 | false =>
  obtain ⟨hc, h1, h2⟩ := hq rfl
  have hA := Aj2 ha
  have hB := Aj2 hb
  have hC := Aj2 hc
  have h3 := (Bf7 (b := c) h0 hA).2 (gT_trans h0 hA hB hC ((Bf7 h0 hA).1 h1) ((Bf7 h0 hB).1 h2))
  refine Ab5 (by simp) (Ac0 (Ap1 l o a c (by omega) (by omega) (by omega)) (Ah7 (Aa9 _) ?_))
  unfold Be6
  rw [if_pos h0, if_pos ha, if_pos hc]
  simp [h3]
theorem strict_j2 (h0 : Bb5 l o = 0) (ha : Al7 l a = 0) (hb : Al7 l b = 0) : Ev (fun k => Ab8.j2 k o a b c false l 0 (Az8 l o a b)) true := by
 refine Ad2 ?_
 simp only [Ab8.j2]
 refine Ab5 (by simp) (Ac0 (Ap1 l o b c (by omega) (by omega) (by omega)) ?_)
 have hj := strict_j3 ol al bl cl h0 ha hb
 by_cases hc : (Be6 l o b c).1 = 0
 ·have hcc : Al7 l c = 0 := by
   unfold Be6 at hc
   rw [if_pos h0, if_pos hb] at hc
   by_cases h : Al7 l c = 0
   ·exact h
   ·rw [if_neg h] at hc; exact absurd hc h
  have hv : (Be6 l o b c).2 = Az8 l o b c := by unfold Be6; rw [if_pos h0, if_pos hb, if_pos hcc]
  refine Aa3 hc ?_
  by_cases h1 : Az8 l o a b = 1
  ·refine Aa3 h1 (hj _ (fun hq => ⟨hcc, h1, ?_⟩))
   rw [hv] at hq
   simpa using hq
  ·exact Ab5 h1 (hj true (fun h => by cases h))
 ·exact Ab5 hc (hj true (fun h => by cases h))
theorem strict_j1 (h0 : Bb5 l o = 0) (ha : Al7 l a = 0) (hb : Al7 l b = 0) (x : Int) (hx : Az8 l o b a = x) : Ev (fun k => Ab8.j1 k o a b c (Az8 l o b a) x l 0 (Az8 l o a b)) true := by
 refine Ad2 ?_
 simp only [Ab8.j1]
 have hn := lwNums_ev a b (by omega)
 have hs := Ap1 l o a a (by omega) (by omega) (by omega)
 have e : Be6 l o a a = (0, 3) := by unfold Be6; rw [if_pos h0, if_pos ha, if_pos ha, cmpV_self]
 rw [e] at hs
 refine Aa3 hx (Ac0 hn (Ab5 ?_ (Ac0 hs ?_)))
 ·by_cases e2 : a = b
  ·subst e2; simp [cmpV_self]
  ·have : ¬ Az8 l o a b = 3 := fun h => e2 (cmpV_same.1 h)
   simp [e2, this]
 ·exact strict_j2 ol al bl cl h0 ha hb
end
theorem FnStrict (c : List Int) (hc0 : c.length ≤ maxLen ∧ ∀ x ∈ c, (Lit.int .u8 x).wf = true) : ∃ k, Ab8.f k c = some true := by
 obtain ⟨hm, hw⟩ := hc0
 refine ev_ex (g := fun k => Ab8.f k c) ?_
 unfold Ab8.f Au9.f
 by_cases hbig : (c.length : Int) > 1048576
 ·exact Ac6 rfl (Aa3 (by simpa using hbig) (Aa9 _))
 have hc : Code c := ⟨fun x hx => wf_u8 (hw x hx), by omega⟩
 refine Ac6 rfl (Ab5 (by simpa using hbig) ?_)
 obtain ⟨l, o, a, b, d, hD, ol, al, bl, dl⟩ := lwThree_ex hc (by omega)
 refine Ac0 hD (Ac0 (Ap1 l o a b (by omega) (by omega) (by omega)) (Ac0 (CompareTerms_spec l o a b (by omega) (by omega) (by omega)) (Ab5 (by simp) ?_)))
 by_cases hcode : (Be6 l o a b).1 = 0
 ·have h0 : Bb5 l o = 0 := by
   unfold Be6 at hcode
   by_cases h : Bb5 l o = 0
   ·exact h
   ·rw [if_neg h] at hcode; exact absurd hcode h
  have ha : Al7 l a = 0 := by
   unfold Be6 at hcode
   rw [if_pos h0] at hcode
   by_cases h : Al7 l a = 0
   ·exact h
   ·rw [if_neg h] at hcode; exact absurd hcode h
  have hb : Al7 l b = 0 := by
   unfold Be6 at hcode
   rw [if_pos h0, if_pos ha] at hcode
   by_cases h : Al7 l b = 0
   ·exact h
   ·rw [if_neg h] at hcode; exact absurd hcode h
  have e1 : Be6 l o a b = (0, Az8 l o a b) := by unfold Be6; rw [if_pos h0, if_pos ha, if_pos hb]
  have e2 : Be6 l o b a = (0, Az8 l o b a) := by unfold Be6; rw [if_pos h0, if_pos hb, if_pos ha]
  have hI := Ap1 l o b a (by omega) (by omega) (by omega)
  have hback := cmpV_back h0 (Aj2 ha) (Aj2 hb)
  rw [e2] at hI
  rw [e1]
  refine Aa3 rfl (Ac0 hI ?_)
  have hj0 : ∀ x : Int, (if Az8 l o a b = 2 then (1 : Int) else x) = Az8 l o b a → Ev (fun k => Ab8.j0 k o a b d (Az8 l o b a) x l 0 (Az8 l o a b)) true := by
   intro x hx
   refine Ad2 ?_
   simp only [Ab8.j0]
   by_cases h2 : Az8 l o a b = 2
   ·rw [if_pos h2] at hx
    exact Aa3 h2 (strict_j1 ol al bl dl h0 ha hb 1 hx.symm)
   ·rw [if_neg h2] at hx
    exact Ab5 h2 (strict_j1 ol al bl dl h0 ha hb x hx.symm)
  by_cases h1 : Az8 l o a b = 1
  ·refine Aa3 h1 (hj0 2 ?_)
   rw [hback, if_pos h1, if_neg (by omega)]
  ·refine Ab5 h1 (hj0 _ ?_)
   rw [hback, if_neg h1]
 ·exact Ab5 hcode (Aa9 _)
end Go.Proofs.YtgichahebemmiaaGreatDoor.Pure
