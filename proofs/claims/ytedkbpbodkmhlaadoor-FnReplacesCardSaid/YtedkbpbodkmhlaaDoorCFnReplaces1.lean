/- A part of the proof of the law FnReplaces. -/
import Derived.Test.YtedkbpbodkmhlaaDoorProg
import Derived.Deep.Slices
import Derived.Deep.Fields
import Derived.ChangeSame
import Derived.ChangeOld
import Derived.OpenShut
import Derived.ShutString
import Derived.ProofKit
import Derived.WalkKit
import Derived.Ground.NamesProg
import Derived.Shelf.Lays
import Derived.Shelf.LaysC
import Derived.Shelf.LaysM
import Derived.Ground.SlgmProg
import Derived.Shelf.SlLaysM
import Derived.Ground.SlgnProg
import Derived.Shelf.SlLaysN
import Derived.Shelf.SlGeneric
import Derived.Lib.SlTrimSet
import Derived.Lib.Strings
import Derived.Test.YtedkbpbodkmhlaaDoorCFnReplaces0
set_option linter.unusedVariables false
namespace Go.Proofs.YtedkbpbodkmhlaaDoor.Open
open Go.ChangeShapes Go.WideShapes Go.RowKit Go.Deep Go.Proofs.YtedkbpbodkmhlaaDoorW.PrintWords
def Opens {α : Type} (P : Program) (w : World) (T : TypeId) (d : Kd α) (good : α → Prop) : Prop :=
 ∀ (H : Type) (enc : TypeId × Value → H) (base : Nat) (spare : Nat → Bool) (held : Bool) (fuel : Nat) (cs : List Value) (x : DataW H × List MemPlace),
  DataW.trod enc P w base spare held fuel T cs = some x → ∃ a, d.K w a cs ∧ good a
section
variable {P : Program} {w : World} {T : TypeId}
theorem Opens.int_ {k : IntKind} (h : P.underlying T = some (.int k)) : Opens P w T (Kd.int k) (fun n => (Lit.int k n).wf = true) := by
 intro H enc base spare held fuel cs x hx
 obtain ⟨n, rfl, _, hw⟩ := DataW.trod_int h hx
 exact ⟨n, rfl, hw⟩
theorem Opens.slice_ {α : Type} {e : TypeId} {d : Kd α} {good : α → Prop} (h : P.underlying T = some (.slice e)) (hc : P.cellsOf e = d.sz) (he : Opens P w e d good) :
  Opens P w T (Kd.slice e d) (fun xs => xs.length ≤ maxLen ∧ ∀ x ∈ xs, good x) := by
 intro H enc base spare held fuel cs x hx
 rcases open_slice h hx with ⟨rfl, _⟩ | ⟨a, len, cap, m, n, D, Pl, rfl, hb, hl, hm, hmm, _, hi⟩
 ·exact ⟨[], ⟨none, 0, rfl, Nat.le_refl _, Kd.C_nil _ _⟩, by simp [maxLen], by simp⟩
 ·have hlm : len ≤ m := by rw [hmm]; split <;> omega
  have hel : ∀ i, i < len → ∃ (y : α) (c : List Value), d.K w y c ∧ good y ∧ ∀ j u, c[j]? = some u → w.cell? (a.add (i * d.sz + j)) = some u := by
   intro i hil
   obtain ⟨cs', hcs, ht⟩ := hi i (by omega)
   obtain ⟨y, hy, hg⟩ := he H enc base spare held n cs' _ ht
   obtain ⟨_, hcl, hat⟩ := World.cells?_some hcs
   refine ⟨y, cs', hy, hg, fun j u hu => ?_⟩
   have hj : j < cs'.length := (List.getElem?_eq_some_iff.1 hu).1
   rw [← hc, ← Go.Deep.add_add, hat j (by omega), hu]
  have key : ∀ k, k ≤ len → ∃ ys : List α, ys.length = k ∧ (∀ y ∈ ys, good y) ∧ ∀ j p, ys[j]? = some p → ∃ c, c.length = d.sz ∧ d.K w p c ∧ ∀ i u, c[i]? = some u → w.cell? (a.add (j * d.sz + i)) = some u := by
   intro k
   induction k with
   | zero => intro _; exact ⟨[], rfl, by simp, by simp⟩
   | succ k ih =>
    intro hk
    obtain ⟨ys, hyl, hyg, hyc⟩ := ih (by omega)
    obtain ⟨y, c, hK, hg, hcell⟩ := hel k (by omega)
    refine ⟨ys ++ [y], by simp [hyl], ?_, ?_⟩
    ·intro z hz
     rcases List.mem_append.1 hz with hz | hz
     ·exact hyg z hz
     ·rw [List.mem_singleton.1 hz]; exact hg
    ·intro j p hj
     by_cases hjk : j < ys.length
     ·rw [List.getElem?_append_left hjk] at hj
      exact hyc j p hj
     ·have hj1 : j < (ys ++ [y]).length := (List.getElem?_eq_some_iff.1 hj).1
      rw [List.length_append, List.length_singleton] at hj1
      have hjl : j = ys.length := by omega
      subst hjl
      have : y = p := by simpa using hj
      subst this
      exact ⟨c, d.K_len hK, hK, by rw [hyl]; exact hcell⟩
  obtain ⟨ys, hyl, hyg, hyc⟩ := key len (Nat.le_refl _)
  subst hyl
  unfold maxLen at hm
  exact ⟨ys, ⟨some a, cap, rfl, hl, rfl, by omega, fun _ => ⟨a, rfl, hyc⟩⟩, by unfold maxLen; omega, hyg⟩
variable {H : Type} {enc : TypeId × Value → H} {r : Reach} {b0 base : Nat} {spare : Nat → Bool} {held : Bool} {v : Value} {dd : DataW H} {p : List MemPlace}
theorem arg_slice {α : Type} {e : TypeId} {d : Kd α} {good : List α → Prop} (ht : P.underlying T = some (.slice e)) (hv : Value.okWide P w r b0 T v) (hd : DataW.Trod enc P w base spare held T v dd p)
  (ho : Opens P w T (Kd.slice e d) good) : ∃ A c xs, v = .slice A xs.length c ∧ xs.length ≤ c ∧ d.C w A xs.length xs ∧ good xs := by
 obtain ⟨a, len, cap, rfl⟩ := okWide_slice ht hv
 obtain ⟨fuel, hf⟩ := hd
 obtain ⟨xs, ⟨A, c, hcs, hl, hC⟩, hg⟩ := ho H enc base spare held fuel _ _ hf
 simp [Value.cells] at hcs
 obtain ⟨rfl, rfl, rfl⟩ := hcs
 exact ⟨_, _, xs, rfl, hl, hC, hg⟩
end
end Go.Proofs.YtedkbpbodkmhlaaDoor.Open
namespace Go.Proofs.YtedkbpbodkmhlaaDoor.Shelf
open Go.Shelf
def lays160_ren : Go.Shelf.Ren := ⟨fun | 160 => 160 | 232 => 178 | 231 => 177 | 227 => 179 | 234 => 181 | 233 => 180 | 236 => 183 | 235 => 182 | 228 => 201 | 271 => 204 | 151 => 203 | 197 => 202 | 120 => 215 | 152 => 214 | 260 => 213 | 137 => 217 | 119 => 218 | 224 => 219 | 225 => 220 | 217 => 221 | 266 => 222 | n => n, fun | 9 => 9 | 4 => 4 | 3 => 3 | 5 => 5 | 117 => 182 | 116 => 181 | 0 => 0 | 124 => 185 | 21 => 21 | 105 => 208 | 46 => 161 | 119 => 223 | 139 => 226 | 138 => 225 | n => n, fun | 3 => 5 | 4 => 6 | n => n⟩
theorem lays160 : Go.Proofs.Lays.n160 Tryd.prog lays160_ren := {
 mixed := by kernel_rfl
 f119 := Tryd.func218.trans (congrArg some (by kernel_rfl))
 f120 := Tryd.func215.trans (congrArg some (by kernel_rfl))
 f137 := Tryd.func217.trans (congrArg some (by kernel_rfl))
 f151 := Tryd.func203.trans (congrArg some (by kernel_rfl))
 f152 := Tryd.func214.trans (congrArg some (by kernel_rfl))
 f160 := Tryd.func160.trans (congrArg some (by kernel_rfl))
 f197 := Tryd.func202.trans (congrArg some (by kernel_rfl))
 f217 := Tryd.func221.trans (congrArg some (by kernel_rfl))
 f224 := Tryd.func219.trans (congrArg some (by kernel_rfl))
 f225 := Tryd.func220.trans (congrArg some (by kernel_rfl))
 f227 := Tryd.func179.trans (congrArg some (by kernel_rfl))
 f228 := Tryd.func201.trans (congrArg some (by kernel_rfl))
 f231 := Tryd.func177.trans (congrArg some (by kernel_rfl))
 f232 := Tryd.func178.trans (congrArg some (by kernel_rfl))
 f233 := Tryd.func180.trans (congrArg some (by kernel_rfl))
 f234 := Tryd.func181.trans (congrArg some (by kernel_rfl))
 f235 := Tryd.func182.trans (congrArg some (by kernel_rfl))
 f236 := Tryd.func183.trans (congrArg some (by kernel_rfl))
 f260 := Tryd.func213.trans (congrArg some (by kernel_rfl))
 f266 := Tryd.func222.trans (congrArg some (by kernel_rfl))
 f271 := Tryd.func204.trans (congrArg some (by kernel_rfl))
 t0 := Tryd.underlying0
 a0 := Tryd.isAgg0
 z0 := Tryd.sizeOf0
 v0 := Tryd.zeroValue0
 t3 := Tryd.underlying3
 a3 := Tryd.isAgg3
 z3 := Tryd.sizeOf3
 v3 := Tryd.zeroValue3
 t4 := Tryd.underlying4
 a4 := Tryd.isAgg4
 z4 := Tryd.sizeOf4
 v4 := Tryd.zeroValue4
 t5 := Tryd.underlying5
 a5 := Tryd.isAgg5
 z5 := Tryd.sizeOf5
 v5 := Tryd.zeroValue5
 t9 := Tryd.underlying9
 a9 := Tryd.isAgg9
 z9 := Tryd.sizeOf9
 v9 := Tryd.zeroValue9
 t21 := Tryd.underlying21
 a21 := Tryd.isAgg21
 z21 := Tryd.sizeOf21
 v21 := Tryd.zeroValue21
 t46 := Tryd.underlying161
 a46 := Tryd.isAgg161
 z46 := Tryd.sizeOf161
 v46 := Tryd.zeroValue161
 t105 := Tryd.underlying208
 a105 := Tryd.isAgg208
 z105 := Tryd.sizeOf208
 v105 := Tryd.zeroValue208
 t116 := Tryd.underlying181
 a116 := Tryd.isAgg181
 z116 := Tryd.sizeOf181
 t117 := Tryd.underlying182
 a117 := Tryd.isAgg182
 z117 := Tryd.sizeOf182
 v117 := Tryd.zeroValue182
 t119 := Tryd.underlying223
 a119 := Tryd.isAgg223
 z119 := Tryd.sizeOf223
 t124 := Tryd.underlying185
 a124 := Tryd.isAgg185
 z124 := Tryd.sizeOf185
 v124 := Tryd.zeroValue185
 t138 := Tryd.underlying225
 a138 := Tryd.isAgg225
 z138 := Tryd.sizeOf225
 v138 := Tryd.zeroValue225
 t139 := Tryd.underlying226
 a139 := Tryd.isAgg226
 z139 := Tryd.sizeOf226
 v139 := Tryd.zeroValue226
 g3 := by kernel_rfl
 g4 := by kernel_rfl }
end Go.Proofs.YtedkbpbodkmhlaaDoor.Shelf
set_option linter.unusedVariables false
namespace Go.Proofs.YtedkbpbodkmhlaaDoor.Base
open Go.RowKit Go.Proofs.YtedkbpbodkmhlaaDoorW.PrintWords
variable {α β : Type}
theorem ev_pos {c : Prop} [Decidable c] {A B : Nat → Option α} {r : α} (h : c) (k : Ev A r) : Ev (fun n => if c then A n else B n) r := by
 simp only [if_pos h]; exact k
theorem ev_neg {c : Prop} [Decidable c] {A B : Nat → Option α} {r : α} (h : ¬ c) (k : Ev B r) : Ev (fun n => if c then A n else B n) r := by
 simp only [if_neg h]; exact k
theorem ev_ite {c : Prop} [Decidable c] {A B : Nat → Option α} {r s : α} (h : c → Ev A r) (k : ¬ c → Ev B s) : Ev (fun n => if c then A n else B n) (if c then r else s) := by
 by_cases hc : c
 ·rw [if_pos hc]; exact ev_pos hc (h hc)
 ·rw [if_neg hc]; exact ev_neg hc (k hc)
theorem ev_succ {g : Nat → Option α} {r : α} (h : Ev (fun k => g (k + 1)) r) : Ev g r := by
 obtain ⟨K, h⟩ := h
 refine ⟨K + 1, fun n hn => ?_⟩
 obtain ⟨m, rfl⟩ : ∃ m, n = m + 1 := ⟨n - 1, by omega⟩
 exact h m (by omega)
theorem ev_some (r : α) : Ev (fun _ => some r) r := ⟨0, fun _ _ => rfl⟩
theorem ev_bind {g : Nat → Option α} {f : Nat → α → Option β} {a : α} {r : β} (h : Ev g a) (k : Ev (fun n => f n a) r) : Ev (fun n => (g n).bind (f n)) r := Ev.bind h k
theorem ev_bindq {o : Option α} {f : Nat → α → Option β} {a : α} {r : β} (h : o = some a) (k : Ev (fun n => f n a) r) : Ev (fun n => o.bind (f n)) r := by
 subst h; exact k
theorem ev_to {g : Nat → Option α} {r r' : α} (h : Ev g r) (e : r = r') : Ev g r' := e ▸ h
theorem bind_eq {o : Option α} {f : α → Option β} {a : α} {r : Option β} (h : o = some a) (k : f a = r) : o.bind f = r := by
 subst h; exact k
theorem ev_ex {g : Nat → Option α} {r : α} (h : Ev g r) : ∃ k, g k = some r := Ev.rounds h
theorem wrap_id {x : Int} (h0 : -9223372036854775808 ≤ x) (h1 : x ≤ 9223372036854775807) : wrap64 x = x := by
 unfold wrap64; omega
theorem wrap_up {i : Nat} (h : i < 9223372036854775807) : wrap64 ((i : Int) + 1) = ((i + 1 : Nat) : Int) := by
 unfold wrap64; omega
theorem rd_drop (xs : List Int) (i : Nat) (h : i < xs.length) : xs.drop i = rd xs (i : Int) :: xs.drop (i + 1) := by
 rw [List.drop_eq_getElem_cons h]
 simp [rd, List.getD_eq_getElem?_getD, List.getElem?_eq_getElem h]
theorem rd_mem (xs : List Int) (i : Nat) (h : i < xs.length) : rd xs (i : Int) ∈ xs := by
 have : rd xs (i : Int) = xs[i] := by simp [rd, List.getD_eq_getElem?_getD, List.getElem?_eq_getElem h]
 rw [this]; exact List.getElem_mem h
theorem rd_get (xs : List Int) (i : Nat) (h : i < xs.length) : rd xs (i : Int) = xs[i] := by
 simp [rd, List.getD_eq_getElem?_getD, List.getElem?_eq_getElem h]
theorem wf_u8 {x : Int} (h : (Lit.int .u8 x).wf = true) : 0 ≤ x ∧ x ≤ 255 := by
 simpa [Lit.wf, IntKind.min, IntKind.max, IntKind.signed, IntKind.bits] using h
end Go.Proofs.YtedkbpbodkmhlaaDoor.Base
set_option linter.unusedVariables false
namespace Go.Proofs.YtedkbpbodkmhlaaDoor.Pure
open Go.RowKit Go.Proofs.YtedkbpbodkmhlaaDoorW.PrintWords Go.Proofs.YtedkbpbodkmhlaaDoor.Base
def skipN (ar : Int → Nat) : Nat → List Int → Option (List Int)
 | 0, t => some t
 | _ + 1, [] => none
 | k + 1, n :: t => skipN ar (k + ar n) t
theorem skipN_zero (ar : Int → Nat) (t : List Int) : skipN ar 0 t = some t := by cases t <;> rfl
theorem skipN_add (ar : Int → Nat) (m : Nat) : ∀ (t : List Int) (k : Nat), skipN ar (k + m) t = (skipN ar k t).bind (skipN ar m)
 | t, 0 => by rw [skipN_zero, Nat.zero_add]; rfl
 | [], k + 1 => by rw [show k + 1 + m = (k + m) + 1 by omega]; rfl
 | n :: t, k + 1 => by
  rw [show k + 1 + m = (k + m) + 1 by omega]
  show skipN ar (k + m + ar n) t = (skipN ar (k + ar n) t).bind (skipN ar m)
  rw [show k + m + ar n = k + ar n + m by omega]
  exact skipN_add ar m t (k + ar n)
theorem skipN_succ (ar : Int → Nat) (t : List Int) (k : Nat) : skipN ar (k + 1) t = (skipN ar 1 t).bind (skipN ar k) := by
 rw [show k + 1 = 1 + k by omega]; exact skipN_add ar k t 1
theorem skipN_cons (ar : Int → Nat) (n : Int) (t : List Int) (k : Nat) : skipN ar (k + 1) (n :: t) = skipN ar (k + ar n) t := rfl
theorem skipN_suffix (ar : Int → Nat) : ∀ (t : List Int) (k : Nat) (u : List Int), skipN ar k t = some u → ∃ d, u = t.drop d ∧ d ≤ t.length ∧ k ≤ d
 | t, 0, u, h => by
  rw [skipN_zero] at h
  obtain rfl := Option.some.inj h
  exact ⟨0, by simp, by omega, by omega⟩
 | [], k + 1, u, h => by cases h
 | n :: t, k + 1, u, h => by
  obtain ⟨d, e, hd, hk⟩ := skipN_suffix ar t (k + ar n) u h
  exact ⟨d + 1, by rw [e]; rfl, by simp; omega, by omega⟩
def endN (ar : Int → Nat) (term : List Int) (k at_ : Nat) : Option Nat := (skipN ar k (term.drop at_)).map fun u => term.length - u.length
theorem endN_some {ar : Int → Nat} {term : List Int} {k at_ e : Nat} (hat : at_ ≤ term.length) (h : endN ar term k at_ = some e) : skipN ar k (term.drop at_) = some (term.drop e) ∧ at_ + k ≤ e ∧ e ≤ term.length := by
 unfold endN at h
 cases hs : skipN ar k (term.drop at_) with
 | none => rw [hs] at h; cases h
 | some u =>
  rw [hs] at h
  obtain ⟨d, e1, hd, hk⟩ := skipN_suffix ar _ _ _ hs
  rw [List.length_drop] at hd
  have he : term.length - u.length = e := Option.some.inj h
  have hul : u.length = term.length - (at_ + d) := by rw [e1, List.drop_drop, List.length_drop]
  have hed : e = at_ + d := by omega
  refine ⟨?_, by omega, by omega⟩
  rw [e1, List.drop_drop, hed]
theorem endN_zero (ar : Int → Nat) (term : List Int) (at_ : Nat) (hat : at_ ≤ term.length) : endN ar term 0 at_ = some at_ := by
 unfold endN
 rw [skipN_zero]
 simp only [Option.map_some, List.length_drop]
 congr 1; omega
theorem endN_out (ar : Int → Nat) (term : List Int) (k at_ : Nat) (hk : 0 < k) (hat : term.length ≤ at_) : endN ar term k at_ = none := by
 unfold endN
 obtain ⟨m, rfl⟩ : ∃ m, k = m + 1 := ⟨k - 1, by omega⟩
 rw [List.drop_eq_nil_of_le hat]; rfl
theorem endN_step (ar : Int → Nat) (term : List Int) (k at_ : Nat) (hat : at_ < term.length) : endN ar term (k + 1) at_ = endN ar term (k + ar term[at_]) (at_ + 1) := by
 unfold endN
 rw [List.drop_eq_getElem_cons hat, skipN_cons]
theorem endN_add (ar : Int → Nat) (term : List Int) (k m at_ : Nat) (hat : at_ ≤ term.length) : endN ar term (k + m) at_ = (endN ar term k at_).bind fun e => endN ar term m e := by
 cases h : endN ar term k at_ with
 | none =>
  unfold endN at h ⊢
  rw [skipN_add]
  cases hs : skipN ar k (term.drop at_) with
  | none => rfl
  | some u => rw [hs] at h; cases h
 | some e =>
  obtain ⟨hs, _, _⟩ := endN_some hat h
  simp only [Option.bind_some]
  unfold endN
  rw [skipN_add, hs]
  rfl
end Go.Proofs.YtedkbpbodkmhlaaDoor.Pure
set_option linter.unusedVariables false
namespace Go.Proofs.YtedkbpbodkmhlaaDoor.Pure
open Go.RowKit Go.Proofs.YtedkbpbodkmhlaaDoorW.PrintWords Go.Proofs.YtedkbpbodkmhlaaDoor.Base
theorem skipN_append (ar : Int → Nat) : ∀ (p : List Int) (k : Nat) (u x : List Int), skipN ar k p = some u → skipN ar k (p ++ x) = some (u ++ x)
 | p, 0, u, x, h => by
  rw [skipN_zero] at h
  obtain rfl := Option.some.inj h
  exact skipN_zero ar _
 | [], k + 1, u, x, h => by cases h
 | n :: p, k + 1, u, x, h => skipN_append ar p (k + ar n) u x h
theorem skipN_prefix (ar : Int → Nat) : ∀ (t : List Int) (k : Nat) (u : List Int), skipN ar k t = some u → ∃ p, t = p ++ u ∧ skipN ar k p = some []
 | t, 0, u, h => by
  rw [skipN_zero] at h
  exact ⟨[], Option.some.inj h, rfl⟩
 | [], k + 1, u, h => by cases h
 | n :: t, k + 1, u, h => by
  obtain ⟨p, e, hp⟩ := skipN_prefix ar t (k + ar n) u h
  exact ⟨n :: p, by rw [e]; rfl, hp⟩
theorem skipN_run (ar : Int → Nat) : ∀ (p : List Int) (k : Nat), (∃ u, skipN ar k p = some u) ∨ ∃ m, 0 < m ∧ ∀ y, skipN ar k (p ++ y) = skipN ar m y
 | p, 0 => .inl ⟨p, skipN_zero ar p⟩
 | [], k + 1 => .inr ⟨k + 1, by omega, fun y => rfl⟩
 | n :: p, k + 1 => by
  rcases skipN_run ar p (k + ar n) with ⟨u, h⟩ | ⟨m, hm, h⟩
  ·exact .inl ⟨u, h⟩
  ·exact .inr ⟨m, hm, h⟩
def Whole (ar : Int → Nat) (t : List Int) : Prop := skipN ar 1 t = some []
theorem whole_iff {ar : Int → Nat} {t : List Int} : endN ar t 1 0 = some t.length ↔ Whole ar t := by
 constructor
 ·intro h
  obtain ⟨h1, _, _⟩ := endN_some (by omega) h
  rw [List.drop_zero, List.drop_length] at h1
  exact h1
 ·intro h
  unfold endN
  rw [List.drop_zero, h]
  simp
theorem whole_pos {ar : Int → Nat} {t : List Int} (h : Whole ar t) : 0 < t.length := by
 cases t with
 | nil => cases h
 | cons n t => simp
theorem whole_skip {ar : Int → Nat} {s : List Int} (h : Whole ar s) (k : Nat) (x : List Int) : skipN ar (k + 1) (s ++ x) = skipN ar k x := by
 rw [skipN_succ, skipN_append ar s 1 [] x h]; rfl
theorem whole_end {ar : Int → Nat} {p s x : List Int} (h : Whole ar s) : endN ar (p ++ s ++ x) 1 p.length = some (p.length + s.length) := by
 unfold endN
 rw [List.append_assoc, List.drop_left, whole_skip h 0 x, skipN_zero]
 simp only [Option.map_some, List.length_append]
 congr 1; omega
theorem whole_swap {ar : Int → Nat} {p s b x : List Int} (hs : Whole ar s) (hb : Whole ar b) (h : Whole ar (p ++ s ++ x)) : Whole ar (p ++ b ++ x) := by
 unfold Whole at h ⊢
 rw [List.append_assoc] at h ⊢
 rcases skipN_run ar p 1 with ⟨u, hu⟩ | ⟨m, hm, hr⟩
 ·rw [skipN_append ar p 1 u _ hu] at h
  have e := congrArg List.length (Option.some.inj h)
  have := whole_pos hs
  simp only [List.length_append, List.length_nil] at e
  omega
 ·obtain ⟨j, rfl⟩ : ∃ j, m = j + 1 := ⟨m - 1, by omega⟩
  rw [hr, whole_skip hs] at h
  rw [hr, whole_skip hb]
  exact h
theorem end_parts {ar : Int → Nat} {t : List Int} {a e : Nat} (ha : a ≤ t.length) (h : endN ar t 1 a = some e) :
  ∃ s, t = t.take a ++ s ++ t.drop e ∧ Whole ar s ∧ e = a + s.length ∧ (t.take e).drop a = s := by
 obtain ⟨h1, h2, h3⟩ := endN_some ha h
 obtain ⟨s, e1, hs⟩ := skipN_prefix ar _ _ _ h1
 have hl := congrArg List.length e1
 simp only [List.length_append, List.length_drop] at hl
 have hd : t = t.take a ++ s ++ t.drop e := by
  rw [List.append_assoc, ← e1, List.take_append_drop]
 refine ⟨s, hd, hs, by omega, ?_⟩
 have hta : (t.take a).length = a := by rw [List.length_take]; omega
 have : (t.take e).drop a = ((t.drop a).take (e - a)) := by rw [List.drop_take]
 rw [this, e1, List.take_left' (by omega)]
end Go.Proofs.YtedkbpbodkmhlaaDoor.Pure
set_option linter.unusedVariables false
namespace Go.Proofs.YtedkbpbodkmhlaaDoor.Pure
open Go.RowKit Go.Proofs.YtedkbpbodkmhlaaDoorW.PrintWords Go.Proofs.YtedkbpbodkmhlaaDoor.Base
def scanN {R : Type} (f : Nat → Option R) (e : R) : Nat → Nat → R
 | 0, _ => e
 | d + 1, i => (f i).getD (scanN f e d (i + 1))
theorem loop_scan {R : Type} (n : Nat) (f : Nat → Option R) (e : R) (L : Nat → Int → Option R) (h0 : Ev (fun k => L (k + 1) (n : Int)) e)
  (h1 : ∀ i, i < n → ∀ r, Ev (fun k => L k ((i + 1 : Nat) : Int)) r → Ev (fun k => L (k + 1) (i : Int)) ((f i).getD r)) :
  ∀ d i, i + d = n → Ev (fun k => L k (i : Int)) (scanN f e d i) := by
 intro d
 induction d with
 | zero =>
  intro i hi
  obtain rfl : i = n := by omega
  exact ev_succ h0
 | succ d ih =>
  intro i hi
  exact ev_succ (h1 i (by omega) _ (ih (i + 1) (by omega)))
theorem scanN_none {R : Type} {f : Nat → Option R} {e : R} : ∀ (d i : Nat), (∀ j, i ≤ j → j < i + d → f j = none) → scanN f e d i = e
 | 0, _, _ => rfl
 | d + 1, i, h => by
  rw [scanN, h i (by omega) (by omega)]
  exact scanN_none d (i + 1) (fun j h1 h2 => h j (by omega) (by omega))
theorem scanN_cases {R : Type} (f : Nat → Option R) (e : R) : ∀ (d i : Nat), (∀ j, i ≤ j → j < i + d → f j = none) ∧ scanN f e d i = e ∨ ∃ j, i ≤ j ∧ j < i + d ∧ f j = some (scanN f e d i)
 | 0, i => .inl ⟨fun j h1 h2 => by omega, rfl⟩
 | d + 1, i => by
  rw [scanN]
  cases h : f i with
  | some r => exact .inr ⟨i, by omega, by omega, by rw [h]; rfl⟩
  | none =>
   rcases scanN_cases f e d (i + 1) with ⟨h1, h2⟩ | ⟨j, h1, h2, h3⟩
   ·refine .inl ⟨fun j a b => ?_, h2⟩
    by_cases hj : j = i
    ·rw [hj]; exact h
    ·exact h1 j (by omega) (by omega)
   ·exact .inr ⟨j, by omega, by omega, h3⟩
def firstN (p : Nat → Bool) : Nat → Nat → Option Nat
 | 0, _ => none
 | d + 1, i => if p i = true then some i else firstN p d (i + 1)
theorem firstN_none {p : Nat → Bool} : ∀ (d i : Nat), firstN p d i = none ↔ ∀ j, i ≤ j → j < i + d → p j = false
 | 0, i => by simp only [firstN, true_iff]; intro j h1 h2; omega
 | d + 1, i => by
  rw [firstN]
  by_cases h : p i = true
  ·rw [if_pos h]
   exact ⟨fun e => (by cases e), fun k => (by rw [k i (by omega) (by omega)] at h; cases h)⟩
  ·rw [if_neg h, firstN_none d (i + 1)]
   refine ⟨fun k j h1 h2 => ?_, fun k j h1 h2 => k j (by omega) (by omega)⟩
   by_cases hj : j = i
   ·rw [hj]; exact Bool.eq_false_iff.2 h
   ·exact k j (by omega) (by omega)
theorem firstN_some {p : Nat → Bool} : ∀ (d i j : Nat), firstN p d i = some j → i ≤ j ∧ j < i + d ∧ p j = true ∧ ∀ m, i ≤ m → m < j → p m = false
 | 0, i, j, h => by cases h
 | d + 1, i, j, h => by
  rw [firstN] at h
  by_cases hp : p i = true
  ·rw [if_pos hp] at h
   obtain rfl := Option.some.inj h
   exact ⟨by omega, by omega, hp, fun m h1 h2 => by omega⟩
  ·rw [if_neg hp] at h
   obtain ⟨h1, h2, h3, h4⟩ := firstN_some d (i + 1) j h
   refine ⟨by omega, by omega, h3, fun m a b => ?_⟩
   by_cases hm : m = i
   ·rw [hm]; exact Bool.eq_false_iff.2 hp
   ·exact h4 m (by omega) b
theorem scanN_first {R : Type} (p : Nat → Bool) (g : Nat → R) (e : R) : ∀ (d i : Nat), scanN (fun j => if p j = true then some (g j) else none) e d i = ((firstN p d i).map g).getD e
 | 0, _ => rfl
 | d + 1, i => by
  rw [scanN, firstN]
  by_cases h : p i = true
  ·rw [if_pos h, if_pos h]; rfl
  ·rw [if_neg h, if_neg h]; exact scanN_first p g e d (i + 1)
def placeN (p : Nat → Bool) (n : Nat) : Int :=
 match firstN p n 0 with
 | some j => (j : Int)
 | none => -1
theorem scanN_place (p : Nat → Bool) (n : Nat) : scanN (fun j => if p j = true then some (j : Int) else none) (-1) n 0 = placeN p n := by
 rw [scanN_first p (fun j => (j : Int)) (-1)]
 unfold placeN
 cases firstN p n 0 <;> rfl
theorem placeN_cases (p : Nat → Bool) (n : Nat) : placeN p n = -1 ∧ (∀ j, j < n → p j = false) ∨ ∃ j, j < n ∧ placeN p n = (j : Int) ∧ p j = true ∧ ∀ m, m < j → p m = false := by
 unfold placeN
 cases h : firstN p n 0 with
 | none => exact .inl ⟨rfl, fun j hj => (firstN_none n 0).1 h j (by omega) (by omega)⟩
 | some j =>
  obtain ⟨_, h2, h3, h4⟩ := firstN_some n 0 j h
  exact .inr ⟨j, by omega, rfl, h3, fun m hm => h4 m (by omega) hm⟩
end Go.Proofs.YtedkbpbodkmhlaaDoor.Pure
set_option linter.unusedVariables false
namespace Go.Proofs.YtedkbpbodkmhlaaDoor.Pure
open Go.RowKit Go.Proofs.YtedkbpbodkmhlaaDoorW.PrintWords Go.Proofs.YtedkbpbodkmhlaaDoor.Base
def letterB (b : UInt8) : Bool := decide (97 ≤ b.toNat ∧ b.toNat ≤ 122)
def nameB (s : ByteArray) : Bool := decide (1 ≤ s.size ∧ s.size ≤ 3) && s.data.toList.all letterB
def abc : ByteArray := ⟨#[97, 98, 99, 100, 101, 102, 103, 104, 105, 106, 107, 108, 109, 110, 111, 112, 113, 114, 115, 116, 117, 118, 119, 120, 121, 122]⟩
theorem abc_letter_all : ∀ n, n < 256 → abc.data.toList.contains (UInt8.ofNat n) = letterB (UInt8.ofNat n) := by decide +kernel
theorem abc_letter (b : UInt8) : abc.data.toList.contains b = letterB b := by
 have h := abc_letter_all b.toNat (UInt8.toNat_lt b)
 rwa [UInt8.ofNat_toNat] at h
theorem dropWhile_nil (p : UInt8 → Bool) : ∀ l : List UInt8, l.dropWhile p = [] ↔ l.all p = true
 | [] => by simp
 | x :: xs => by
  by_cases h : p x = true
  ·rw [List.dropWhile_cons_of_pos h, dropWhile_nil p xs]; simp [h]
  ·rw [List.dropWhile_cons_of_neg h]; simp [h]
theorem dropWhile_head (p : UInt8 → Bool) : ∀ (l : List UInt8) (y : UInt8) (ys : List UInt8), l.dropWhile p = y :: ys → p y = false
 | [], y, ys, h => by cases h
 | x :: xs, y, ys, h => by
  by_cases hx : p x = true
  ·rw [List.dropWhile_cons_of_pos hx] at h; exact dropWhile_head p xs y ys h
  ·rw [List.dropWhile_cons_of_neg hx] at h
   simp only [List.cons.injEq] at h
   rw [← h.1]; exact Bool.eq_false_iff.2 hx
theorem trimS_nil (l cs : List UInt8) : Lib.trimS l cs = [] ↔ l.all (cs.contains ·) = true := by
 unfold Lib.trimS Lib.trimLeftS Lib.trimRightS
 rw [dropWhile_nil]
 constructor
 ·intro h
  cases hd : l.reverse.dropWhile (cs.contains ·) with
  | nil =>
   rw [dropWhile_nil] at hd
   rwa [List.all_reverse] at hd
  | cons y ys =>
   have h1 := dropWhile_head _ _ _ _ hd
   rw [hd] at h
   simp only [List.all_reverse, List.all_cons, Bool.and_eq_true] at h
   have h2 : cs.contains y = false := h1
   rw [h.1] at h2; cases h2
 ·intro h
  have : l.reverse.dropWhile (cs.contains ·) = [] := by rw [dropWhile_nil, List.all_reverse]; exact h
  rw [this]; rfl
theorem trim_abc (l : List UInt8) : (Lib.trimS l abc.data.toList == []) = l.all letterB := by
 have e : l.all (abc.data.toList.contains ·) = l.all letterB := by
  congr 1; funext b; exact abc_letter b
 by_cases h : l.all letterB = true
 ·rw [h]
  have := (trimS_nil l abc.data.toList).2 (by rw [e]; exact h)
  rw [this]; rfl
 ·have hn : ¬ Lib.trimS l abc.data.toList = [] := fun k => h (by rw [← e]; exact (trimS_nil _ _).1 k)
  rw [Bool.eq_false_iff.2 h]
  exact beq_eq_false_iff_ne.2 hn
end Go.Proofs.YtedkbpbodkmhlaaDoor.Pure
