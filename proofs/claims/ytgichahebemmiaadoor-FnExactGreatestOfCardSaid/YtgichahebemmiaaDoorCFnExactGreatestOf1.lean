/- A part of the proof of the law FnExactGreatestOf. -/
import Derived.Test.YtgichahebemmiaaDoorProg
import Derived.Deep.Slices
import Derived.Deep.Fields
import Derived.ChangeSame
import Derived.ChangeOld
import Derived.OpenShut
import Derived.ShutString
import Derived.ProofKit
import Derived.WalkKit
import Derived.Ground.NamesProg
import Derived.Shelf.Lays
import Derived.Lib.SlTrimSet
import Derived.Lib.Strings
import Derived.Test.YtgichahebemmiaaDoorCFnExactGreatestOf0
set_option linter.unusedVariables false
namespace Go.Proofs.YtgichahebemmiaaDoor.Open
open Go.ChangeShapes Go.WideShapes Go.RowKit Go.Deep Go.Proofs.YtgichahebemmiaaDoorW.PrintWords
def Ah3 {α : Type} (P : Program) (w : World) (T : TypeId) (d : Kd α) (good : α → Prop) : Prop :=
 ∀ (H : Type) (enc : TypeId × Value → H) (base : Nat) (spare : Nat → Bool) (held : Bool) (fuel : Nat) (cs : List Value) (x : DataW H × List MemPlace),
  DataW.trod enc P w base spare held fuel T cs = some x → ∃ a, d.K w a cs ∧ good a
section
variable {P : Program} {w : World} {T : TypeId}
theorem Ah3.int_ {k : IntKind} (h : P.underlying T = some (.int k)) : Ah3 P w T (Kd.int k) (fun n => (Lit.int k n).wf = true) := by
 intro H enc base spare held fuel cs x hx
 obtain ⟨n, rfl, _, hw⟩ := DataW.trod_int h hx
 exact ⟨n, rfl, hw⟩
theorem Ah3.string_ (h : P.underlying T = some .string) : Ah3 P w T Kd.string (fun s => s.size ≤ maxLen) := by
 intro H enc base spare held fuel cs x hx
 obtain ⟨s, rfl, _, hs⟩ := DataW.trod_string h hx
 exact ⟨s, rfl, hs⟩
theorem Ah3.iso_ {α β : Type} {d : Kd α} {good : α → Prop} (h : Ah3 P w T d good) (f : β → α) (g : α → β) (hfg : ∀ a, f (g a) = a) : Ah3 P w T (Kd.iso d f) (fun b => good (f b)) := by
 intro H enc base spare held fuel cs x hx
 obtain ⟨a, ha, hg⟩ := h H enc base spare held fuel cs x hx
 refine ⟨g a, ?_, by show good (f (g a)); rw [hfg]; exact hg⟩
 show d.K w (f (g a)) cs
 rw [hfg]; exact ha
theorem Ah3.slice_ {α : Type} {e : TypeId} {d : Kd α} {good : α → Prop} (h : P.underlying T = some (.slice e)) (hc : P.cellsOf e = d.sz) (he : Ah3 P w e d good) :
  Ah3 P w T (Kd.slice e d) (fun xs => xs.length ≤ maxLen ∧ ∀ x ∈ xs, good x) := by
 intro H enc base spare held fuel cs x hx
 rcases open_slice h hx with ⟨rfl, _⟩ | ⟨a, len, cap, m, n, D, Pl, rfl, hb, hl, hm, hmm, _, hi⟩
 ·exact ⟨[], ⟨none, 0, rfl, Nat.le_refl _, Kd.C_nil _ _⟩, by simp [maxLen], by simp⟩
 ·have hlm : len ≤ m := by rw [hmm]; split <;> omega
  have hel : ∀ i, i < len → ∃ (y : α) (c : List Value), d.K w y c ∧ good y ∧ ∀ j u, c[j]? = some u → w.cell? (a.add (i * d.sz + j)) = some u := by
   intro i hil
   obtain ⟨cs', hcs, ht⟩ := hi i (by omega)
   obtain ⟨y, hy, hg⟩ := he H enc base spare held n cs' _ ht
   obtain ⟨_, hcl, hat⟩ := World.cells?_some hcs
   refine ⟨y, cs', hy, hg, fun j u hu => ?_⟩
   have hj : j < cs'.length := (List.getElem?_eq_some_iff.1 hu).1
   rw [← hc, ← Go.Deep.add_add, hat j (by omega), hu]
  have key : ∀ k, k ≤ len → ∃ ys : List α, ys.length = k ∧ (∀ y ∈ ys, good y) ∧ ∀ j p, ys[j]? = some p → ∃ c, c.length = d.sz ∧ d.K w p c ∧ ∀ i u, c[i]? = some u → w.cell? (a.add (j * d.sz + i)) = some u := by
   intro k
   induction k with
   | zero => intro _; exact ⟨[], rfl, by simp, by simp⟩
   | succ k ih =>
    intro hk
    obtain ⟨ys, hyl, hyg, hyc⟩ := ih (by omega)
    obtain ⟨y, c, hK, hg, hcell⟩ := hel k (by omega)
    refine ⟨ys ++ [y], by simp [hyl], ?_, ?_⟩
    ·intro z hz
     rcases List.mem_append.1 hz with hz | hz
     ·exact hyg z hz
     ·rw [List.mem_singleton.1 hz]; exact hg
    ·intro j p hj
     by_cases hjk : j < ys.length
     ·rw [List.getElem?_append_left hjk] at hj
      exact hyc j p hj
     ·have hj1 : j < (ys ++ [y]).length := (List.getElem?_eq_some_iff.1 hj).1
      rw [List.length_append, List.length_singleton] at hj1
      have hjl : j = ys.length := by omega
      subst hjl
      have : y = p := by simpa using hj
      subst this
      exact ⟨c, d.K_len hK, hK, by rw [hyl]; exact hcell⟩
  obtain ⟨ys, hyl, hyg, hyc⟩ := key len (Nat.le_refl _)
  subst hyl
  unfold maxLen at hm
  exact ⟨ys, ⟨some a, cap, rfl, hl, rfl, by omega, fun _ => ⟨a, rfl, hyc⟩⟩, by unfold maxLen; omega, hyg⟩
theorem Ah3.struct1 {α : Type} {f : Field} {d : Kd α} {good : α → Prop} (h : P.underlying T = some (.struct #[f])) (h0 : f.offset = 0) (hc : P.cellsOf T = P.cellsOf f.type) (hd : Ah3 P w f.type d good) : Ah3 P w T d good := by
 intro H enc base spare held fuel cs x hx
 obtain ⟨xs, n, _, _, hl, hlen, hf⟩ := DataW.trod_struct h hx
 have h1 := hf 0 f rfl
 rw [h0, List.drop_zero, List.take_of_length_le (by omega)] at h1
 obtain ⟨y, hy⟩ : ∃ y, xs[0]? = some y := ⟨xs[0]'(by rw [hlen]; simp), List.getElem?_eq_getElem _⟩
 exact hd H enc base spare held n cs y (h1.trans hy)
theorem Ah3.struct2 {α β : Type} {f g : Field} {d : Kd α} {e : Kd β} {good : α → Prop} {good' : β → Prop} (h : P.underlying T = some (.struct #[f, g])) (h0 : f.offset = 0) (h1 : g.offset = P.cellsOf f.type) (hc : P.cellsOf T = P.cellsOf f.type + P.cellsOf g.type)
  (hd : Ah3 P w f.type d good) (he : Ah3 P w g.type e good') : Ah3 P w T (Kd.pair d e) (fun x => good x.1 ∧ good' x.2) := by
 intro H enc base spare held fuel cs x hx
 obtain ⟨xs, n, _, _, hl, hlen, hf⟩ := DataW.trod_struct h hx
 have a0 := hf 0 f rfl
 have a1 := hf 1 g rfl
 rw [h0, List.drop_zero] at a0
 rw [h1, List.take_of_length_le (by rw [List.length_drop]; omega)] at a1
 obtain ⟨y, hy⟩ : ∃ y, xs[0]? = some y := ⟨xs[0]'(by rw [hlen]; simp), List.getElem?_eq_getElem _⟩
 obtain ⟨z, hz⟩ : ∃ z, xs[1]? = some z := ⟨xs[1]'(by rw [hlen]; simp), List.getElem?_eq_getElem _⟩
 obtain ⟨a, ha, hga⟩ := hd H enc base spare held n _ y (a0.trans hy)
 obtain ⟨b, hb, hgb⟩ := he H enc base spare held n _ z (a1.trans hz)
 exact ⟨(a, b), ⟨_, _, (List.take_append_drop _ _).symm, ha, hb⟩, hga, hgb⟩
variable {H : Type} {enc : TypeId × Value → H} {r : Reach} {b0 base : Nat} {spare : Nat → Bool} {held : Bool} {v : Value} {dd : DataW H} {p : List MemPlace}
theorem arg_slice {α : Type} {e : TypeId} {d : Kd α} {good : List α → Prop} (ht : P.underlying T = some (.slice e)) (hv : Value.okWide P w r b0 T v) (hd : DataW.Trod enc P w base spare held T v dd p)
  (ho : Ah3 P w T (Kd.slice e d) good) : ∃ A c xs, v = .slice A xs.length c ∧ xs.length ≤ c ∧ d.C w A xs.length xs ∧ good xs := by
 obtain ⟨a, len, cap, rfl⟩ := okWide_slice ht hv
 obtain ⟨fuel, hf⟩ := hd
 obtain ⟨xs, ⟨A, c, hcs, hl, hC⟩, hg⟩ := ho H enc base spare held fuel _ _ hf
 simp [Value.cells] at hcs
 obtain ⟨rfl, rfl, rfl⟩ := hcs
 exact ⟨_, _, xs, rfl, hl, hC, hg⟩
theorem arg_struct {α : Type} {fs : Array Field} {d : Kd α} {good : α → Prop} (ht : P.underlying T = some (.struct fs)) (hv : Value.okWide P w r b0 T v) (hd : DataW.Trod enc P w base spare held T v dd p)
  (ho : Ah3 P w T d good) : ∃ cs x, v = .agg cs ∧ d.K w x cs.toList ∧ good x := by
 obtain ⟨cs, rfl, _⟩ := okWide_struct ht hv
 obtain ⟨fuel, hf⟩ := hd
 obtain ⟨x, hx, hg⟩ := ho H enc base spare held fuel _ _ hf
 exact ⟨cs, x, rfl, hx, hg⟩
theorem arg_struct1 {α : Type} {fs : Array Field} {e : TypeId} {d : Kd α} {good : List α → Prop} (ht : P.underlying T = some (.struct fs)) (hv : Value.okWide P w r b0 T v) (hd : DataW.Trod enc P w base spare held T v dd p)
  (ho : Ah3 P w T (Kd.slice e d) good) : ∃ A c xs, v = .agg #[.slice A xs.length c] ∧ xs.length ≤ c ∧ d.C w A xs.length xs ∧ good xs := by
 obtain ⟨cs, xs, rfl, ⟨A, c, hcs, hl, hC⟩, hg⟩ := arg_struct ht hv hd ho
 refine ⟨A, c, xs, ?_, hl, hC, hg⟩
 obtain ⟨l⟩ := cs
 simp at hcs
 rw [hcs]
end
end Go.Proofs.YtgichahebemmiaaDoor.Open
namespace Go.Proofs.YtgichahebemmiaaDoor.Shelf
open Go.Shelf
def lays160_ren : Go.Shelf.Ren := ⟨fun | 160 => 69 | 232 => 80 | 231 => 79 | 227 => 81 | 234 => 83 | 233 => 82 | 236 => 85 | 235 => 84 | 228 => 86 | 271 => 89 | 151 => 88 | 197 => 87 | 120 => 92 | 152 => 91 | 260 => 90 | 137 => 93 | 119 => 94 | 224 => 95 | 225 => 96 | 217 => 97 | 266 => 98 | n => n, fun | 9 => 9 | 4 => 4 | 3 => 3 | 5 => 5 | 117 => 103 | 116 => 102 | 0 => 0 | 124 => 106 | 21 => 21 | 105 => 108 | 46 => 113 | 119 => 112 | 139 => 116 | 138 => 115 | n => n, fun | 3 => 0 | 4 => 1 | n => n⟩
theorem lays160 : Go.Proofs.Lays.n160 Tryd.prog lays160_ren := {
 mixed := by kernel_rfl
 f119 := Tryd.func94.trans (congrArg some (by kernel_rfl))
 f120 := Tryd.func92.trans (congrArg some (by kernel_rfl))
 f137 := Tryd.func93.trans (congrArg some (by kernel_rfl))
 f151 := Tryd.func88.trans (congrArg some (by kernel_rfl))
 f152 := Tryd.func91.trans (congrArg some (by kernel_rfl))
 f160 := Tryd.func69.trans (congrArg some (by kernel_rfl))
 f197 := Tryd.func87.trans (congrArg some (by kernel_rfl))
 f217 := Tryd.func97.trans (congrArg some (by kernel_rfl))
 f224 := Tryd.func95.trans (congrArg some (by kernel_rfl))
 f225 := Tryd.func96.trans (congrArg some (by kernel_rfl))
 f227 := Tryd.func81.trans (congrArg some (by kernel_rfl))
 f228 := Tryd.func86.trans (congrArg some (by kernel_rfl))
 f231 := Tryd.func79.trans (congrArg some (by kernel_rfl))
 f232 := Tryd.func80.trans (congrArg some (by kernel_rfl))
 f233 := Tryd.func82.trans (congrArg some (by kernel_rfl))
 f234 := Tryd.func83.trans (congrArg some (by kernel_rfl))
 f235 := Tryd.func84.trans (congrArg some (by kernel_rfl))
 f236 := Tryd.func85.trans (congrArg some (by kernel_rfl))
 f260 := Tryd.func90.trans (congrArg some (by kernel_rfl))
 f266 := Tryd.func98.trans (congrArg some (by kernel_rfl))
 f271 := Tryd.func89.trans (congrArg some (by kernel_rfl))
 t0 := Tryd.underlying0
 a0 := Tryd.isAgg0
 z0 := Tryd.sizeOf0
 v0 := Tryd.zeroValue0
 t3 := Tryd.underlying3
 a3 := Tryd.isAgg3
 z3 := Tryd.sizeOf3
 v3 := Tryd.zeroValue3
 t4 := Tryd.underlying4
 a4 := Tryd.isAgg4
 z4 := Tryd.sizeOf4
 v4 := Tryd.zeroValue4
 t5 := Tryd.underlying5
 a5 := Tryd.isAgg5
 z5 := Tryd.sizeOf5
 v5 := Tryd.zeroValue5
 t9 := Tryd.underlying9
 a9 := Tryd.isAgg9
 z9 := Tryd.sizeOf9
 v9 := Tryd.zeroValue9
 t21 := Tryd.underlying21
 a21 := Tryd.isAgg21
 z21 := Tryd.sizeOf21
 v21 := Tryd.zeroValue21
 t46 := Tryd.underlying113
 a46 := Tryd.isAgg113
 z46 := Tryd.sizeOf113
 v46 := Tryd.zeroValue113
 t105 := Tryd.underlying108
 a105 := Tryd.isAgg108
 z105 := Tryd.sizeOf108
 v105 := Tryd.zeroValue108
 t116 := Tryd.underlying102
 a116 := Tryd.isAgg102
 z116 := Tryd.sizeOf102
 t117 := Tryd.underlying103
 a117 := Tryd.isAgg103
 z117 := Tryd.sizeOf103
 v117 := Tryd.zeroValue103
 t119 := Tryd.underlying112
 a119 := Tryd.isAgg112
 z119 := Tryd.sizeOf112
 t124 := Tryd.underlying106
 a124 := Tryd.isAgg106
 z124 := Tryd.sizeOf106
 v124 := Tryd.zeroValue106
 t138 := Tryd.underlying115
 a138 := Tryd.isAgg115
 z138 := Tryd.sizeOf115
 v138 := Tryd.zeroValue115
 t139 := Tryd.underlying116
 a139 := Tryd.isAgg116
 z139 := Tryd.sizeOf116
 v139 := Tryd.zeroValue116
 g3 := by kernel_rfl
 g4 := by kernel_rfl }
end Go.Proofs.YtgichahebemmiaaDoor.Shelf
set_option linter.unusedVariables false
namespace Go.Proofs.YtgichahebemmiaaDoor.Base
open Go.RowKit Go.Proofs.YtgichahebemmiaaDoorW.PrintWords
variable {α β : Type}
theorem Aa6 {c : Prop} [Decidable c] {A B : Nat → Option α} {r : α} (h : c) (k : Ev A r) : Ev (fun n => if c then A n else B n) r := by
 simp only [if_pos h]; exact k
theorem Ab7 {c : Prop} [Decidable c] {A B : Nat → Option α} {r : α} (h : ¬ c) (k : Ev B r) : Ev (fun n => if c then A n else B n) r := by
 simp only [if_neg h]; exact k
theorem Aj9 {c : Prop} [Decidable c] {A B : Nat → Option α} {r s : α} (h : c → Ev A r) (k : ¬ c → Ev B s) : Ev (fun n => if c then A n else B n) (if c then r else s) := by
 by_cases hc : c
 ·rw [if_pos hc]; exact Aa6 hc (h hc)
 ·rw [if_neg hc]; exact Ab7 hc (k hc)
theorem Ac1 {g : Nat → Option α} {r : α} (h : Ev (fun k => g (k + 1)) r) : Ev g r := by
 obtain ⟨K, h⟩ := h
 refine ⟨K + 1, fun n hn => ?_⟩
 obtain ⟨m, rfl⟩ : ∃ m, n = m + 1 := ⟨n - 1, by omega⟩
 exact h m (by omega)
theorem Ab3 (r : α) : Ev (fun _ => some r) r := ⟨0, fun _ _ => rfl⟩
theorem Ab9 {g : Nat → Option α} {f : Nat → α → Option β} {a : α} {r : β} (h : Ev g a) (k : Ev (fun n => f n a) r) : Ev (fun n => (g n).bind (f n)) r := Ev.bind h k
theorem Ae0 {o : Option α} {f : Nat → α → Option β} {a : α} {r : β} (h : o = some a) (k : Ev (fun n => f n a) r) : Ev (fun n => o.bind (f n)) r := by
 subst h; exact k
theorem Ad3 {g : Nat → Option α} {r r' : α} (h : Ev g r) (e : r = r') : Ev g r' := e ▸ h
theorem At1 {o : Option α} {f : α → Option β} {a : α} {r : Option β} (h : o = some a) (k : f a = r) : o.bind f = r := by
 subst h; exact k
theorem ev_ex {g : Nat → Option α} {r : α} (h : Ev g r) : ∃ k, g k = some r := Ev.rounds h
theorem Ag9 {x : Int} (h0 : -9223372036854775808 ≤ x) (h1 : x ≤ 9223372036854775807) : wrap64 x = x := by
 unfold wrap64; omega
theorem Ac7 {i : Nat} (h : i < 9223372036854775807) : wrap64 ((i : Int) + 1) = ((i + 1 : Nat) : Int) := by
 unfold wrap64; omega
theorem At8 (xs : List Int) (i : Nat) (h : i < xs.length) : xs.drop i = rd xs (i : Int) :: xs.drop (i + 1) := by
 rw [List.drop_eq_getElem_cons h]
 simp [rd, List.getD_eq_getElem?_getD, List.getElem?_eq_getElem h]
theorem Ag4 (xs : List Int) (i : Nat) (h : i < xs.length) : rd xs (i : Int) = xs[i] := by
 simp [rd, List.getD_eq_getElem?_getD, List.getElem?_eq_getElem h]
theorem rd_some (xs : List Int) (i : Nat) (h : i < xs.length) : xs[i]? = some (rd xs (i : Int)) := by
 rw [Ag4 xs i h]; exact List.getElem?_eq_getElem h
def Ao4 (z : α) (xs : List α) (i : Nat) : List α := xs.take i ++ List.replicate (xs.length - i) z
theorem An7 (z : α) (xs : List α) : Ao4 z xs 0 = List.replicate xs.length z := by simp [Ao4]
theorem Ap2 (z : α) (xs : List α) : Ao4 z xs xs.length = xs := by simp [Ao4]
theorem Ak7 (z : α) (xs : List α) (i : Nat) (h : i ≤ xs.length) : (Ao4 z xs i).length = xs.length := by
 simp [Ao4]; omega
theorem Aq1 (z : α) (xs : List α) (i : Nat) (h : i < xs.length) (x : α) (hx : xs[i]? = some x) : (Ao4 z xs i).set i x = Ao4 z xs (i + 1) := by
 have e : xs.length - i = (xs.length - (i + 1)) + 1 := by omega
 obtain ⟨hx', rfl⟩ := List.getElem?_eq_some_iff.1 hx
 unfold Ao4
 rw [e, List.replicate_succ, List.set_append_right _ _ (by simp; omega), List.take_succ_eq_append_getElem h]
 simp only [List.length_take, Nat.min_eq_left (Nat.le_of_lt h), Nat.sub_self, List.set_cons_zero, List.append_assoc, List.singleton_append]
theorem getD_get {α : Type} (xs : List α) (i : Nat) (z : α) (h : i < xs.length) : xs.getD ((i : Int)).toNat z = xs[i] := by
 simp [List.getD_eq_getElem?_getD, List.getElem?_eq_getElem h]
def Av2 {α : Type} (p : α → α → Bool) : List α → List α → Bool
 | x :: xs, y :: ys => if p x y = true then Av2 p xs ys else false
 | _, _ => true
theorem allB_self {α : Type} (p : α → α → Bool) (h : ∀ x, p x x = true) : ∀ a : List α, Av2 p a a = true
 | [] => rfl
 | x :: xs => by rw [Av2, if_pos (h x)]; exact allB_self p h xs
theorem Ar8 {α : Type} (p : α → α → Bool) (a b : List α) (hab : a.length = b.length) (L : Nat → Int → Option Bool)
  (h0 : ∀ k, L (k + 1) (a.length : Int) = some true)
  (h1 : ∀ (i : Nat) (ha : i < a.length) (hb : i < b.length) (r : Bool), Ev (fun k => L k ((i + 1 : Nat) : Int)) r → Ev (fun k => L (k + 1) (i : Int)) (if p a[i] b[i] = true then r else false)) :
  ∀ (d i : Nat), i + d = a.length → Ev (fun k => L k (i : Int)) (Av2 p (a.drop i) (b.drop i)) := by
 intro d
 induction d with
 | zero =>
  intro i hi
  obtain rfl : i = a.length := by omega
  rw [List.drop_length]
  refine Ac1 ⟨0, fun k _ => ?_⟩
  simp only [Av2]; exact h0 k
 | succ d ih =>
  intro i hi
  have ha : i < a.length := by omega
  have hb : i < b.length := by omega
  rw [List.drop_eq_getElem_cons ha, List.drop_eq_getElem_cons hb]
  exact Ac1 (h1 i ha hb _ (ih (i + 1) (by omega)))
theorem loop_map {α β : Type} (f : α → β) (z : β) (a : List α) (L : Nat → List β → Int → Option (List β))
  (h0 : ∀ k ys, L (k + 1) ys (a.length : Int) = some ys)
  (h1 : ∀ (i : Nat) (ha : i < a.length) (ys r : List β), ys.length = a.length → Ev (fun k => L k (ys.set i (f a[i])) ((i + 1 : Nat) : Int)) r → Ev (fun k => L (k + 1) ys (i : Int)) r) :
  ∀ (d i : Nat), i + d = a.length → Ev (fun k => L k (Ao4 z (a.map f) i) (i : Int)) (a.map f) := by
 intro d
 induction d with
 | zero =>
  intro i hi
  obtain rfl : i = (a.map f).length := by rw [List.length_map]; omega
  rw [Ap2]
  refine Ac1 ⟨0, fun k _ => ?_⟩
  rw [List.length_map]; exact h0 k _
 | succ d ih =>
  intro i hi
  have ha : i < a.length := by omega
  refine Ac1 (h1 i ha _ _ (by rw [Ak7 _ _ _ (by rw [List.length_map]; omega), List.length_map]) ?_)
  rw [Aq1 z (a.map f) i (by rw [List.length_map]; exact ha) (f a[i]) (by simp [ha])]
  exact ih (i + 1) (by omega)
theorem loop_sz {α : Type} (Q : α → Prop) (B : Int) (a : List α) (L : Nat → Int → Int → Option Int)
  (h0 : ∀ k v, L (k + 1) v (a.length : Int) = some v)
  (h1 : ∀ (i : Nat) (ha : i < a.length) (v : Int), 0 ≤ v → v ≤ B → Ev (fun k => L (k + 1) v (i : Int)) (-1) ∨ ∃ u, 0 ≤ u ∧ u ≤ v ∧ Q a[i] ∧ ∀ r, Ev (fun k => L k u ((i + 1 : Nat) : Int)) r → Ev (fun k => L (k + 1) v (i : Int)) r) :
  ∀ (d i : Nat) (v : Int), i + d = a.length → 0 ≤ v → v ≤ B → ∃ r, Ev (fun k => L k v (i : Int)) r ∧ (¬ r < 0 → r ≤ v ∧ ∀ x ∈ a.drop i, Q x) := by
 intro d
 induction d with
 | zero =>
  intro i v hi h2 h3
  obtain rfl : i = a.length := by omega
  refine ⟨v, Ac1 ⟨0, fun k _ => h0 k v⟩, fun _ => ⟨Int.le_refl _, ?_⟩⟩
  rw [List.drop_length]; intro x hx; exact absurd hx (by simp)
 | succ d ih =>
  intro i v hi h2 h3
  have ha : i < a.length := by omega
  rcases h1 i ha v h2 h3 with h | ⟨u, u0, uv, hq, h⟩
  ·exact ⟨-1, Ac1 h, fun hn => absurd (by omega) hn⟩
  ·obtain ⟨r, hr, hg⟩ := ih (i + 1) u (by omega) u0 (by omega)
   refine ⟨r, Ac1 (h r hr), fun hn => ?_⟩
   obtain ⟨g1, g2⟩ := hg hn
   refine ⟨by omega, fun x hx => ?_⟩
   rw [List.drop_eq_getElem_cons ha] at hx
   rcases List.mem_cons.1 hx with rfl | hx
   ·exact hq
   ·exact g2 x hx
end Go.Proofs.YtgichahebemmiaaDoor.Base
set_option linter.unusedVariables false
namespace Go.Proofs.YtgichahebemmiaaDoor.Pure
open Go.RowKit Go.Proofs.YtgichahebemmiaaDoorW.PrintWords Go.Proofs.YtgichahebemmiaaDoor.Base
def Ai9 {R : Type} (f : Nat → Option R) (e : R) : Nat → Nat → R
 | 0, _ => e
 | d + 1, i => (f i).getD (Ai9 f e d (i + 1))
theorem Ad5 {R : Type} (n : Nat) (f : Nat → Option R) (e : R) (L : Nat → Int → Option R) (h0 : Ev (fun k => L (k + 1) (n : Int)) e)
  (h1 : ∀ i, i < n → ∀ r, Ev (fun k => L k ((i + 1 : Nat) : Int)) r → Ev (fun k => L (k + 1) (i : Int)) ((f i).getD r)) :
  ∀ d i, i + d = n → Ev (fun k => L k (i : Int)) (Ai9 f e d i) := by
 intro d
 induction d with
 | zero =>
  intro i hi
  obtain rfl : i = n := by omega
  exact Ac1 h0
 | succ d ih =>
  intro i hi
  exact Ac1 (h1 i (by omega) _ (ih (i + 1) (by omega)))
theorem scanN_none {R : Type} {f : Nat → Option R} {e : R} : ∀ (d i : Nat), (∀ j, i ≤ j → j < i + d → f j = none) → Ai9 f e d i = e
 | 0, _, _ => rfl
 | d + 1, i, h => by
  rw [Ai9, h i (by omega) (by omega)]
  exact scanN_none d (i + 1) (fun j h1 h2 => h j (by omega) (by omega))
theorem scanN_cases {R : Type} (f : Nat → Option R) (e : R) : ∀ (d i : Nat), (∀ j, i ≤ j → j < i + d → f j = none) ∧ Ai9 f e d i = e ∨ ∃ j, i ≤ j ∧ j < i + d ∧ f j = some (Ai9 f e d i)
 | 0, i => .inl ⟨fun j h1 h2 => by omega, rfl⟩
 | d + 1, i => by
  rw [Ai9]
  cases h : f i with
  | some r => exact .inr ⟨i, by omega, by omega, by rw [h]; rfl⟩
  | none =>
   rcases scanN_cases f e d (i + 1) with ⟨h1, h2⟩ | ⟨j, h1, h2, h3⟩
   ·refine .inl ⟨fun j a b => ?_, h2⟩
    by_cases hj : j = i
    ·rw [hj]; exact h
    ·exact h1 j (by omega) (by omega)
   ·exact .inr ⟨j, by omega, by omega, h3⟩
def Ad4 (p : Nat → Bool) : Nat → Nat → Option Nat
 | 0, _ => none
 | d + 1, i => if p i = true then some i else Ad4 p d (i + 1)
theorem Ah9 {p : Nat → Bool} : ∀ (d i : Nat), Ad4 p d i = none ↔ ∀ j, i ≤ j → j < i + d → p j = false
 | 0, i => by simp only [Ad4, true_iff]; intro j h1 h2; omega
 | d + 1, i => by
  rw [Ad4]
  by_cases h : p i = true
  ·rw [if_pos h]
   exact ⟨fun e => (by cases e), fun k => (by rw [k i (by omega) (by omega)] at h; cases h)⟩
  ·rw [if_neg h, Ah9 d (i + 1)]
   refine ⟨fun k j h1 h2 => ?_, fun k j h1 h2 => k j (by omega) (by omega)⟩
   by_cases hj : j = i
   ·rw [hj]; exact Bool.eq_false_iff.2 h
   ·exact k j (by omega) (by omega)
theorem Am2 {p : Nat → Bool} : ∀ (d i j : Nat), Ad4 p d i = some j → i ≤ j ∧ j < i + d ∧ p j = true ∧ ∀ m, i ≤ m → m < j → p m = false
 | 0, i, j, h => by cases h
 | d + 1, i, j, h => by
  rw [Ad4] at h
  by_cases hp : p i = true
  ·rw [if_pos hp] at h
   obtain rfl := Option.some.inj h
   exact ⟨by omega, by omega, hp, fun m h1 h2 => by omega⟩
  ·rw [if_neg hp] at h
   obtain ⟨h1, h2, h3, h4⟩ := Am2 d (i + 1) j h
   refine ⟨by omega, by omega, h3, fun m a b => ?_⟩
   by_cases hm : m = i
   ·rw [hm]; exact Bool.eq_false_iff.2 hp
   ·exact h4 m (by omega) b
theorem Af5 {R : Type} (p : Nat → Bool) (g : Nat → R) (e : R) : ∀ (d i : Nat), Ai9 (fun j => if p j = true then some (g j) else none) e d i = ((Ad4 p d i).map g).getD e
 | 0, _ => rfl
 | d + 1, i => by
  rw [Ai9, Ad4]
  by_cases h : p i = true
  ·rw [if_pos h, if_pos h]; rfl
  ·rw [if_neg h, if_neg h]; exact Af5 p g e d (i + 1)
def Ai5 (p : Nat → Bool) (n : Nat) : Int :=
 match Ad4 p n 0 with
 | some j => (j : Int)
 | none => -1
theorem Am3 (p : Nat → Bool) (n : Nat) : Ai9 (fun j => if p j = true then some (j : Int) else none) (-1) n 0 = Ai5 p n := by
 rw [Af5 p (fun j => (j : Int)) (-1)]
 unfold Ai5
 cases Ad4 p n 0 <;> rfl
theorem placeN_cases (p : Nat → Bool) (n : Nat) : Ai5 p n = -1 ∧ (∀ j, j < n → p j = false) ∨ ∃ j, j < n ∧ Ai5 p n = (j : Int) ∧ p j = true ∧ ∀ m, m < j → p m = false := by
 unfold Ai5
 cases h : Ad4 p n 0 with
 | none => exact .inl ⟨rfl, fun j hj => (Ah9 n 0).1 h j (by omega) (by omega)⟩
 | some j =>
  obtain ⟨_, h2, h3, h4⟩ := Am2 n 0 j h
  exact .inr ⟨j, by omega, rfl, h3, fun m hm => h4 m (by omega) hm⟩
end Go.Proofs.YtgichahebemmiaaDoor.Pure
set_option linter.unusedVariables false
namespace Go.Proofs.YtgichahebemmiaaDoor.Pure
open Go.RowKit Go.Proofs.YtgichahebemmiaaDoorW.PrintWords Go.Proofs.YtgichahebemmiaaDoor.Base
def Ah8 (b : UInt8) : Bool := decide (97 ≤ b.toNat ∧ b.toNat ≤ 122)
def Ao9 (s : ByteArray) : Bool := decide (1 ≤ s.size ∧ s.size ≤ 3) && s.data.toList.all Ah8
def abc : ByteArray := ⟨#[97, 98, 99, 100, 101, 102, 103, 104, 105, 106, 107, 108, 109, 110, 111, 112, 113, 114, 115, 116, 117, 118, 119, 120, 121, 122]⟩
theorem abc_letter_all : ∀ n, n < 256 → abc.data.toList.contains (UInt8.ofNat n) = Ah8 (UInt8.ofNat n) := by decide +kernel
theorem abc_letter (b : UInt8) : abc.data.toList.contains b = Ah8 b := by
 have h := abc_letter_all b.toNat (UInt8.toNat_lt b)
 rwa [UInt8.ofNat_toNat] at h
theorem Ai6 (p : UInt8 → Bool) : ∀ l : List UInt8, l.dropWhile p = [] ↔ l.all p = true
 | [] => by simp
 | x :: xs => by
  by_cases h : p x = true
  ·rw [List.dropWhile_cons_of_pos h, Ai6 p xs]; simp [h]
  ·rw [List.dropWhile_cons_of_neg h]; simp [h]
theorem dropWhile_head (p : UInt8 → Bool) : ∀ (l : List UInt8) (y : UInt8) (ys : List UInt8), l.dropWhile p = y :: ys → p y = false
 | [], y, ys, h => by cases h
 | x :: xs, y, ys, h => by
  by_cases hx : p x = true
  ·rw [List.dropWhile_cons_of_pos hx] at h; exact dropWhile_head p xs y ys h
  ·rw [List.dropWhile_cons_of_neg hx] at h
   simp only [List.cons.injEq] at h
   rw [← h.1]; exact Bool.eq_false_iff.2 hx
theorem trimS_nil (l cs : List UInt8) : Lib.trimS l cs = [] ↔ l.all (cs.contains ·) = true := by
 unfold Lib.trimS Lib.trimLeftS Lib.trimRightS
 rw [Ai6]
 constructor
 ·intro h
  cases hd : l.reverse.dropWhile (cs.contains ·) with
  | nil =>
   rw [Ai6] at hd
   rwa [List.all_reverse] at hd
  | cons y ys =>
   have h1 := dropWhile_head _ _ _ _ hd
   rw [hd] at h
   simp only [List.all_reverse, List.all_cons, Bool.and_eq_true] at h
   have h2 : cs.contains y = false := h1
   rw [h.1] at h2; cases h2
 ·intro h
  have : l.reverse.dropWhile (cs.contains ·) = [] := by rw [Ai6, List.all_reverse]; exact h
  rw [this]; rfl
theorem trim_abc (l : List UInt8) : (Lib.trimS l abc.data.toList == []) = l.all Ah8 := by
 have e : l.all (abc.data.toList.contains ·) = l.all Ah8 := by
  congr 1; funext b; exact abc_letter b
 by_cases h : l.all Ah8 = true
 ·rw [h]
  have := (trimS_nil l abc.data.toList).2 (by rw [e]; exact h)
  rw [this]; rfl
 ·have hn : ¬ Lib.trimS l abc.data.toList = [] := fun k => h (by rw [← e]; exact (trimS_nil _ _).1 k)
  rw [Bool.eq_false_iff.2 h]
  exact beq_eq_false_iff_ne.2 hn
end Go.Proofs.YtgichahebemmiaaDoor.Pure
