/- A part of the proof of the law FnExactOrientEquation. -/
import Derived.Test.YtgichahebemmiaaGreatDoorProg
import Derived.Deep.Slices
import Derived.Deep.Fields
import Derived.ChangeSame
import Derived.ChangeOld
import Derived.OpenShut
import Derived.ShutString
import Derived.ProofKit
import Derived.WalkKit
import Derived.Ground.NamesProg
import Derived.Shelf.Lays
import Derived.Lib.SlTrimSet
import Derived.Lib.Strings
import Derived.Test.YtgichahebemmiaaGreatDoorCFnExactOrientEquation0
set_option linter.unusedVariables false
namespace Go.Proofs.YtgichahebemmiaaGreatDoor.Open
open Go.ChangeShapes Go.WideShapes Go.RowKit Go.Deep Go.Proofs.YtgichahebemmiaaGreatDoorW.PrintWords
def Ah0 {α : Type} (P : Program) (w : World) (T : TypeId) (d : Kd α) (good : α → Prop) : Prop :=
 ∀ (H : Type) (enc : TypeId × Value → H) (base : Nat) (spare : Nat → Bool) (held : Bool) (fuel : Nat) (cs : List Value) (x : DataW H × List MemPlace),
  DataW.trod enc P w base spare held fuel T cs = some x → ∃ a, d.K w a cs ∧ good a
section
variable {P : Program} {w : World} {T : TypeId}
theorem Ah0.int_ {k : IntKind} (h : P.underlying T = some (.int k)) : Ah0 P w T (Kd.int k) (fun n => (Lit.int k n).wf = true) := by
 intro H enc base spare held fuel cs x hx
 obtain ⟨n, rfl, _, hw⟩ := DataW.trod_int h hx
 exact ⟨n, rfl, hw⟩
theorem Ah0.string_ (h : P.underlying T = some .string) : Ah0 P w T Kd.string (fun s => s.size ≤ maxLen) := by
 intro H enc base spare held fuel cs x hx
 obtain ⟨s, rfl, _, hs⟩ := DataW.trod_string h hx
 exact ⟨s, rfl, hs⟩
theorem Ah0.iso_ {α β : Type} {d : Kd α} {good : α → Prop} (h : Ah0 P w T d good) (f : β → α) (g : α → β) (hfg : ∀ a, f (g a) = a) : Ah0 P w T (Kd.iso d f) (fun b => good (f b)) := by
 intro H enc base spare held fuel cs x hx
 obtain ⟨a, ha, hg⟩ := h H enc base spare held fuel cs x hx
 refine ⟨g a, ?_, by show good (f (g a)); rw [hfg]; exact hg⟩
 show d.K w (f (g a)) cs
 rw [hfg]; exact ha
theorem Ah0.slice_ {α : Type} {e : TypeId} {d : Kd α} {good : α → Prop} (h : P.underlying T = some (.slice e)) (hc : P.cellsOf e = d.sz) (he : Ah0 P w e d good) :
  Ah0 P w T (Kd.slice e d) (fun xs => xs.length ≤ maxLen ∧ ∀ x ∈ xs, good x) := by
 intro H enc base spare held fuel cs x hx
 rcases open_slice h hx with ⟨rfl, _⟩ | ⟨a, len, cap, m, n, D, Pl, rfl, hb, hl, hm, hmm, _, hi⟩
 ·exact ⟨[], ⟨none, 0, rfl, Nat.le_refl _, Kd.C_nil _ _⟩, by simp [maxLen], by simp⟩
 ·have hlm : len ≤ m := by rw [hmm]; split <;> omega
  have hel : ∀ i, i < len → ∃ (y : α) (c : List Value), d.K w y c ∧ good y ∧ ∀ j u, c[j]? = some u → w.cell? (a.add (i * d.sz + j)) = some u := by
   intro i hil
   obtain ⟨cs', hcs, ht⟩ := hi i (by omega)
   obtain ⟨y, hy, hg⟩ := he H enc base spare held n cs' _ ht
   obtain ⟨_, hcl, hat⟩ := World.cells?_some hcs
   refine ⟨y, cs', hy, hg, fun j u hu => ?_⟩
   have hj : j < cs'.length := (List.getElem?_eq_some_iff.1 hu).1
   rw [← hc, ← Go.Deep.add_add, hat j (by omega), hu]
  have key : ∀ k, k ≤ len → ∃ ys : List α, ys.length = k ∧ (∀ y ∈ ys, good y) ∧ ∀ j p, ys[j]? = some p → ∃ c, c.length = d.sz ∧ d.K w p c ∧ ∀ i u, c[i]? = some u → w.cell? (a.add (j * d.sz + i)) = some u := by
   intro k
   induction k with
   | zero => intro _; exact ⟨[], rfl, by simp, by simp⟩
   | succ k ih =>
    intro hk
    obtain ⟨ys, hyl, hyg, hyc⟩ := ih (by omega)
    obtain ⟨y, c, hK, hg, hcell⟩ := hel k (by omega)
    refine ⟨ys ++ [y], by simp [hyl], ?_, ?_⟩
    ·intro z hz
     rcases List.mem_append.1 hz with hz | hz
     ·exact hyg z hz
     ·rw [List.mem_singleton.1 hz]; exact hg
    ·intro j p hj
     by_cases hjk : j < ys.length
     ·rw [List.getElem?_append_left hjk] at hj
      exact hyc j p hj
     ·have hj1 : j < (ys ++ [y]).length := (List.getElem?_eq_some_iff.1 hj).1
      rw [List.length_append, List.length_singleton] at hj1
      have hjl : j = ys.length := by omega
      subst hjl
      have : y = p := by simpa using hj
      subst this
      exact ⟨c, d.K_len hK, hK, by rw [hyl]; exact hcell⟩
  obtain ⟨ys, hyl, hyg, hyc⟩ := key len (Nat.le_refl _)
  subst hyl
  unfold maxLen at hm
  exact ⟨ys, ⟨some a, cap, rfl, hl, rfl, by omega, fun _ => ⟨a, rfl, hyc⟩⟩, by unfold maxLen; omega, hyg⟩
theorem Ah0.struct1 {α : Type} {f : Field} {d : Kd α} {good : α → Prop} (h : P.underlying T = some (.struct #[f])) (h0 : f.offset = 0) (hc : P.cellsOf T = P.cellsOf f.type) (hd : Ah0 P w f.type d good) : Ah0 P w T d good := by
 intro H enc base spare held fuel cs x hx
 obtain ⟨xs, n, _, _, hl, hlen, hf⟩ := DataW.trod_struct h hx
 have h1 := hf 0 f rfl
 rw [h0, List.drop_zero, List.take_of_length_le (by omega)] at h1
 obtain ⟨y, hy⟩ : ∃ y, xs[0]? = some y := ⟨xs[0]'(by rw [hlen]; simp), List.getElem?_eq_getElem _⟩
 exact hd H enc base spare held n cs y (h1.trans hy)
theorem Ah0.struct2 {α β : Type} {f g : Field} {d : Kd α} {e : Kd β} {good : α → Prop} {good' : β → Prop} (h : P.underlying T = some (.struct #[f, g])) (h0 : f.offset = 0) (h1 : g.offset = P.cellsOf f.type) (hc : P.cellsOf T = P.cellsOf f.type + P.cellsOf g.type)
  (hd : Ah0 P w f.type d good) (he : Ah0 P w g.type e good') : Ah0 P w T (Kd.pair d e) (fun x => good x.1 ∧ good' x.2) := by
 intro H enc base spare held fuel cs x hx
 obtain ⟨xs, n, _, _, hl, hlen, hf⟩ := DataW.trod_struct h hx
 have a0 := hf 0 f rfl
 have a1 := hf 1 g rfl
 rw [h0, List.drop_zero] at a0
 rw [h1, List.take_of_length_le (by rw [List.length_drop]; omega)] at a1
 obtain ⟨y, hy⟩ : ∃ y, xs[0]? = some y := ⟨xs[0]'(by rw [hlen]; simp), List.getElem?_eq_getElem _⟩
 obtain ⟨z, hz⟩ : ∃ z, xs[1]? = some z := ⟨xs[1]'(by rw [hlen]; simp), List.getElem?_eq_getElem _⟩
 obtain ⟨a, ha, hga⟩ := hd H enc base spare held n _ y (a0.trans hy)
 obtain ⟨b, hb, hgb⟩ := he H enc base spare held n _ z (a1.trans hz)
 exact ⟨(a, b), ⟨_, _, (List.take_append_drop _ _).symm, ha, hb⟩, hga, hgb⟩
variable {H : Type} {enc : TypeId × Value → H} {r : Reach} {b0 base : Nat} {spare : Nat → Bool} {held : Bool} {v : Value} {dd : DataW H} {p : List MemPlace}
theorem arg_slice {α : Type} {e : TypeId} {d : Kd α} {good : List α → Prop} (ht : P.underlying T = some (.slice e)) (hv : Value.okWide P w r b0 T v) (hd : DataW.Trod enc P w base spare held T v dd p)
  (ho : Ah0 P w T (Kd.slice e d) good) : ∃ A c xs, v = .slice A xs.length c ∧ xs.length ≤ c ∧ d.C w A xs.length xs ∧ good xs := by
 obtain ⟨a, len, cap, rfl⟩ := okWide_slice ht hv
 obtain ⟨fuel, hf⟩ := hd
 obtain ⟨xs, ⟨A, c, hcs, hl, hC⟩, hg⟩ := ho H enc base spare held fuel _ _ hf
 simp [Value.cells] at hcs
 obtain ⟨rfl, rfl, rfl⟩ := hcs
 exact ⟨_, _, xs, rfl, hl, hC, hg⟩
theorem arg_struct {α : Type} {fs : Array Field} {d : Kd α} {good : α → Prop} (ht : P.underlying T = some (.struct fs)) (hv : Value.okWide P w r b0 T v) (hd : DataW.Trod enc P w base spare held T v dd p)
  (ho : Ah0 P w T d good) : ∃ cs x, v = .agg cs ∧ d.K w x cs.toList ∧ good x := by
 obtain ⟨cs, rfl, _⟩ := okWide_struct ht hv
 obtain ⟨fuel, hf⟩ := hd
 obtain ⟨x, hx, hg⟩ := ho H enc base spare held fuel _ _ hf
 exact ⟨cs, x, rfl, hx, hg⟩
theorem arg_struct1 {α : Type} {fs : Array Field} {e : TypeId} {d : Kd α} {good : List α → Prop} (ht : P.underlying T = some (.struct fs)) (hv : Value.okWide P w r b0 T v) (hd : DataW.Trod enc P w base spare held T v dd p)
  (ho : Ah0 P w T (Kd.slice e d) good) : ∃ A c xs, v = .agg #[.slice A xs.length c] ∧ xs.length ≤ c ∧ d.C w A xs.length xs ∧ good xs := by
 obtain ⟨cs, xs, rfl, ⟨A, c, hcs, hl, hC⟩, hg⟩ := arg_struct ht hv hd ho
 refine ⟨A, c, xs, ?_, hl, hC, hg⟩
 obtain ⟨l⟩ := cs
 simp at hcs
 rw [hcs]
theorem arg_struct2 {α β : Type} {fs : Array Field} {e e' : TypeId} {d : Kd α} {d' : Kd β} {good : List α × List β → Prop} (ht : P.underlying T = some (.struct fs)) (hv : Value.okWide P w r b0 T v) (hd : DataW.Trod enc P w base spare held T v dd p)
  (ho : Ah0 P w T (Kd.pair (Kd.slice e d) (Kd.slice e' d')) good) :
  ∃ A c xs A' c' ys, v = .agg #[.slice A xs.length c, .slice A' ys.length c'] ∧ (xs.length ≤ c ∧ d.C w A xs.length xs) ∧ (ys.length ≤ c' ∧ d'.C w A' ys.length ys) ∧ good (xs, ys) := by
 obtain ⟨cs, ⟨xs, ys⟩, rfl, ⟨c0, c1, hcs, ⟨A, c, rfl, hl, hC⟩, ⟨A', c', rfl, hl', hC'⟩⟩, hg⟩ := arg_struct ht hv hd ho
 refine ⟨A, c, xs, A', c', ys, ?_, ⟨hl, hC⟩, ⟨hl', hC'⟩, hg⟩
 obtain ⟨l⟩ := cs
 simp at hcs
 rw [hcs]
end
end Go.Proofs.YtgichahebemmiaaGreatDoor.Open
namespace Go.Proofs.YtgichahebemmiaaGreatDoor.Shelf
open Go.Shelf
def lays160_ren : Go.Shelf.Ren := ⟨fun | 160 => 97 | 232 => 108 | 231 => 107 | 227 => 109 | 234 => 111 | 233 => 110 | 236 => 113 | 235 => 112 | 228 => 118 | 271 => 121 | 151 => 120 | 197 => 119 | 120 => 127 | 152 => 126 | 260 => 125 | 137 => 131 | 119 => 132 | 224 => 133 | 225 => 134 | 217 => 136 | 266 => 137 | n => n, fun | 9 => 9 | 4 => 4 | 3 => 3 | 5 => 5 | 117 => 131 | 116 => 130 | 0 => 0 | 124 => 134 | 21 => 21 | 105 => 141 | 46 => 153 | 119 => 152 | 139 => 156 | 138 => 155 | n => n, fun | 3 => 0 | 4 => 1 | n => n⟩
theorem lays160 : Go.Proofs.Lays.n160 Tryz.prog lays160_ren := {
 mixed := by kernel_rfl
 f119 := Tryz.func132.trans (congrArg some (by kernel_rfl))
 f120 := Tryz.func127.trans (congrArg some (by kernel_rfl))
 f137 := Tryz.func131.trans (congrArg some (by kernel_rfl))
 f151 := Tryz.func120.trans (congrArg some (by kernel_rfl))
 f152 := Tryz.func126.trans (congrArg some (by kernel_rfl))
 f160 := Tryz.func97.trans (congrArg some (by kernel_rfl))
 f197 := Tryz.func119.trans (congrArg some (by kernel_rfl))
 f217 := Tryz.func136.trans (congrArg some (by kernel_rfl))
 f224 := Tryz.func133.trans (congrArg some (by kernel_rfl))
 f225 := Tryz.func134.trans (congrArg some (by kernel_rfl))
 f227 := Tryz.func109.trans (congrArg some (by kernel_rfl))
 f228 := Tryz.func118.trans (congrArg some (by kernel_rfl))
 f231 := Tryz.func107.trans (congrArg some (by kernel_rfl))
 f232 := Tryz.func108.trans (congrArg some (by kernel_rfl))
 f233 := Tryz.func110.trans (congrArg some (by kernel_rfl))
 f234 := Tryz.func111.trans (congrArg some (by kernel_rfl))
 f235 := Tryz.func112.trans (congrArg some (by kernel_rfl))
 f236 := Tryz.func113.trans (congrArg some (by kernel_rfl))
 f260 := Tryz.func125.trans (congrArg some (by kernel_rfl))
 f266 := Tryz.func137.trans (congrArg some (by kernel_rfl))
 f271 := Tryz.func121.trans (congrArg some (by kernel_rfl))
 t0 := Tryz.underlying0
 a0 := Tryz.isAgg0
 z0 := Tryz.sizeOf0
 v0 := Tryz.zeroValue0
 t3 := Tryz.underlying3
 a3 := Tryz.isAgg3
 z3 := Tryz.sizeOf3
 v3 := Tryz.zeroValue3
 t4 := Tryz.underlying4
 a4 := Tryz.isAgg4
 z4 := Tryz.sizeOf4
 v4 := Tryz.zeroValue4
 t5 := Tryz.underlying5
 a5 := Tryz.isAgg5
 z5 := Tryz.sizeOf5
 v5 := Tryz.zeroValue5
 t9 := Tryz.underlying9
 a9 := Tryz.isAgg9
 z9 := Tryz.sizeOf9
 v9 := Tryz.zeroValue9
 t21 := Tryz.underlying21
 a21 := Tryz.isAgg21
 z21 := Tryz.sizeOf21
 v21 := Tryz.zeroValue21
 t46 := Tryz.underlying153
 a46 := Tryz.isAgg153
 z46 := Tryz.sizeOf153
 v46 := Tryz.zeroValue153
 t105 := Tryz.underlying141
 a105 := Tryz.isAgg141
 z105 := Tryz.sizeOf141
 v105 := Tryz.zeroValue141
 t116 := Tryz.underlying130
 a116 := Tryz.isAgg130
 z116 := Tryz.sizeOf130
 t117 := Tryz.underlying131
 a117 := Tryz.isAgg131
 z117 := Tryz.sizeOf131
 v117 := Tryz.zeroValue131
 t119 := Tryz.underlying152
 a119 := Tryz.isAgg152
 z119 := Tryz.sizeOf152
 t124 := Tryz.underlying134
 a124 := Tryz.isAgg134
 z124 := Tryz.sizeOf134
 v124 := Tryz.zeroValue134
 t138 := Tryz.underlying155
 a138 := Tryz.isAgg155
 z138 := Tryz.sizeOf155
 v138 := Tryz.zeroValue155
 t139 := Tryz.underlying156
 a139 := Tryz.isAgg156
 z139 := Tryz.sizeOf156
 v139 := Tryz.zeroValue156
 g3 := by kernel_rfl
 g4 := by kernel_rfl }
end Go.Proofs.YtgichahebemmiaaGreatDoor.Shelf
set_option linter.unusedVariables false
namespace Go.Proofs.YtgichahebemmiaaGreatDoor.Base
open Go.RowKit Go.Proofs.YtgichahebemmiaaGreatDoorW.PrintWords
variable {α β : Type}
theorem Aa3 {c : Prop} [Decidable c] {A B : Nat → Option α} {r : α} (h : c) (k : Ev A r) : Ev (fun n => if c then A n else B n) r := by
 simp only [if_pos h]; exact k
theorem Aa9 {c : Prop} [Decidable c] {A B : Nat → Option α} {r : α} (h : ¬ c) (k : Ev B r) : Ev (fun n => if c then A n else B n) r := by
 simp only [if_neg h]; exact k
theorem Ai7 {c : Prop} [Decidable c] {A B : Nat → Option α} {r s : α} (h : c → Ev A r) (k : ¬ c → Ev B s) : Ev (fun n => if c then A n else B n) (if c then r else s) := by
 by_cases hc : c
 ·rw [if_pos hc]; exact Aa3 hc (h hc)
 ·rw [if_neg hc]; exact Aa9 hc (k hc)
theorem Ab2 {g : Nat → Option α} {r : α} (h : Ev (fun k => g (k + 1)) r) : Ev g r := by
 obtain ⟨K, h⟩ := h
 refine ⟨K + 1, fun n hn => ?_⟩
 obtain ⟨m, rfl⟩ : ∃ m, n = m + 1 := ⟨n - 1, by omega⟩
 exact h m (by omega)
theorem Aa4 (r : α) : Ev (fun _ => some r) r := ⟨0, fun _ _ => rfl⟩
theorem Aa8 {g : Nat → Option α} {f : Nat → α → Option β} {a : α} {r : β} (h : Ev g a) (k : Ev (fun n => f n a) r) : Ev (fun n => (g n).bind (f n)) r := Ev.bind h k
theorem Ac4 {o : Option α} {f : Nat → α → Option β} {a : α} {r : β} (h : o = some a) (k : Ev (fun n => f n a) r) : Ev (fun n => o.bind (f n)) r := by
 subst h; exact k
theorem Ac6 {g : Nat → Option α} {r r' : α} (h : Ev g r) (e : r = r') : Ev g r' := e ▸ h
theorem At5 {o : Option α} {f : α → Option β} {a : α} {r : Option β} (h : o = some a) (k : f a = r) : o.bind f = r := by
 subst h; exact k
theorem ev_ex {g : Nat → Option α} {r : α} (h : Ev g r) : ∃ k, g k = some r := Ev.rounds h
theorem Af3 {x : Int} (h0 : -9223372036854775808 ≤ x) (h1 : x ≤ 9223372036854775807) : wrap64 x = x := by
 unfold wrap64; omega
theorem Ac2 {i : Nat} (h : i < 9223372036854775807) : wrap64 ((i : Int) + 1) = ((i + 1 : Nat) : Int) := by
 unfold wrap64; omega
theorem At9 (xs : List Int) (i : Nat) (h : i < xs.length) : xs.drop i = rd xs (i : Int) :: xs.drop (i + 1) := by
 rw [List.drop_eq_getElem_cons h]
 simp [rd, List.getD_eq_getElem?_getD, List.getElem?_eq_getElem h]
theorem Af7 (xs : List Int) (i : Nat) (h : i < xs.length) : rd xs (i : Int) = xs[i] := by
 simp [rd, List.getD_eq_getElem?_getD, List.getElem?_eq_getElem h]
theorem rd_some (xs : List Int) (i : Nat) (h : i < xs.length) : xs[i]? = some (rd xs (i : Int)) := by
 rw [Af7 xs i h]; exact List.getElem?_eq_getElem h
def Aq4 (z : α) (xs : List α) (i : Nat) : List α := xs.take i ++ List.replicate (xs.length - i) z
theorem cpart_zero (z : α) (xs : List α) : Aq4 z xs 0 = List.replicate xs.length z := by simp [Aq4]
theorem cpart_end (z : α) (xs : List α) : Aq4 z xs xs.length = xs := by simp [Aq4]
theorem cpart_length (z : α) (xs : List α) (i : Nat) (h : i ≤ xs.length) : (Aq4 z xs i).length = xs.length := by
 simp [Aq4]; omega
theorem cpart_set (z : α) (xs : List α) (i : Nat) (h : i < xs.length) (x : α) (hx : xs[i]? = some x) : (Aq4 z xs i).set i x = Aq4 z xs (i + 1) := by
 have e : xs.length - i = (xs.length - (i + 1)) + 1 := by omega
 obtain ⟨hx', rfl⟩ := List.getElem?_eq_some_iff.1 hx
 unfold Aq4
 rw [e, List.replicate_succ, List.set_append_right _ _ (by simp; omega), List.take_succ_eq_append_getElem h]
 simp only [List.length_take, Nat.min_eq_left (Nat.le_of_lt h), Nat.sub_self, List.set_cons_zero, List.append_assoc, List.singleton_append]
def Aw9 {α : Type} (p : α → α → Bool) : List α → List α → Bool
 | x :: xs, y :: ys => if p x y = true then Aw9 p xs ys else false
 | _, _ => true
theorem loop_all {α : Type} (p : α → α → Bool) (a b : List α) (hab : a.length = b.length) (L : Nat → Int → Option Bool)
  (h0 : ∀ k, L (k + 1) (a.length : Int) = some true)
  (h1 : ∀ (i : Nat) (ha : i < a.length) (hb : i < b.length) (r : Bool), Ev (fun k => L k ((i + 1 : Nat) : Int)) r → Ev (fun k => L (k + 1) (i : Int)) (if p a[i] b[i] = true then r else false)) :
  ∀ (d i : Nat), i + d = a.length → Ev (fun k => L k (i : Int)) (Aw9 p (a.drop i) (b.drop i)) := by
 intro d
 induction d with
 | zero =>
  intro i hi
  obtain rfl : i = a.length := by omega
  rw [List.drop_length]
  refine Ab2 ⟨0, fun k _ => ?_⟩
  simp only [Aw9]; exact h0 k
 | succ d ih =>
  intro i hi
  have ha : i < a.length := by omega
  have hb : i < b.length := by omega
  rw [List.drop_eq_getElem_cons ha, List.drop_eq_getElem_cons hb]
  exact Ab2 (h1 i ha hb _ (ih (i + 1) (by omega)))
end Go.Proofs.YtgichahebemmiaaGreatDoor.Base
set_option linter.unusedVariables false
namespace Go.Proofs.YtgichahebemmiaaGreatDoor.Pure
open Go.RowKit Go.Proofs.YtgichahebemmiaaGreatDoorW.PrintWords Go.Proofs.YtgichahebemmiaaGreatDoor.Base
def Aj7 {R : Type} (f : Nat → Option R) (e : R) : Nat → Nat → R
 | 0, _ => e
 | d + 1, i => (f i).getD (Aj7 f e d (i + 1))
theorem Ae0 {R : Type} (n : Nat) (f : Nat → Option R) (e : R) (L : Nat → Int → Option R) (h0 : Ev (fun k => L (k + 1) (n : Int)) e)
  (h1 : ∀ i, i < n → ∀ r, Ev (fun k => L k ((i + 1 : Nat) : Int)) r → Ev (fun k => L (k + 1) (i : Int)) ((f i).getD r)) :
  ∀ d i, i + d = n → Ev (fun k => L k (i : Int)) (Aj7 f e d i) := by
 intro d
 induction d with
 | zero =>
  intro i hi
  obtain rfl : i = n := by omega
  exact Ab2 h0
 | succ d ih =>
  intro i hi
  exact Ab2 (h1 i (by omega) _ (ih (i + 1) (by omega)))
theorem scanN_none {R : Type} {f : Nat → Option R} {e : R} : ∀ (d i : Nat), (∀ j, i ≤ j → j < i + d → f j = none) → Aj7 f e d i = e
 | 0, _, _ => rfl
 | d + 1, i, h => by
  rw [Aj7, h i (by omega) (by omega)]
  exact scanN_none d (i + 1) (fun j h1 h2 => h j (by omega) (by omega))
theorem scanN_cases {R : Type} (f : Nat → Option R) (e : R) : ∀ (d i : Nat), (∀ j, i ≤ j → j < i + d → f j = none) ∧ Aj7 f e d i = e ∨ ∃ j, i ≤ j ∧ j < i + d ∧ f j = some (Aj7 f e d i)
 | 0, i => .inl ⟨fun j h1 h2 => by omega, rfl⟩
 | d + 1, i => by
  rw [Aj7]
  cases h : f i with
  | some r => exact .inr ⟨i, by omega, by omega, by rw [h]; rfl⟩
  | none =>
   rcases scanN_cases f e d (i + 1) with ⟨h1, h2⟩ | ⟨j, h1, h2, h3⟩
   ·refine .inl ⟨fun j a b => ?_, h2⟩
    by_cases hj : j = i
    ·rw [hj]; exact h
    ·exact h1 j (by omega) (by omega)
   ·exact .inr ⟨j, by omega, by omega, h3⟩
def Ad1 (p : Nat → Bool) : Nat → Nat → Option Nat
 | 0, _ => none
 | d + 1, i => if p i = true then some i else Ad1 p d (i + 1)
theorem Ai0 {p : Nat → Bool} : ∀ (d i : Nat), Ad1 p d i = none ↔ ∀ j, i ≤ j → j < i + d → p j = false
 | 0, i => by simp only [Ad1, true_iff]; intro j h1 h2; omega
 | d + 1, i => by
  rw [Ad1]
  by_cases h : p i = true
  ·rw [if_pos h]
   exact ⟨fun e => (by cases e), fun k => (by rw [k i (by omega) (by omega)] at h; cases h)⟩
  ·rw [if_neg h, Ai0 d (i + 1)]
   refine ⟨fun k j h1 h2 => ?_, fun k j h1 h2 => k j (by omega) (by omega)⟩
   by_cases hj : j = i
   ·rw [hj]; exact Bool.eq_false_iff.2 h
   ·exact k j (by omega) (by omega)
theorem Am4 {p : Nat → Bool} : ∀ (d i j : Nat), Ad1 p d i = some j → i ≤ j ∧ j < i + d ∧ p j = true ∧ ∀ m, i ≤ m → m < j → p m = false
 | 0, i, j, h => by cases h
 | d + 1, i, j, h => by
  rw [Ad1] at h
  by_cases hp : p i = true
  ·rw [if_pos hp] at h
   obtain rfl := Option.some.inj h
   exact ⟨by omega, by omega, hp, fun m h1 h2 => by omega⟩
  ·rw [if_neg hp] at h
   obtain ⟨h1, h2, h3, h4⟩ := Am4 d (i + 1) j h
   refine ⟨by omega, by omega, h3, fun m a b => ?_⟩
   by_cases hm : m = i
   ·rw [hm]; exact Bool.eq_false_iff.2 hp
   ·exact h4 m (by omega) b
theorem Ag7 {R : Type} (p : Nat → Bool) (g : Nat → R) (e : R) : ∀ (d i : Nat), Aj7 (fun j => if p j = true then some (g j) else none) e d i = ((Ad1 p d i).map g).getD e
 | 0, _ => rfl
 | d + 1, i => by
  rw [Aj7, Ad1]
  by_cases h : p i = true
  ·rw [if_pos h, if_pos h]; rfl
  ·rw [if_neg h, if_neg h]; exact Ag7 p g e d (i + 1)
def Ai9 (p : Nat → Bool) (n : Nat) : Int :=
 match Ad1 p n 0 with
 | some j => (j : Int)
 | none => -1
theorem Am2 (p : Nat → Bool) (n : Nat) : Aj7 (fun j => if p j = true then some (j : Int) else none) (-1) n 0 = Ai9 p n := by
 rw [Ag7 p (fun j => (j : Int)) (-1)]
 unfold Ai9
 cases Ad1 p n 0 <;> rfl
theorem placeN_cases (p : Nat → Bool) (n : Nat) : Ai9 p n = -1 ∧ (∀ j, j < n → p j = false) ∨ ∃ j, j < n ∧ Ai9 p n = (j : Int) ∧ p j = true ∧ ∀ m, m < j → p m = false := by
 unfold Ai9
 cases h : Ad1 p n 0 with
 | none => exact .inl ⟨rfl, fun j hj => (Ai0 n 0).1 h j (by omega) (by omega)⟩
 | some j =>
  obtain ⟨_, h2, h3, h4⟩ := Am4 n 0 j h
  exact .inr ⟨j, by omega, rfl, h3, fun m hm => h4 m (by omega) hm⟩
end Go.Proofs.YtgichahebemmiaaGreatDoor.Pure
set_option linter.unusedVariables false
namespace Go.Proofs.YtgichahebemmiaaGreatDoor.Pure
open Go.RowKit Go.Proofs.YtgichahebemmiaaGreatDoorW.PrintWords Go.Proofs.YtgichahebemmiaaGreatDoor.Base
def Ai3 (b : UInt8) : Bool := decide (97 ≤ b.toNat ∧ b.toNat ≤ 122)
def Aq5 (s : ByteArray) : Bool := decide (1 ≤ s.size ∧ s.size ≤ 3) && s.data.toList.all Ai3
def abc : ByteArray := ⟨#[97, 98, 99, 100, 101, 102, 103, 104, 105, 106, 107, 108, 109, 110, 111, 112, 113, 114, 115, 116, 117, 118, 119, 120, 121, 122]⟩
theorem abc_letter_all : ∀ n, n < 256 → abc.data.toList.contains (UInt8.ofNat n) = Ai3 (UInt8.ofNat n) := by decide +kernel
theorem abc_letter (b : UInt8) : abc.data.toList.contains b = Ai3 b := by
 have h := abc_letter_all b.toNat (UInt8.toNat_lt b)
 rwa [UInt8.ofNat_toNat] at h
theorem Aj1 (p : UInt8 → Bool) : ∀ l : List UInt8, l.dropWhile p = [] ↔ l.all p = true
 | [] => by simp
 | x :: xs => by
  by_cases h : p x = true
  ·rw [List.dropWhile_cons_of_pos h, Aj1 p xs]; simp [h]
  ·rw [List.dropWhile_cons_of_neg h]; simp [h]
theorem dropWhile_head (p : UInt8 → Bool) : ∀ (l : List UInt8) (y : UInt8) (ys : List UInt8), l.dropWhile p = y :: ys → p y = false
 | [], y, ys, h => by cases h
 | x :: xs, y, ys, h => by
  by_cases hx : p x = true
  ·rw [List.dropWhile_cons_of_pos hx] at h; exact dropWhile_head p xs y ys h
  ·rw [List.dropWhile_cons_of_neg hx] at h
   simp only [List.cons.injEq] at h
   rw [← h.1]; exact Bool.eq_false_iff.2 hx
theorem trimS_nil (l cs : List UInt8) : Lib.trimS l cs = [] ↔ l.all (cs.contains ·) = true := by
 unfold Lib.trimS Lib.trimLeftS Lib.trimRightS
 rw [Aj1]
 constructor
 ·intro h
  cases hd : l.reverse.dropWhile (cs.contains ·) with
  | nil =>
   rw [Aj1] at hd
   rwa [List.all_reverse] at hd
  | cons y ys =>
   have h1 := dropWhile_head _ _ _ _ hd
   rw [hd] at h
   simp only [List.all_reverse, List.all_cons, Bool.and_eq_true] at h
   have h2 : cs.contains y = false := h1
   rw [h.1] at h2; cases h2
 ·intro h
  have : l.reverse.dropWhile (cs.contains ·) = [] := by rw [Aj1, List.all_reverse]; exact h
  rw [this]; rfl
theorem trim_abc (l : List UInt8) : (Lib.trimS l abc.data.toList == []) = l.all Ai3 := by
 have e : l.all (abc.data.toList.contains ·) = l.all Ai3 := by
  congr 1; funext b; exact abc_letter b
 by_cases h : l.all Ai3 = true
 ·rw [h]
  have := (trimS_nil l abc.data.toList).2 (by rw [e]; exact h)
  rw [this]; rfl
 ·have hn : ¬ Lib.trimS l abc.data.toList = [] := fun k => h (by rw [← e]; exact (trimS_nil _ _).1 k)
  rw [Bool.eq_false_iff.2 h]
  exact beq_eq_false_iff_ne.2 hn
end Go.Proofs.YtgichahebemmiaaGreatDoor.Pure
