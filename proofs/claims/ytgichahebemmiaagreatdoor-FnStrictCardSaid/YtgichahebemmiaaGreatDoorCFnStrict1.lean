/- A part of the proof of the law FnStrict. -/
import Derived.Test.YtgichahebemmiaaGreatDoorProg
import Derived.Deep.Slices
import Derived.Deep.Fields
import Derived.ChangeSame
import Derived.ChangeOld
import Derived.OpenShut
import Derived.ShutString
import Derived.ProofKit
import Derived.Ground.NamesProg
import Derived.Shelf.Lays
import Derived.Lib.SlTrimSet
import Derived.Lib.Strings
import Derived.Test.YtgichahebemmiaaGreatDoorCFnStrict0
set_option linter.unusedVariables false
namespace Go.Proofs.YtgichahebemmiaaGreatDoor.Open
open Go.ChangeShapes Go.WideShapes Go.RowKit Go.Deep Go.Proofs.YtgichahebemmiaaGreatDoorW.PrintWords
def Bh3 {α : Type} (P : Program) (w : World) (T : TypeId) (d : Kd α) (good : α → Prop) : Prop :=
 ∀ (H : Type) (enc : TypeId × Value → H) (base : Nat) (spare : Nat → Bool) (held : Bool) (fuel : Nat) (cs : List Value) (x : DataW H × List MemPlace),
  DataW.trod enc P w base spare held fuel T cs = some x → ∃ a, d.K w a cs ∧ good a
section
variable {P : Program} {w : World} {T : TypeId}
theorem Bh3.int_ {k : IntKind} (h : P.underlying T = some (.int k)) : Bh3 P w T (Kd.int k) (fun n => (Lit.int k n).wf = true) := by
 intro H enc base spare held fuel cs x hx
 obtain ⟨n, rfl, _, hw⟩ := DataW.trod_int h hx
 exact ⟨n, rfl, hw⟩
theorem Bh3.slice_ {α : Type} {e : TypeId} {d : Kd α} {good : α → Prop} (h : P.underlying T = some (.slice e)) (hc : P.cellsOf e = d.sz) (he : Bh3 P w e d good) :
  Bh3 P w T (Kd.slice e d) (fun xs => xs.length ≤ maxLen ∧ ∀ x ∈ xs, good x) := by
 intro H enc base spare held fuel cs x hx
 rcases open_slice h hx with ⟨rfl, _⟩ | ⟨a, len, cap, m, n, D, Pl, rfl, hb, hl, hm, hmm, _, hi⟩
 ·exact ⟨[], ⟨none, 0, rfl, Nat.le_refl _, Kd.C_nil _ _⟩, by simp [maxLen], by simp⟩
 ·have hlm : len ≤ m := by rw [hmm]; split <;> omega
  have hel : ∀ i, i < len → ∃ (y : α) (c : List Value), d.K w y c ∧ good y ∧ ∀ j u, c[j]? = some u → w.cell? (a.add (i * d.sz + j)) = some u := by
   intro i hil
   obtain ⟨cs', hcs, ht⟩ := hi i (by omega)
   obtain ⟨y, hy, hg⟩ := he H enc base spare held n cs' _ ht
   obtain ⟨_, hcl, hat⟩ := World.cells?_some hcs
   refine ⟨y, cs', hy, hg, fun j u hu => ?_⟩
   have hj : j < cs'.length := (List.getElem?_eq_some_iff.1 hu).1
   rw [← hc, ← Go.Deep.add_add, hat j (by omega), hu]
  have key : ∀ k, k ≤ len → ∃ ys : List α, ys.length = k ∧ (∀ y ∈ ys, good y) ∧ ∀ j p, ys[j]? = some p → ∃ c, c.length = d.sz ∧ d.K w p c ∧ ∀ i u, c[i]? = some u → w.cell? (a.add (j * d.sz + i)) = some u := by
   intro k
   induction k with
   | zero => intro _; exact ⟨[], rfl, by simp, by simp⟩
   | succ k ih =>
    intro hk
    obtain ⟨ys, hyl, hyg, hyc⟩ := ih (by omega)
    obtain ⟨y, c, hK, hg, hcell⟩ := hel k (by omega)
    refine ⟨ys ++ [y], by simp [hyl], ?_, ?_⟩
    ·intro z hz
     rcases List.mem_append.1 hz with hz | hz
     ·exact hyg z hz
     ·rw [List.mem_singleton.1 hz]; exact hg
    ·intro j p hj
     by_cases hjk : j < ys.length
     ·rw [List.getElem?_append_left hjk] at hj
      exact hyc j p hj
     ·have hj1 : j < (ys ++ [y]).length := (List.getElem?_eq_some_iff.1 hj).1
      rw [List.length_append, List.length_singleton] at hj1
      have hjl : j = ys.length := by omega
      subst hjl
      have : y = p := by simpa using hj
      subst this
      exact ⟨c, d.K_len hK, hK, by rw [hyl]; exact hcell⟩
  obtain ⟨ys, hyl, hyg, hyc⟩ := key len (Nat.le_refl _)
  subst hyl
  unfold maxLen at hm
  exact ⟨ys, ⟨some a, cap, rfl, hl, rfl, by omega, fun _ => ⟨a, rfl, hyc⟩⟩, by unfold maxLen; omega, hyg⟩
variable {H : Type} {enc : TypeId × Value → H} {r : Reach} {b0 base : Nat} {spare : Nat → Bool} {held : Bool} {v : Value} {dd : DataW H} {p : List MemPlace}
theorem arg_slice {α : Type} {e : TypeId} {d : Kd α} {good : List α → Prop} (ht : P.underlying T = some (.slice e)) (hv : Value.okWide P w r b0 T v) (hd : DataW.Trod enc P w base spare held T v dd p)
  (ho : Bh3 P w T (Kd.slice e d) good) : ∃ A c xs, v = .slice A xs.length c ∧ xs.length ≤ c ∧ d.C w A xs.length xs ∧ good xs := by
 obtain ⟨a, len, cap, rfl⟩ := okWide_slice ht hv
 obtain ⟨fuel, hf⟩ := hd
 obtain ⟨xs, ⟨A, c, hcs, hl, hC⟩, hg⟩ := ho H enc base spare held fuel _ _ hf
 simp [Value.cells] at hcs
 obtain ⟨rfl, rfl, rfl⟩ := hcs
 exact ⟨_, _, xs, rfl, hl, hC, hg⟩
end
end Go.Proofs.YtgichahebemmiaaGreatDoor.Open
namespace Go.Proofs.YtgichahebemmiaaGreatDoor.Shelf
open Go.Shelf
def lays160_ren : Go.Shelf.Ren := ⟨fun | 160 => 97 | 232 => 108 | 231 => 107 | 227 => 109 | 234 => 111 | 233 => 110 | 236 => 113 | 235 => 112 | 228 => 118 | 271 => 121 | 151 => 120 | 197 => 119 | 120 => 127 | 152 => 126 | 260 => 125 | 137 => 131 | 119 => 132 | 224 => 133 | 225 => 134 | 217 => 136 | 266 => 137 | n => n, fun | 9 => 9 | 4 => 4 | 3 => 3 | 5 => 5 | 117 => 131 | 116 => 130 | 0 => 0 | 124 => 134 | 21 => 21 | 105 => 141 | 46 => 153 | 119 => 152 | 139 => 156 | 138 => 155 | n => n, fun | 3 => 0 | 4 => 1 | n => n⟩
theorem lays160 : Go.Proofs.Lays.n160 Tryz.prog lays160_ren := {
 mixed := by kernel_rfl
 f119 := Tryz.func132.trans (congrArg some (by kernel_rfl))
 f120 := Tryz.func127.trans (congrArg some (by kernel_rfl))
 f137 := Tryz.func131.trans (congrArg some (by kernel_rfl))
 f151 := Tryz.func120.trans (congrArg some (by kernel_rfl))
 f152 := Tryz.func126.trans (congrArg some (by kernel_rfl))
 f160 := Tryz.func97.trans (congrArg some (by kernel_rfl))
 f197 := Tryz.func119.trans (congrArg some (by kernel_rfl))
 f217 := Tryz.func136.trans (congrArg some (by kernel_rfl))
 f224 := Tryz.func133.trans (congrArg some (by kernel_rfl))
 f225 := Tryz.func134.trans (congrArg some (by kernel_rfl))
 f227 := Tryz.func109.trans (congrArg some (by kernel_rfl))
 f228 := Tryz.func118.trans (congrArg some (by kernel_rfl))
 f231 := Tryz.func107.trans (congrArg some (by kernel_rfl))
 f232 := Tryz.func108.trans (congrArg some (by kernel_rfl))
 f233 := Tryz.func110.trans (congrArg some (by kernel_rfl))
 f234 := Tryz.func111.trans (congrArg some (by kernel_rfl))
 f235 := Tryz.func112.trans (congrArg some (by kernel_rfl))
 f236 := Tryz.func113.trans (congrArg some (by kernel_rfl))
 f260 := Tryz.func125.trans (congrArg some (by kernel_rfl))
 f266 := Tryz.func137.trans (congrArg some (by kernel_rfl))
 f271 := Tryz.func121.trans (congrArg some (by kernel_rfl))
 t0 := Tryz.underlying0
 a0 := Tryz.isAgg0
 z0 := Tryz.sizeOf0
 v0 := Tryz.zeroValue0
 t3 := Tryz.underlying3
 a3 := Tryz.isAgg3
 z3 := Tryz.sizeOf3
 v3 := Tryz.zeroValue3
 t4 := Tryz.underlying4
 a4 := Tryz.isAgg4
 z4 := Tryz.sizeOf4
 v4 := Tryz.zeroValue4
 t5 := Tryz.underlying5
 a5 := Tryz.isAgg5
 z5 := Tryz.sizeOf5
 v5 := Tryz.zeroValue5
 t9 := Tryz.underlying9
 a9 := Tryz.isAgg9
 z9 := Tryz.sizeOf9
 v9 := Tryz.zeroValue9
 t21 := Tryz.underlying21
 a21 := Tryz.isAgg21
 z21 := Tryz.sizeOf21
 v21 := Tryz.zeroValue21
 t46 := Tryz.underlying153
 a46 := Tryz.isAgg153
 z46 := Tryz.sizeOf153
 v46 := Tryz.zeroValue153
 t105 := Tryz.underlying141
 a105 := Tryz.isAgg141
 z105 := Tryz.sizeOf141
 v105 := Tryz.zeroValue141
 t116 := Tryz.underlying130
 a116 := Tryz.isAgg130
 z116 := Tryz.sizeOf130
 t117 := Tryz.underlying131
 a117 := Tryz.isAgg131
 z117 := Tryz.sizeOf131
 v117 := Tryz.zeroValue131
 t119 := Tryz.underlying152
 a119 := Tryz.isAgg152
 z119 := Tryz.sizeOf152
 t124 := Tryz.underlying134
 a124 := Tryz.isAgg134
 z124 := Tryz.sizeOf134
 v124 := Tryz.zeroValue134
 t138 := Tryz.underlying155
 a138 := Tryz.isAgg155
 z138 := Tryz.sizeOf155
 v138 := Tryz.zeroValue155
 t139 := Tryz.underlying156
 a139 := Tryz.isAgg156
 z139 := Tryz.sizeOf156
 v139 := Tryz.zeroValue156
 g3 := by kernel_rfl
 g4 := by kernel_rfl }
end Go.Proofs.YtgichahebemmiaaGreatDoor.Shelf
set_option linter.unusedVariables false
namespace Go.Proofs.YtgichahebemmiaaGreatDoor.Base
open Go.RowKit Go.Proofs.YtgichahebemmiaaGreatDoorW.PrintWords
variable {α β : Type}
theorem Aa3 {c : Prop} [Decidable c] {A B : Nat → Option α} {r : α} (h : c) (k : Ev A r) : Ev (fun n => if c then A n else B n) r := by
 simp only [if_pos h]; exact k
theorem Ab5 {c : Prop} [Decidable c] {A B : Nat → Option α} {r : α} (h : ¬ c) (k : Ev B r) : Ev (fun n => if c then A n else B n) r := by
 simp only [if_neg h]; exact k
theorem Ap9 {c : Prop} [Decidable c] {A B : Nat → Option α} {r s : α} (h : c → Ev A r) (k : ¬ c → Ev B s) : Ev (fun n => if c then A n else B n) (if c then r else s) := by
 by_cases hc : c
 ·rw [if_pos hc]; exact Aa3 hc (h hc)
 ·rw [if_neg hc]; exact Ab5 hc (k hc)
theorem Ad2 {g : Nat → Option α} {r : α} (h : Ev (fun k => g (k + 1)) r) : Ev g r := by
 obtain ⟨K, h⟩ := h
 refine ⟨K + 1, fun n hn => ?_⟩
 obtain ⟨m, rfl⟩ : ∃ m, n = m + 1 := ⟨n - 1, by omega⟩
 exact h m (by omega)
theorem Aa9 (r : α) : Ev (fun _ => some r) r := ⟨0, fun _ _ => rfl⟩
theorem Ac0 {g : Nat → Option α} {f : Nat → α → Option β} {a : α} {r : β} (h : Ev g a) (k : Ev (fun n => f n a) r) : Ev (fun n => (g n).bind (f n)) r := Ev.bind h k
theorem Ac6 {o : Option α} {f : Nat → α → Option β} {a : α} {r : β} (h : o = some a) (k : Ev (fun n => f n a) r) : Ev (fun n => o.bind (f n)) r := by
 subst h; exact k
theorem Ah7 {g : Nat → Option α} {r r' : α} (h : Ev g r) (e : r = r') : Ev g r' := e ▸ h
theorem Bi9 {o : Option α} {f : α → Option β} {a : α} {r : Option β} (h : o = some a) (k : f a = r) : o.bind f = r := by
 subst h; exact k
theorem ev_ex {g : Nat → Option α} {r : α} (h : Ev g r) : ∃ k, g k = some r := Ev.rounds h
theorem Aj1 {x : Int} (h0 : -9223372036854775808 ≤ x) (h1 : x ≤ 9223372036854775807) : wrap64 x = x := by
 unfold wrap64; omega
theorem Ag1 {i : Nat} (h : i < 9223372036854775807) : wrap64 ((i : Int) + 1) = ((i + 1 : Nat) : Int) := by
 unfold wrap64; omega
theorem Bi4 (xs : List Int) (i : Nat) (h : i < xs.length) : xs.drop i = rd xs (i : Int) :: xs.drop (i + 1) := by
 rw [List.drop_eq_getElem_cons h]
 simp [rd, List.getD_eq_getElem?_getD, List.getElem?_eq_getElem h]
theorem Bk2 (xs : List Int) (i : Nat) (h : i < xs.length) : rd xs (i : Int) ∈ xs := by
 have : rd xs (i : Int) = xs[i] := by simp [rd, List.getD_eq_getElem?_getD, List.getElem?_eq_getElem h]
 rw [this]; exact List.getElem_mem h
theorem An9 (xs : List Int) (i : Nat) (h : i < xs.length) : rd xs (i : Int) = xs[i] := by
 simp [rd, List.getD_eq_getElem?_getD, List.getElem?_eq_getElem h]
theorem wf_u8 {x : Int} (h : (Lit.int .u8 x).wf = true) : 0 ≤ x ∧ x ≤ 255 := by
 simpa [Lit.wf, IntKind.min, IntKind.max, IntKind.signed, IntKind.bits] using h
def Bo4 {α : Type} (p : α → α → Bool) : List α → List α → Bool
 | x :: xs, y :: ys => if p x y = true then Bo4 p xs ys else false
 | _, _ => true
theorem loop_all {α : Type} (p : α → α → Bool) (a b : List α) (hab : a.length = b.length) (L : Nat → Int → Option Bool)
  (h0 : ∀ k, L (k + 1) (a.length : Int) = some true)
  (h1 : ∀ (i : Nat) (ha : i < a.length) (hb : i < b.length) (r : Bool), Ev (fun k => L k ((i + 1 : Nat) : Int)) r → Ev (fun k => L (k + 1) (i : Int)) (if p a[i] b[i] = true then r else false)) :
  ∀ (d i : Nat), i + d = a.length → Ev (fun k => L k (i : Int)) (Bo4 p (a.drop i) (b.drop i)) := by
 intro d
 induction d with
 | zero =>
  intro i hi
  obtain rfl : i = a.length := by omega
  rw [List.drop_length]
  refine Ad2 ⟨0, fun k _ => ?_⟩
  simp only [Bo4]; exact h0 k
 | succ d ih =>
  intro i hi
  have ha : i < a.length := by omega
  have hb : i < b.length := by omega
  rw [List.drop_eq_getElem_cons ha, List.drop_eq_getElem_cons hb]
  exact Ad2 (h1 i ha hb _ (ih (i + 1) (by omega)))
end Go.Proofs.YtgichahebemmiaaGreatDoor.Base
set_option linter.unusedVariables false
namespace Go.Proofs.YtgichahebemmiaaGreatDoor.Pure
inductive Tr where
 | v : Int → Tr
 | f : Int → List Tr → Tr
mutual
def Tr.sz : Tr → Nat
 | .v _ => 1
 | .f _ ts => 1 + szs ts
def szs : List Tr → Nat
 | [] => 0
 | t :: ts => t.sz + szs ts
end
mutual
def Tr.vs : Tr → List Int
 | .v n => [n]
 | .f _ ts => vss ts
def vss : List Tr → List Int
 | [] => []
 | t :: ts => t.vs ++ vss ts
end
theorem Tr.sz_pos (t : Tr) : 1 ≤ t.sz := by cases t <;> simp [Tr.sz]
theorem Ao5 : ∀ (ts : List Tr) (t : Tr), t ∈ ts → t.sz ≤ szs ts
 | [], t, h => by cases h
 | x :: xs, t, h => by
  rw [szs]
  rcases List.mem_cons.1 h with rfl | h
  ·omega
  ·have := Ao5 xs t h; omega
theorem Bm2 : ∀ (ts : List Tr) (t : Tr), t ∈ ts → ∀ n ∈ t.vs, n ∈ vss ts
 | [], t, h, n, hn => by cases h
 | x :: xs, t, h, n, hn => by
  rw [vss, List.mem_append]
  rcases List.mem_cons.1 h with rfl | h
  ·exact .inl hn
  ·exact .inr (Bm2 xs t h n hn)
theorem mem_vss : ∀ (ts : List Tr) (n : Int), n ∈ vss ts → ∃ t ∈ ts, n ∈ t.vs
 | [], n, h => by cases h
 | x :: xs, n, h => by
  rw [vss, List.mem_append] at h
  rcases h with h | h
  ·exact ⟨x, by simp, h⟩
  ·obtain ⟨t, ht, hn⟩ := mem_vss xs n h
   exact ⟨t, by simp [ht], hn⟩
def Bi6 (R : Tr → Tr → Prop) : List Tr → List Tr → Prop
 | s :: ss, t :: ts => (s = t ∧ Bi6 R ss ts) ∨ R s t
 | _, _ => False
def gtN (rk : Int → Nat) : Nat → Tr → Tr → Prop
 | 0, _, _ => False
 | k + 1, .v _, _ => False
 | k + 1, .f a ss, .v n => n ∈ vss ss
 | k + 1, .f a ss, .f b ts => (∃ s ∈ ss, s = .f b ts ∨ gtN rk k s (.f b ts)) ∨
   (rk b ≤ rk a ∧ (∀ t ∈ ts, gtN rk k (.f a ss) t) ∧ (rk b < rk a ∨ Bi6 (gtN rk k) ss ts))
theorem Ba9 {R R' : Tr → Tr → Prop} : ∀ (ss ts : List Tr), (∀ s ∈ ss, ∀ t ∈ ts, R s t → R' s t) → Bi6 R ss ts → Bi6 R' ss ts
 | s :: ss, t :: ts, h, hl => by
  rcases hl with ⟨e, hl⟩ | hl
  ·exact .inl ⟨e, Ba9 ss ts (fun x hx y hy => h x (by simp [hx]) y (by simp [hy])) hl⟩
  ·exact .inr (h s (by simp) t (by simp) hl)
 | [], _, _, hl => by cases hl
 | _ :: _, [], _, hl => by cases hl
theorem gtN_more (rk : Int → Nat) : ∀ (k j : Nat) (s t : Tr), s.sz + t.sz ≤ k → s.sz + t.sz ≤ j → gtN rk k s t → gtN rk j s t := by
 intro k
 induction k with
 | zero => intro j s t h1 h2 h; cases h
 | succ k ih =>
  intro j s t h1 h2 h
  have hs := s.sz_pos
  obtain ⟨j, rfl⟩ : ∃ m, j = m + 1 := ⟨j - 1, by omega⟩
  cases s with
  | v n => cases t <;> cases h
  | f a ss =>
   cases t with
   | v n => exact h
   | f b ts =>
    have hS : (Tr.f a ss).sz = 1 + szs ss := by rw [Tr.sz]
    have hT : (Tr.f b ts).sz = 1 + szs ts := by rw [Tr.sz]
    rcases h with ⟨s, hm, h⟩ | ⟨h0, h3, h4⟩
    ·have := Ao5 ss s hm
     refine .inl ⟨s, hm, ?_⟩
     rcases h with h | h
     ·exact .inl h
     ·exact .inr (ih j s _ (by omega) (by omega) h)
    ·refine .inr ⟨h0, fun t ht => ?_, ?_⟩
     ·have := Ao5 ts t ht
      exact ih j _ t (by omega) (by omega) (h3 t ht)
     ·rcases h4 with h4 | h4
      ·exact .inl h4
      ·refine .inr (Ba9 ss ts (fun x hx y hy hxy => ?_) h4)
       have := Ao5 ss x hx
       have := Ao5 ts y hy
       exact ih j x y (by omega) (by omega) hxy
def gt (rk : Int → Nat) (s t : Tr) : Prop := gtN rk (s.sz + t.sz) s t
theorem Bb4 (rk : Int → Nat) {k : Nat} {s t : Tr} (h : s.sz + t.sz ≤ k) : gtN rk k s t ↔ gt rk s t :=
 ⟨gtN_more rk _ _ s t h (Nat.le_refl _), gtN_more rk _ _ s t (Nat.le_refl _) h⟩
theorem Bk0 (rk : Int → Nat) (a : Int) (ss : List Tr) (n : Int) : gt rk (.f a ss) (.v n) ↔ n ∈ vss ss := by
 rw [← Bb4 rk (k := ((Tr.f a ss).sz + (Tr.v n).sz) + 1) (by omega)]; exact Iff.rfl
theorem Aw6 (rk : Int → Nat) (n : Int) (t : Tr) : ¬ gt rk (.v n) t := by
 intro h
 rw [← Bb4 rk (k := ((Tr.v n).sz + t.sz) + 1) (by omega)] at h
 cases t <;> cases h
theorem Bc3 (rk : Int → Nat) (a b : Int) (ss ts : List Tr) : gt rk (.f a ss) (.f b ts) ↔ (∃ s ∈ ss, s = .f b ts ∨ gt rk s (.f b ts)) ∨
  (rk b ≤ rk a ∧ (∀ t ∈ ts, gt rk (.f a ss) t) ∧ (rk b < rk a ∨ Bi6 (gt rk) ss ts)) := by
 have hS : (Tr.f a ss).sz = 1 + szs ss := by rw [Tr.sz]
 have hT : (Tr.f b ts).sz = 1 + szs ts := by rw [Tr.sz]
 rw [← Bb4 rk (k := ((Tr.f a ss).sz + (Tr.f b ts).sz) + 1) (by omega)]
 constructor
 ·rintro (⟨s, hm, h⟩ | ⟨h0, h3, h4⟩)
  ·have := Ao5 ss s hm
   exact .inl ⟨s, hm, h.imp id (fun h => (Bb4 rk (by omega)).1 h)⟩
  ·refine .inr ⟨h0, fun t ht => ?_, h4.imp id (Ba9 ss ts fun x hx y hy h => ?_)⟩
   ·have := Ao5 ts t ht
    exact (Bb4 rk (by omega)).1 (h3 t ht)
   ·have := Ao5 ss x hx
    have := Ao5 ts y hy
    exact (Bb4 rk (by omega)).1 h
 ·rintro (⟨s, hm, h⟩ | ⟨h0, h3, h4⟩)
  ·have := Ao5 ss s hm
   exact .inl ⟨s, hm, h.imp id (fun h => (Bb4 rk (by omega)).2 h)⟩
  ·refine .inr ⟨h0, fun t ht => ?_, h4.imp id (Ba9 ss ts fun x hx y hy h => ?_)⟩
   ·have := Ao5 ts t ht
    exact (Bb4 rk (by omega)).2 (h3 t ht)
   ·have := Ao5 ss x hx
    have := Ao5 ts y hy
    exact (Bb4 rk (by omega)).2 h
theorem gt_vars (rk : Int → Nat) : ∀ (k : Nat) (s t : Tr), s.sz + t.sz ≤ k → gt rk s t → ∀ n ∈ t.vs, n ∈ s.vs := by
 intro k
 induction k with
 | zero => intro s t h; have := s.sz_pos; omega
 | succ k ih =>
  intro s t hk h n hn
  cases s with
  | v m => exact absurd h (Aw6 rk m t)
  | f a ss =>
   have hS : (Tr.f a ss).sz = 1 + szs ss := by rw [Tr.sz]
   rw [Tr.vs]
   cases t with
   | v m =>
    rw [Bk0] at h
    rw [Tr.vs, List.mem_singleton] at hn
    subst hn; exact h
   | f b ts =>
    have hT : (Tr.f b ts).sz = 1 + szs ts := by rw [Tr.sz]
    rcases (Bc3 rk a b ss ts).1 h with ⟨s, hm, h⟩ | ⟨_, h3, _⟩
    ·have := Ao5 ss s hm
     refine Bm2 ss s hm n ?_
     rcases h with h | h
     ·subst h; exact hn
     ·exact ih s _ (by omega) h n hn
    ·rw [Tr.vs] at hn
     obtain ⟨t, ht, hn⟩ := mem_vss ts n hn
     have := Ao5 ts t ht
     have := ih (.f a ss) t (by omega) (h3 t ht) n hn
     rwa [Tr.vs] at this
theorem LexR_trans {R : Tr → Tr → Prop} : ∀ (ss ts us : List Tr), (∀ s ∈ ss, ∀ t ∈ ts, ∀ u ∈ us, R s t → R t u → R s u) → Bi6 R ss ts → Bi6 R ts us → Bi6 R ss us
 | s :: ss, t :: ts, u :: us, h, h1, h2 => by
  have ht := LexR_trans ss ts us (fun a ha b hb c hc => h a (by simp [ha]) b (by simp [hb]) c (by simp [hc]))
  rcases h1 with ⟨e1, h1⟩ | h1
  ·rcases h2 with ⟨e2, h2⟩ | h2
   ·exact .inl ⟨e1.trans e2, ht h1 h2⟩
   ·exact .inr (e1 ▸ h2)
  ·rcases h2 with ⟨e2, h2⟩ | h2
   ·exact .inr (e2 ▸ h1)
   ·exact .inr (h s (by simp) t (by simp) u (by simp) h1 h2)
 | [], _, _, _, h1, _ => by cases h1
 | _ :: _, [], _, _, h1, _ => by cases h1
 | _ :: _, _ :: _, [], _, _, h2 => by cases h2
theorem gt_both (rk : Int → Nat) : ∀ (k : Nat), (∀ s t u : Tr, s.sz + t.sz + u.sz ≤ k → gt rk s t → gt rk t u → gt rk s u) ∧ (∀ s : Tr, 3 * s.sz ≤ k → ¬ gt rk s s) := by
 intro k
 induction k with
 | zero => exact ⟨fun s t u h => by have := s.sz_pos; omega, fun s h => by have := s.sz_pos; omega⟩
 | succ k ih =>
  have tr := ih.1
  have htrans : ∀ s t u : Tr, s.sz + t.sz + u.sz ≤ k + 1 → gt rk s t → gt rk t u → gt rk s u := by
   intro s t u hk h1 h2
   cases s with
   | v m => exact absurd h1 (Aw6 rk m t)
   | f a ss =>
    cases t with
    | v m => exact absurd h2 (Aw6 rk m u)
    | f b ts =>
     have hS : (Tr.f a ss).sz = 1 + szs ss := by rw [Tr.sz]
     have hT : (Tr.f b ts).sz = 1 + szs ts := by rw [Tr.sz]
     cases u with
     | v n =>
      rw [Bk0] at h2 ⊢
      have := gt_vars rk _ _ _ (Nat.le_refl _) h1 n (by rw [Tr.vs]; exact h2)
      rwa [Tr.vs] at this
     | f c us =>
      have hU : (Tr.f c us).sz = 1 + szs us := by rw [Tr.sz]
      rcases (Bc3 rk a b ss ts).1 h1 with ⟨s, hm, h⟩ | ⟨h0, h3, h4⟩
      ·have := Ao5 ss s hm
       refine (Bc3 rk a c ss us).2 (.inl ⟨s, hm, .inr ?_⟩)
       rcases h with h | h
       ·subst h; exact h2
       ·exact tr s _ _ (by omega) h h2
      ·rcases (Bc3 rk b c ts us).1 h2 with ⟨t, hm, h⟩ | ⟨g0, g3, g4⟩
       ·have := Ao5 ts t hm
        have hst := h3 t hm
        rcases h with h | h
        ·subst h; exact hst
        ·exact tr _ t _ (by omega) hst h
       ·refine (Bc3 rk a c ss us).2 (.inr ⟨by omega, fun u hu => ?_, ?_⟩)
        ·have := Ao5 us u hu
         exact tr _ _ u (by omega) h1 (g3 u hu)
        ·by_cases hlt : rk c < rk a
         ·exact .inl hlt
         ·have e4 : Bi6 (gt rk) ss ts := h4.resolve_left (by omega)
          have f4 : Bi6 (gt rk) ts us := g4.resolve_left (by omega)
          refine .inr (LexR_trans ss ts us (fun x hx y hy z hz p q => ?_) e4 f4)
          have := Ao5 ss x hx
          have := Ao5 ts y hy
          have := Ao5 us z hz
          exact tr x y z (by omega) p q
  refine ⟨htrans, fun s hk h => ?_⟩
  cases s with
  | v m => exact Aw6 rk m _ h
  | f a ss =>
   have hS : (Tr.f a ss).sz = 1 + szs ss := by rw [Tr.sz]
   -- a part is below
   have hsub : ∀ s ∈ ss, gt rk (.f a ss) s := by
    intro s hm
    have := Ao5 ss s hm
    cases s with
    | v n => rw [Bk0]; exact Bm2 ss _ hm n (by rw [Tr.vs]; simp)
    | f b ts => exact (Bc3 rk a b ss ts).2 (.inl ⟨_, hm, .inl rfl⟩)
   rcases (Bc3 rk a a ss ss).1 h with ⟨s, hm, h'⟩ | ⟨_, _, h4⟩
   ·have := Ao5 ss s hm
    rcases h' with h' | h'
    ·rw [h'] at this; omega
    ·exact ih.2 s (by omega) (tr s _ s (by omega) h' (hsub s hm))
   ·rcases h4 with h4 | h4
    ·omega
    ·have hno : ∀ (l : List Tr), (∀ x ∈ l, 3 * x.sz ≤ k) → ¬ Bi6 (gt rk) l l := by
      intro l
      induction l with
      | nil => intro _ h; cases h
      | cons x xs ihl =>
       intro hl h
       rcases h with ⟨_, h⟩ | h
       ·exact ihl (fun y hy => hl y (by simp [hy])) h
       ·exact ih.2 x (hl x (by simp)) h
     exact hno ss (fun x hx => by have := Ao5 ss x hx; omega) h4
theorem gt_trans (rk : Int → Nat) {s t u : Tr} (h1 : gt rk s t) (h2 : gt rk t u) : gt rk s u := (gt_both rk _).1 s t u (Nat.le_refl _) h1 h2
theorem gt_irrefl (rk : Int → Nat) (s : Tr) : ¬ gt rk s s := (gt_both rk _).2 s (Nat.le_refl _)
end Go.Proofs.YtgichahebemmiaaGreatDoor.Pure
set_option linter.unusedVariables false
namespace Go.Proofs.YtgichahebemmiaaGreatDoor.Pure
open Go.RowKit Go.Proofs.YtgichahebemmiaaGreatDoorW.PrintWords Go.Proofs.YtgichahebemmiaaGreatDoor.Base
def As3 (ar : Int → Nat) : Nat → List Int → Option (List Int)
 | 0, t => some t
 | _ + 1, [] => none
 | k + 1, n :: t => As3 ar (k + ar n) t
theorem Au8 (ar : Int → Nat) (t : List Int) : As3 ar 0 t = some t := by cases t <;> rfl
theorem Ba8 (ar : Int → Nat) (m : Nat) : ∀ (t : List Int) (k : Nat), As3 ar (k + m) t = (As3 ar k t).bind (As3 ar m)
 | t, 0 => by rw [Au8, Nat.zero_add]; rfl
 | [], k + 1 => by rw [show k + 1 + m = (k + m) + 1 by omega]; rfl
 | n :: t, k + 1 => by
  rw [show k + 1 + m = (k + m) + 1 by omega]
  show As3 ar (k + m + ar n) t = (As3 ar (k + ar n) t).bind (As3 ar m)
  rw [show k + m + ar n = k + ar n + m by omega]
  exact Ba8 ar m t (k + ar n)
theorem skipN_succ (ar : Int → Nat) (t : List Int) (k : Nat) : As3 ar (k + 1) t = (As3 ar 1 t).bind (As3 ar k) := by
 rw [show k + 1 = 1 + k by omega]; exact Ba8 ar k t 1
theorem Aw5 (ar : Int → Nat) (n : Int) (t : List Int) (k : Nat) : As3 ar (k + 1) (n :: t) = As3 ar (k + ar n) t := rfl
theorem Ay7 (ar : Int → Nat) : ∀ (t : List Int) (k : Nat) (u : List Int), As3 ar k t = some u → ∃ d, u = t.drop d ∧ d ≤ t.length ∧ k ≤ d
 | t, 0, u, h => by
  rw [Au8] at h
  obtain rfl := Option.some.inj h
  exact ⟨0, by simp, by omega, by omega⟩
 | [], k + 1, u, h => by cases h
 | n :: t, k + 1, u, h => by
  obtain ⟨d, e, hd, hk⟩ := Ay7 ar t (k + ar n) u h
  exact ⟨d + 1, by rw [e]; rfl, by simp; omega, by omega⟩
def Ar0 (ar : Int → Nat) (term : List Int) (k at_ : Nat) : Option Nat := (As3 ar k (term.drop at_)).map fun u => term.length - u.length
theorem Al3 {ar : Int → Nat} {term : List Int} {k at_ e : Nat} (hat : at_ ≤ term.length) (h : Ar0 ar term k at_ = some e) : As3 ar k (term.drop at_) = some (term.drop e) ∧ at_ + k ≤ e ∧ e ≤ term.length := by
 unfold Ar0 at h
 cases hs : As3 ar k (term.drop at_) with
 | none => rw [hs] at h; cases h
 | some u =>
  rw [hs] at h
  obtain ⟨d, e1, hd, hk⟩ := Ay7 ar _ _ _ hs
  rw [List.length_drop] at hd
  have he : term.length - u.length = e := Option.some.inj h
  have hul : u.length = term.length - (at_ + d) := by rw [e1, List.drop_drop, List.length_drop]
  have hed : e = at_ + d := by omega
  refine ⟨?_, by omega, by omega⟩
  rw [e1, List.drop_drop, hed]
theorem Av1 (ar : Int → Nat) (term : List Int) (at_ : Nat) (hat : at_ ≤ term.length) : Ar0 ar term 0 at_ = some at_ := by
 unfold Ar0
 rw [Au8]
 simp only [Option.map_some, List.length_drop]
 congr 1; omega
theorem endN_out (ar : Int → Nat) (term : List Int) (k at_ : Nat) (hk : 0 < k) (hat : term.length ≤ at_) : Ar0 ar term k at_ = none := by
 unfold Ar0
 obtain ⟨m, rfl⟩ : ∃ m, k = m + 1 := ⟨k - 1, by omega⟩
 rw [List.drop_eq_nil_of_le hat]; rfl
theorem Bd6 (ar : Int → Nat) (term : List Int) (k at_ : Nat) (hat : at_ < term.length) : Ar0 ar term (k + 1) at_ = Ar0 ar term (k + ar term[at_]) (at_ + 1) := by
 unfold Ar0
 rw [List.drop_eq_getElem_cons hat, Aw5]
theorem Au4 (ar : Int → Nat) (term : List Int) (k m at_ : Nat) (hat : at_ ≤ term.length) : Ar0 ar term (k + m) at_ = (Ar0 ar term k at_).bind fun e => Ar0 ar term m e := by
 cases h : Ar0 ar term k at_ with
 | none =>
  unfold Ar0 at h ⊢
  rw [Ba8]
  cases hs : As3 ar k (term.drop at_) with
  | none => rfl
  | some u => rw [hs] at h; cases h
 | some e =>
  obtain ⟨hs, _, _⟩ := Al3 hat h
  simp only [Option.bind_some]
  unfold Ar0
  rw [Ba8, hs]
  rfl
def Au2 (ar : Int → Nat) (t : List Int) : Nat → Nat → List Nat
 | 0, _ => []
 | m + 1, e => e :: (match Ar0 ar t 1 e with
  | some e' => Au2 ar t m e'
  | none => [])
theorem Ar2 {ar : Int → Nat} {t : List Int} {m e e' : Nat} (h : Ar0 ar t 1 e = some e') : Au2 ar t (m + 1) e = e :: Au2 ar t m e' := by
 rw [Au2, h]
theorem endN_sub (ar : Int → Nat) (t : List Int) (h : Ar0 ar t 1 0 = some t.length) : ∀ at_, at_ < t.length → ∃ e, Ar0 ar t 1 at_ = some e := by
 have key : ∀ (t : List Int) (k at_ : Nat) (u : List Int), As3 ar (k + 1) t = some u → at_ + u.length < t.length → ∃ v, As3 ar 1 (t.drop at_) = some v := by
  intro t
  induction t with
  | nil => intro k at_ u h hl; simp at hl
  | cons n t ih =>
   intro k at_ u h hl
   cases at_ with
   | zero =>
    rw [skipN_succ] at h
    cases hs : As3 ar 1 (n :: t) with
    | none => rw [hs] at h; cases h
    | some v => exact ⟨v, hs⟩
   | succ a =>
    rw [Aw5] at h
    rw [List.drop_succ_cons]
    simp only [List.length_cons] at hl
    cases hm : k + ar n with
    | zero =>
     rw [hm, Au8] at h
     obtain rfl := Option.some.inj h
     omega
    | succ m =>
     rw [hm] at h
     exact ih m a u h (by omega)
 intro at_ hat
 unfold Ar0 at h
 cases hs : As3 ar 1 (t.drop 0) with
 | none => rw [hs] at h; cases h
 | some u =>
  rw [hs] at h
  have hu : t.length - u.length = t.length := Option.some.inj h
  obtain ⟨d, e, hd, hk⟩ := Ay7 ar _ _ _ hs
  rw [List.drop_zero] at hs e hd
  have hul : u.length = t.length - d := by rw [e, List.length_drop]
  obtain ⟨v, hv⟩ := key t 0 at_ u hs (by omega)
  exact ⟨t.length - v.length, by unfold Ar0; rw [hv]; rfl⟩
def Ai8 (ar : Int → Nat) (t : List Int) (a : Nat) : List Nat := Au2 ar t (ar (rd t (a : Int))) (a + 1)
theorem argsN_bound {ar : Int → Nat} {t : List Int} : ∀ (m e e' : Nat), e ≤ t.length → Ar0 ar t m e = some e' → (Au2 ar t m e).length = m ∧ ∀ p ∈ Au2 ar t m e, e ≤ p ∧ p < t.length ∧ ∃ q, Ar0 ar t 1 p = some q
 | 0, e, e', he, h => ⟨rfl, fun p hp => by cases hp⟩
 | m + 1, e, e', he, h => by
  rw [show m + 1 = 1 + m by omega, Au4 ar t 1 m e he] at h
  cases h1 : Ar0 ar t 1 e with
  | none => rw [h1] at h; cases h
  | some q =>
   rw [h1] at h
   simp only [Option.bind_some] at h
   obtain ⟨_, b1, b2⟩ := Al3 he h1
   obtain ⟨i1, i2⟩ := argsN_bound m q e' b2 h
   rw [Ar2 h1]
   refine ⟨by rw [List.length_cons, i1], fun p hp => ?_⟩
   rcases List.mem_cons.1 hp with rfl | hp
   ·exact ⟨Nat.le_refl _, by omega, q, h1⟩
   ·obtain ⟨c1, c2, c3⟩ := i2 p hp
    exact ⟨by omega, c2, c3⟩
theorem Aw1 {ar : Int → Nat} {t : List Int} {a e : Nat} (ha : a < t.length) (h : Ar0 ar t 1 a = some e) : Ar0 ar t (ar (rd t (a : Int))) (a + 1) = some e := by
 rw [Bd6 ar t 0 a ha, ← An9 t a ha, Nat.zero_add] at h
 exact h
theorem Am4 {ar : Int → Nat} {t : List Int} {a e : Nat} (ha : a < t.length) (h : Ar0 ar t 1 a = some e) :
  (Ai8 ar t a).length = ar (rd t (a : Int)) ∧ ∀ p ∈ Ai8 ar t a, a < p ∧ p < t.length ∧ ∃ q, Ar0 ar t 1 p = some q := by
 obtain ⟨h1, h2⟩ := argsN_bound (ar (rd t (a : Int))) (a + 1) e (by omega) (Aw1 ha h)
 exact ⟨h1, fun p hp => by obtain ⟨x, y, z⟩ := h2 p hp; exact ⟨by omega, y, z⟩⟩
mutual
def Tr.fl : Tr → List Int
 | .v n => [n]
 | .f n ts => n :: fls ts
def fls : List Tr → List Int
 | [] => []
 | t :: ts => t.fl ++ fls ts
end
mutual
def Tr.ok (ar : Int → Nat) : Tr → Prop
 | .v n => n < 0
 | .f n ts => 0 ≤ n ∧ ts.length = ar n ∧ oks ar ts
def oks (ar : Int → Nat) : List Tr → Prop
 | [] => True
 | t :: ts => t.ok ar ∧ oks ar ts
end
theorem Bd4 {ar : Int → Nat} : ∀ {ts : List Tr}, oks ar ts → ∀ t ∈ ts, t.ok ar
 | [], _, t, h => by cases h
 | x :: xs, h, t, ht => by
  rw [oks] at h
  rcases List.mem_cons.1 ht with rfl | ht
  ·exact h.1
  ·exact Bd4 h.2 t ht
theorem oks_append {ar : Int → Nat} : ∀ (xs ys : List Tr), oks ar (xs ++ ys) ↔ oks ar xs ∧ oks ar ys
 | [], ys => by simp [oks]
 | x :: xs, ys => by simp only [List.cons_append, oks, oks_append xs ys, and_assoc]
theorem fls_append : ∀ (xs ys : List Tr), fls (xs ++ ys) = fls xs ++ fls ys
 | [], ys => by simp [fls]
 | x :: xs, ys => by simp only [List.cons_append, fls, fls_append xs ys, List.append_assoc]
theorem Tr.fl_pos (t : Tr) : 1 ≤ t.fl.length := by cases t <;> simp [Tr.fl]
mutual
theorem skip_tr {ar : Int → Nat} (h0 : ∀ n, n < 0 → ar n = 0) : ∀ (t : Tr), t.ok ar → ∀ (k : Nat) (x : List Int), As3 ar (k + 1) (t.fl ++ x) = As3 ar k x
 | .v n, h, k, x => by
  rw [Tr.ok] at h
  rw [Tr.fl, List.singleton_append, Aw5, h0 n h, Nat.add_zero]
 | .f n ts, h, k, x => by
  rw [Tr.ok] at h
  rw [Tr.fl, List.cons_append, Aw5, ← h.2.1]
  exact skip_trs h0 ts h.2.2 k x
theorem skip_trs {ar : Int → Nat} (h0 : ∀ n, n < 0 → ar n = 0) : ∀ (ts : List Tr), oks ar ts → ∀ (k : Nat) (x : List Int), As3 ar (k + ts.length) (fls ts ++ x) = As3 ar k x
 | [], h, k, x => by rw [fls]; rfl
 | t :: ts, h, k, x => by
  rw [oks] at h
  rw [fls, List.append_assoc, List.length_cons, show k + (ts.length + 1) = (k + ts.length) + 1 by omega, skip_tr h0 t h.1]
  exact skip_trs h0 ts h.2 k x
end
theorem trs_of {ar : Int → Nat} (h0 : ∀ n, n < 0 → ar n = 0) : ∀ (t : List Int) (k : Nat) (u : List Int), As3 ar k t = some u → ∃ ts : List Tr, ts.length = k ∧ oks ar ts ∧ t = fls ts ++ u
 | t, 0, u, h => by
  rw [Au8] at h
  exact ⟨[], rfl, by simp [oks], by rw [fls]; simpa using h⟩
 | [], k + 1, u, h => by cases h
 | n :: t, k + 1, u, h => by
  rw [Aw5] at h
  obtain ⟨ts, hl, hok, e⟩ := trs_of h0 t (k + ar n) u h
  by_cases hn : n < 0
  ·refine ⟨.v n :: ts, by simp [hl, h0 n hn], ?_, ?_⟩
   ·rw [oks, Tr.ok]; exact ⟨hn, hok⟩
   ·rw [fls, Tr.fl, e]; rfl
  ·have hsplit : ts.take (ar n) ++ ts.drop (ar n) = ts := List.take_append_drop _ _
   rw [← hsplit, oks_append] at hok
   refine ⟨.f n (ts.take (ar n)) :: ts.drop (ar n), by simp [hl], ?_, ?_⟩
   ·rw [oks, Tr.ok]
    exact ⟨⟨by omega, by rw [List.length_take]; omega, hok.1⟩, hok.2⟩
   ·rw [fls, Tr.fl, List.cons_append, List.cons_append, ← fls_append, hsplit, e]
theorem tr_of {ar : Int → Nat} (h0 : ∀ n, n < 0 → ar n = 0) {t : List Int} (h : As3 ar 1 t = some []) : ∃ T : Tr, T.ok ar ∧ T.fl = t := by
 obtain ⟨ts, hl, hok, e⟩ := trs_of h0 t 1 [] h
 match ts, hl with
 | [T], _ =>
  rw [oks] at hok
  exact ⟨T, hok.1, by rw [e, fls, fls]; simp⟩
mutual
theorem fl_inj {ar : Int → Nat} : ∀ (t : Tr), t.ok ar → ∀ (u : Tr), u.ok ar → ∀ x y : List Int, t.fl ++ x = u.fl ++ y → t = u ∧ x = y
 | .v n, h, .v m, h', x, y, e => by
  rw [Tr.fl, Tr.fl] at e
  injection e with e1 e2
  exact ⟨by rw [e1], e2⟩
 | .v n, h, .f m us, h', x, y, e => by
  rw [Tr.fl, Tr.fl] at e
  simp only [Tr.ok] at h h'
  injection e with e1 e2
  omega
 | .f n ts, h, .v m, h', x, y, e => by
  rw [Tr.fl, Tr.fl] at e
  simp only [Tr.ok] at h h'
  injection e with e1 e2
  omega
 | .f n ts, h, .f m us, h', x, y, e => by
  rw [Tr.fl, Tr.fl] at e
  rw [Tr.ok] at h h'
  injection e with e1 e2
  subst e1
  obtain ⟨e3, e4⟩ := fls_inj ts h.2.2 us h'.2.2 (h.2.1.trans h'.2.1.symm) x y e2
  exact ⟨by rw [e3], e4⟩
theorem fls_inj {ar : Int → Nat} : ∀ (ts : List Tr), oks ar ts → ∀ (us : List Tr), oks ar us → ts.length = us.length → ∀ x y : List Int, fls ts ++ x = fls us ++ y → ts = us ∧ x = y
 | [], h, [], h', hl, x, y, e => by
  rw [fls] at e
  exact ⟨rfl, by simpa using e⟩
 | [], h, u :: us, h', hl, x, y, e => by simp at hl
 | t :: ts, h, [], h', hl, x, y, e => by simp at hl
 | t :: ts, h, u :: us, h', hl, x, y, e => by
  rw [oks] at h h'
  rw [fls, fls, List.append_assoc, List.append_assoc] at e
  obtain ⟨e1, e2⟩ := fl_inj t h.1 u h'.1 _ _ e
  obtain ⟨e3, e4⟩ := fls_inj ts h.2 us h'.2 (by simpa using hl) x y e2
  exact ⟨by rw [e1, e3], e4⟩
end
theorem fl_eq {ar : Int → Nat} {t u : Tr} (h : t.ok ar) (h' : u.ok ar) (e : t.fl = u.fl) : t = u := (fl_inj t h u h' [] [] (by simpa using e)).1
mutual
theorem mem_fl {ar : Int → Nat} : ∀ (t : Tr), t.ok ar → ∀ n : Int, n < 0 → (n ∈ t.fl ↔ n ∈ t.vs)
 | .v m, h, n, hn => by rw [Tr.fl, Tr.vs]
 | .f m ts, h, n, hn => by
  rw [Tr.ok] at h
  rw [Tr.fl, Tr.vs, List.mem_cons, mem_fls ts h.2.2 n hn]
  constructor
  ·rintro (e | e)
   ·omega
   ·exact e
  ·exact .inr
theorem mem_fls {ar : Int → Nat} : ∀ (ts : List Tr), oks ar ts → ∀ n : Int, n < 0 → (n ∈ fls ts ↔ n ∈ vss ts)
 | [], h, n, hn => by rw [fls, vss]
 | t :: ts, h, n, hn => by
  rw [oks] at h
  rw [fls, vss, List.mem_append, List.mem_append, mem_fl t h.1 n hn, mem_fls ts h.2 n hn]
end
def Bg2 (a : List Int) (i : Nat) (T : Tr) : Prop := ∃ u v : List Int, a = u ++ (T.fl ++ v) ∧ u.length = i
def Aw7 (a : List Int) : List Nat → List Tr → Prop
 | i :: is, T :: Ts => Bg2 a i T ∧ Aw7 a is Ts
 | [], [] => True
 | _, _ => False
theorem Bg2.top (T : Tr) : Bg2 T.fl 0 T := ⟨[], [], by simp, rfl⟩
theorem at_skip {ar : Int → Nat} (h0 : ∀ n, n < 0 → ar n = 0) {a : List Int} {i : Nat} {T : Tr} (h : Bg2 a i T) (hT : T.ok ar) : Ar0 ar a 1 i = some (i + T.fl.length) := by
 obtain ⟨u, v, rfl, rfl⟩ := h
 unfold Ar0
 rw [List.drop_left, skip_tr h0 T hT 0 v, Au8]
 simp only [Option.map_some, List.length_append]
 congr 1; omega
theorem at_part {a : List Int} {i : Nat} {T : Tr} (h : Bg2 a i T) : (a.take (i + T.fl.length)).drop i = T.fl := by
 obtain ⟨u, v, rfl, rfl⟩ := h
 rw [← List.append_assoc, List.take_left' (by simp), List.drop_left]
theorem at_lt {a : List Int} {i : Nat} {T : Tr} (h : Bg2 a i T) : i + T.fl.length ≤ a.length := by
 obtain ⟨u, v, rfl, rfl⟩ := h
 simp only [List.length_append]; omega
theorem Bl2 {a : List Int} {i : Nat} {n : Int} (h : Bg2 a i (.v n)) : rd a (i : Int) = n := by
 obtain ⟨u, v, rfl, rfl⟩ := h
 rw [An9 _ _ (by simp [Tr.fl])]
 simp [Tr.fl]
theorem Bf6 {a : List Int} {i : Nat} {n : Int} {ts : List Tr} (h : Bg2 a i (.f n ts)) : rd a (i : Int) = n := by
 obtain ⟨u, v, rfl, rfl⟩ := h
 rw [An9 _ _ (by simp [Tr.fl])]
 simp [Tr.fl]
theorem ats_of {ar : Int → Nat} (h0 : ∀ n, n < 0 → ar n = 0) {a : List Int} : ∀ (ts : List Tr), oks ar ts → ∀ (u v : List Int), a = u ++ (fls ts ++ v) → Aw7 a (Au2 ar a ts.length u.length) ts
 | [], h, u, v, e => by simp [Au2, Aw7]
 | t :: ts, h, u, v, e => by
  rw [oks] at h
  rw [fls] at e
  have h1 : Bg2 a u.length t := ⟨u, fls ts ++ v, by rw [e]; simp, rfl⟩
  rw [List.length_cons, Ar2 (at_skip h0 h1 h.1), Aw7]
  refine ⟨h1, ?_⟩
  have := ats_of h0 ts h.2 (u ++ t.fl) v (e.trans (by simp))
  rwa [List.length_append] at this
theorem at_args {ar : Int → Nat} (h0 : ∀ n, n < 0 → ar n = 0) {a : List Int} {i : Nat} {n : Int} {ts : List Tr} (h : Bg2 a i (.f n ts)) (hT : (Tr.f n ts).ok ar) : Aw7 a (Ai8 ar a i) ts := by
 unfold Ai8
 rw [Bf6 h]
 obtain ⟨u, v, e, rfl⟩ := h
 rw [Tr.ok] at hT
 rw [← hT.2.1]
 have := ats_of h0 ts hT.2.2 (u ++ [n]) v (e.trans (by rw [Tr.fl]; simp))
 simpa using this
theorem ats_any {a : List Int} {P : Nat → Bool} {Q : Tr → Prop} : ∀ (is : List Nat) (ts : List Tr), Aw7 a is ts → (∀ i T, T ∈ ts → Bg2 a i T → (P i = true ↔ Q T)) → (is.any P = true ↔ ∃ T ∈ ts, Q T)
 | [], [], _, _ => by simp
 | i :: is, [], h, _ => by simp [Aw7] at h
 | [], T :: ts, h, _ => by simp [Aw7] at h
 | i :: is, T :: ts, h, hp => by
  rw [Aw7] at h
  rw [List.any_cons, Bool.or_eq_true, hp i T (by simp) h.1, ats_any is ts h.2 (fun i T hT => hp i T (by simp [hT]))]
  simp
theorem ats_all {a : List Int} {P : Nat → Bool} {Q : Tr → Prop} : ∀ (is : List Nat) (ts : List Tr), Aw7 a is ts → (∀ i T, T ∈ ts → Bg2 a i T → (P i = true ↔ Q T)) → (is.all P = true ↔ ∀ T ∈ ts, Q T)
 | [], [], _, _ => by simp
 | i :: is, [], h, _ => by simp [Aw7] at h
 | [], T :: ts, h, _ => by simp [Aw7] at h
 | i :: is, T :: ts, h, hp => by
  rw [Aw7] at h
  rw [List.all_cons, Bool.and_eq_true, hp i T (by simp) h.1, ats_all is ts h.2 (fun i T hT => hp i T (by simp [hT]))]
  simp
def Av3 {R : Type} (f : Nat → Option R) (e : R) : Nat → Nat → R
 | 0, _ => e
 | d + 1, i => (f i).getD (Av3 f e d (i + 1))
theorem Al1 {R : Type} (n : Nat) (f : Nat → Option R) (e : R) (L : Nat → Int → Option R) (h0 : Ev (fun k => L (k + 1) (n : Int)) e)
  (h1 : ∀ i, i < n → ∀ r, Ev (fun k => L k ((i + 1 : Nat) : Int)) r → Ev (fun k => L (k + 1) (i : Int)) ((f i).getD r)) :
  ∀ d i, i + d = n → Ev (fun k => L k (i : Int)) (Av3 f e d i) := by
 intro d
 induction d with
 | zero =>
  intro i hi
  obtain rfl : i = n := by omega
  exact Ad2 h0
 | succ d ih =>
  intro i hi
  exact Ad2 (h1 i (by omega) _ (ih (i + 1) (by omega)))
theorem scanN_none {R : Type} {f : Nat → Option R} {e : R} : ∀ (d i : Nat), (∀ j, i ≤ j → j < i + d → f j = none) → Av3 f e d i = e
 | 0, _, _ => rfl
 | d + 1, i, h => by
  rw [Av3, h i (by omega) (by omega)]
  exact scanN_none d (i + 1) (fun j h1 h2 => h j (by omega) (by omega))
theorem scanN_cases {R : Type} (f : Nat → Option R) (e : R) : ∀ (d i : Nat), (∀ j, i ≤ j → j < i + d → f j = none) ∧ Av3 f e d i = e ∨ ∃ j, i ≤ j ∧ j < i + d ∧ f j = some (Av3 f e d i)
 | 0, i => .inl ⟨fun j h1 h2 => by omega, rfl⟩
 | d + 1, i => by
  rw [Av3]
  cases h : f i with
  | some r => exact .inr ⟨i, by omega, by omega, by rw [h]; rfl⟩
  | none =>
   rcases scanN_cases f e d (i + 1) with ⟨h1, h2⟩ | ⟨j, h1, h2, h3⟩
   ·refine .inl ⟨fun j a b => ?_, h2⟩
    by_cases hj : j = i
    ·rw [hj]; exact h
    ·exact h1 j (by omega) (by omega)
   ·exact .inr ⟨j, by omega, by omega, h3⟩
def Ak6 (p : Nat → Bool) : Nat → Nat → Option Nat
 | 0, _ => none
 | d + 1, i => if p i = true then some i else Ak6 p d (i + 1)
theorem As8 {p : Nat → Bool} : ∀ (d i : Nat), Ak6 p d i = none ↔ ∀ j, i ≤ j → j < i + d → p j = false
 | 0, i => by simp only [Ak6, true_iff]; intro j h1 h2; omega
 | d + 1, i => by
  rw [Ak6]
  by_cases h : p i = true
  ·rw [if_pos h]
   exact ⟨fun e => (by cases e), fun k => (by rw [k i (by omega) (by omega)] at h; cases h)⟩
  ·rw [if_neg h, As8 d (i + 1)]
   refine ⟨fun k j h1 h2 => ?_, fun k j h1 h2 => k j (by omega) (by omega)⟩
   by_cases hj : j = i
   ·rw [hj]; exact Bool.eq_false_iff.2 h
   ·exact k j (by omega) (by omega)
theorem Ax3 {p : Nat → Bool} : ∀ (d i j : Nat), Ak6 p d i = some j → i ≤ j ∧ j < i + d ∧ p j = true ∧ ∀ m, i ≤ m → m < j → p m = false
 | 0, i, j, h => by cases h
 | d + 1, i, j, h => by
  rw [Ak6] at h
  by_cases hp : p i = true
  ·rw [if_pos hp] at h
   obtain rfl := Option.some.inj h
   exact ⟨by omega, by omega, hp, fun m h1 h2 => by omega⟩
  ·rw [if_neg hp] at h
   obtain ⟨h1, h2, h3, h4⟩ := Ax3 d (i + 1) j h
   refine ⟨by omega, by omega, h3, fun m a b => ?_⟩
   by_cases hm : m = i
   ·rw [hm]; exact Bool.eq_false_iff.2 hp
   ·exact h4 m (by omega) b
theorem Ap6 {R : Type} (p : Nat → Bool) (g : Nat → R) (e : R) : ∀ (d i : Nat), Av3 (fun j => if p j = true then some (g j) else none) e d i = ((Ak6 p d i).map g).getD e
 | 0, _ => rfl
 | d + 1, i => by
  rw [Av3, Ak6]
  by_cases h : p i = true
  ·rw [if_pos h, if_pos h]; rfl
  ·rw [if_neg h, if_neg h]; exact Ap6 p g e d (i + 1)
def At8 (p : Nat → Bool) (n : Nat) : Int :=
 match Ak6 p n 0 with
 | some j => (j : Int)
 | none => -1
theorem Ax4 (p : Nat → Bool) (n : Nat) : Av3 (fun j => if p j = true then some (j : Int) else none) (-1) n 0 = At8 p n := by
 rw [Ap6 p (fun j => (j : Int)) (-1)]
 unfold At8
 cases Ak6 p n 0 <;> rfl
theorem placeN_cases (p : Nat → Bool) (n : Nat) : At8 p n = -1 ∧ (∀ j, j < n → p j = false) ∨ ∃ j, j < n ∧ At8 p n = (j : Int) ∧ p j = true ∧ ∀ m, m < j → p m = false := by
 unfold At8
 cases h : Ak6 p n 0 with
 | none => exact .inl ⟨rfl, fun j hj => (As8 n 0).1 h j (by omega) (by omega)⟩
 | some j =>
  obtain ⟨_, h2, h3, h4⟩ := Ax3 n 0 j h
  exact .inr ⟨j, by omega, rfl, h3, fun m hm => h4 m (by omega) hm⟩
def As9 (b : UInt8) : Bool := decide (97 ≤ b.toNat ∧ b.toNat ≤ 122)
def Ba2 (s : ByteArray) : Bool := decide (1 ≤ s.size ∧ s.size ≤ 3) && s.data.toList.all As9
def abc : ByteArray := ⟨#[97, 98, 99, 100, 101, 102, 103, 104, 105, 106, 107, 108, 109, 110, 111, 112, 113, 114, 115, 116, 117, 118, 119, 120, 121, 122]⟩
theorem abc_letter_all : ∀ n, n < 256 → abc.data.toList.contains (UInt8.ofNat n) = As9 (UInt8.ofNat n) := by decide +kernel
theorem abc_letter (b : UInt8) : abc.data.toList.contains b = As9 b := by
 have h := abc_letter_all b.toNat (UInt8.toNat_lt b)
 rwa [UInt8.ofNat_toNat] at h
theorem Au7 (p : UInt8 → Bool) : ∀ l : List UInt8, l.dropWhile p = [] ↔ l.all p = true
 | [] => by simp
 | x :: xs => by
  by_cases h : p x = true
  ·rw [List.dropWhile_cons_of_pos h, Au7 p xs]; simp [h]
  ·rw [List.dropWhile_cons_of_neg h]; simp [h]
theorem dropWhile_head (p : UInt8 → Bool) : ∀ (l : List UInt8) (y : UInt8) (ys : List UInt8), l.dropWhile p = y :: ys → p y = false
 | [], y, ys, h => by cases h
 | x :: xs, y, ys, h => by
  by_cases hx : p x = true
  ·rw [List.dropWhile_cons_of_pos hx] at h; exact dropWhile_head p xs y ys h
  ·rw [List.dropWhile_cons_of_neg hx] at h
   simp only [List.cons.injEq] at h
   rw [← h.1]; exact Bool.eq_false_iff.2 hx
theorem trimS_nil (l cs : List UInt8) : Lib.trimS l cs = [] ↔ l.all (cs.contains ·) = true := by
 unfold Lib.trimS Lib.trimLeftS Lib.trimRightS
 rw [Au7]
 constructor
 ·intro h
  cases hd : l.reverse.dropWhile (cs.contains ·) with
  | nil =>
   rw [Au7] at hd
   rwa [List.all_reverse] at hd
  | cons y ys =>
   have h1 := dropWhile_head _ _ _ _ hd
   rw [hd] at h
   simp only [List.all_reverse, List.all_cons, Bool.and_eq_true] at h
   have h2 : cs.contains y = false := h1
   rw [h.1] at h2; cases h2
 ·intro h
  have : l.reverse.dropWhile (cs.contains ·) = [] := by rw [Au7, List.all_reverse]; exact h
  rw [this]; rfl
theorem trim_abc (l : List UInt8) : (Lib.trimS l abc.data.toList == []) = l.all As9 := by
 have e : l.all (abc.data.toList.contains ·) = l.all As9 := by
  congr 1; funext b; exact abc_letter b
 by_cases h : l.all As9 = true
 ·rw [h]
  have := (trimS_nil l abc.data.toList).2 (by rw [e]; exact h)
  rw [this]; rfl
 ·have hn : ¬ Lib.trimS l abc.data.toList = [] := fun k => h (by rw [← e]; exact (trimS_nil _ _).1 k)
  rw [Bool.eq_false_iff.2 h]
  exact beq_eq_false_iff_ne.2 hn
end Go.Proofs.YtgichahebemmiaaGreatDoor.Pure
