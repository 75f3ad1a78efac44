/- A part of the proof of the law FnExactGreatestOf. -/
import Derived.Laws.StructEq
import Derived.Test.YtgichahebemmiaaDoorCFnExactGreatestOf0
import Derived.Test.YtgichahebemmiaaDoorCFnExactGreatestOf1
import Derived.Test.YtgichahebemmiaaDoorCFnExactGreatestOf2
import Derived.Test.YtgichahebemmiaaDoorCFnExactGreatestOf5
import Derived.Test.YtgichahebemmiaaDoorCFnExactGreatestOf6
import Derived.Test.YtgichahebemmiaaDoorCFnExactGreatestOf7
import Derived.Test.YtgichahebemmiaaDoorCFnExactGreatestOf15
namespace Go.Proofs.YtgichahebemmiaaDoor.P
open Go.RowKit Go.Proofs.YtgichahebemmiaaDoorW.PrintWords Go.Proofs.YtgichahebemmiaaDoorW.PrintLast Go.Proofs.YtgichahebemmiaaDoorW.PrintMore
attribute [local go_sem] Ae6 Ae5 Af7 Af8 Ad9 Ad8 Ae4 Ae3   -- for this text's walks alone
set_option linter.unusedVariables false
set_option linter.unusedSimpArgs false
open Go.WideMaps
theorem nodup_lt : ∀ (N : Nat) (l : List Nat), l.Pairwise (fun a b => a ≠ b) → (∀ x ∈ l, x < N) → l.length ≤ N
 | 0, l, _, h => by
  cases l with
  | nil => simp
  | cons x r => exact absurd (h x (by simp)) (by omega)
 | N + 1, l, hd, h => by
  have h1 := nodup_lt N (l.filter (fun x => decide (x ≠ N))) (hd.filter _) (fun x hx => by
   rw [List.mem_filter] at hx
   have := h x hx.1
   have := of_decide_eq_true hx.2
   omega)
  have h2 : ∀ l : List Nat, l.Pairwise (fun a b => a ≠ b) → l.length ≤ (l.filter (fun x => decide (x ≠ N))).length + 1 := by
   intro l
   induction l with
   | nil => intro _; simp
   | cons x r ih =>
    intro hp
    rw [List.pairwise_cons] at hp
    have := ih hp.2
    by_cases e : x = N
    ·have e2 : r.filter (fun x => decide (x ≠ N)) = r := by
      rw [List.filter_eq_self]
      intro y hy
      have := hp.1 y hy
      exact decide_eq_true (by omega)
     rw [List.filter_cons_of_neg (by simp [e]), e2]
     simp
    ·rw [List.filter_cons_of_pos (by simpa using e)]
     simp only [List.length_cons]; omega
  have := h2 l hd
  omega
def Ao3 (i j : Nat) : Value := .agg #[.int .i64 i, .int .i64 j]
theorem cmpKey_inj {i j i' j' : Nat} (h : Ao3 i j = Ao3 i' j') : i = i' ∧ j = j' := by
 unfold Ao3 at h
 injection h with h
 have h := congrArg Array.toList h
 simp at h
 omega
theorem cmpArr : ArrKey Tryd.prog 90 3 2 := ⟨Tryd.underlying90, by kernel_rfl, by kernel_rfl, by kernel_rfl⟩
theorem cmpSize : ∃ m, Tryd.prog.types.size = m + 1 := ⟨Tryd.prog.types.size - 1, by have : (0 : Nat) < Tryd.prog.types.size := of_decide_eq_true (by kernel_rfl); omega⟩
theorem Ar0 : Go.Maps.Keyed Tryd.prog 90 := Go.Maps.Keyed.of_law cmpArr.law
theorem cmp_wf (i : Nat) (hi : i < 1000000) : (Lit.int .i64 (i : Int)).wf = true := by
 simp only [Lit.wf, decide_eq_true_eq, Bool.and_eq_true, IntKind.min, IntKind.max]
 first | omega | (constructor <;> omega) | (simp [IntKind.bits, IntKind.signed] <;> omega)
theorem cmpKey_of (i j : Nat) (hi : i < 1000000) (hj : j < 1000000) : ∃ l, keyOf Tryd.prog 90 (Ao3 i j) = some l :=
 ⟨_, Go.WideMaps.keyOf_pair cmpArr Tryd.underlying3 cmpSize (cmp_wf i hi) (cmp_wf j hj)⟩
def Ai7 (G : Int → Int → Bool → Prop) (mb : Nat) (w : World) : Prop :=
 ∃ es clock, w.heap[mb]? = some (.map es clock) ∧ Go.WideElems.Fit (H := Unit) Tryd.prog 90 (plainElem Tryd.prog 4) es clock ∧
  ∀ x ∈ es.toList, ∃ (i j : Nat) (b : Bool), i < 1000000 ∧ j < 1000000 ∧ x.key = Ao3 i j ∧ x.val = .bool b ∧ G i j b
section
variable {G : Int → Int → Bool → Prop} {mb : Nat} {w w1 w2 : World}
theorem Ai7.same (h : Ai7 G mb w) (he : w1.heap[mb]? = w.heap[mb]?) : Ai7 G mb w1 := by
 obtain ⟨es, c, h1, h2⟩ := h
 exact ⟨es, c, he.trans h1, h2⟩
theorem Ai7.lt (h : Ai7 G mb w) : mb < w.heap.size := by
 obtain ⟨es, c, h1, _⟩ := h
 exact (Array.getElem?_eq_some_iff.1 h1).1
theorem Ai7.below (h : Ai7 G mb w) (hb : Below w.heap.size w w1) : Ai7 G mb w1 := h.same (hb.block mb h.lt)
theorem Ai7.no_cell (h : Ai7 G mb w) {p : Addr} (hp : p.block = mb) : w.cell? p = none := by
 obtain ⟨es, c, h1, _⟩ := h
 unfold World.cell?
 rw [hp, h1]
theorem Ai7.no_cells (h : Ai7 G mb w) {k : Nat} {cs : Array Value} {q : Nat} {z : Nat × Nat} (hk : w.heap[k]? = some (.cells cs q z)) : k ≠ mb := by
 rintro rfl
 obtain ⟨es, c, h1, _⟩ := h
 rw [h1] at hk
 cases hk
theorem Ai7.size (h : Ai7 G mb w) : ∃ es clock, w.heap[mb]? = some (.map es clock) ∧ es.size ≤ 1000000000000 := by
 obtain ⟨es, c, h1, F, h2⟩ := h
 refine ⟨es, c, h1, ?_⟩
 have hd := Go.Maps.fit_apart Ar0 F
 have hn : es.toList.Pairwise (fun x y => x.key ≠ y.key) := ((Go.MapKept.stamped_iff es c).1 F.stamped).2.2
 have code : ∀ x ∈ es.toList, ∃ n, n < 1000000000000 ∧ ∃ i j : Nat, i < 1000000 ∧ j < 1000000 ∧ x.key = Ao3 i j ∧ n = i * 1000000 + j := by
  intro x hx
  obtain ⟨i, j, b, hi, hj, hk, _⟩ := h2 x hx
  exact ⟨i * 1000000 + j, by omega, i, j, hi, hj, hk, rfl⟩
 clear hd h2 F h1
 have go : ∀ l : List MapEntry, l.Pairwise (fun x y => x.key ≠ y.key) → (∀ x ∈ l, ∃ n, n < 1000000000000 ∧ ∃ i j : Nat, i < 1000000 ∧ j < 1000000 ∧ x.key = Ao3 i j ∧ n = i * 1000000 + j) →
   ∃ ns : List Nat, ns.length = l.length ∧ ns.Pairwise (fun a b => a ≠ b) ∧ (∀ n ∈ ns, n < 1000000000000) ∧ ∀ n ∈ ns, ∃ x ∈ l, ∃ i j : Nat, i < 1000000 ∧ j < 1000000 ∧ x.key = Ao3 i j ∧ n = i * 1000000 + j := by
  intro l
  induction l with
  | nil => intro _ _; exact ⟨[], rfl, List.Pairwise.nil, by simp, by simp⟩
  | cons x r ih =>
   intro hp hc
   rw [List.pairwise_cons] at hp
   obtain ⟨ns, a1, a2, a3, a4⟩ := ih hp.2 (fun y hy => hc y (by simp [hy]))
   obtain ⟨n, hn, i, j, hi, hj, hk, e⟩ := hc x (by simp)
   refine ⟨n :: ns, by simp [a1], List.pairwise_cons.2 ⟨fun m hm hnm => ?_, a2⟩, fun m hm => ?_, fun m hm => ?_⟩
   ·obtain ⟨y, hy, i', j', hi', hj', hk', e'⟩ := a4 m hm
    refine hp.1 y hy ?_
    have : i = i' ∧ j = j' := by omega
    rw [hk, hk', this.1, this.2]
   ·rcases List.mem_cons.1 hm with rfl | hm
    ·exact hn
    ·exact a3 m hm
   ·rcases List.mem_cons.1 hm with rfl | hm
    ·exact ⟨x, by simp, i, j, hi, hj, hk, e⟩
    ·obtain ⟨y, hy, q⟩ := a4 m hm
     exact ⟨y, by simp [hy], q⟩
 obtain ⟨ns, a1, a2, a3, _⟩ := go es.toList hn code
 have := nodup_lt 1000000000000 ns a2 a3
 have e : es.size = es.toList.length := by simp
 omega
structure Bel (G : Int → Int → Bool → Prop) (mb B : Nat) (w w1 : World) : Prop where
 os : w1.os = w.os
 tape : w1.tape = w.tape
 output : w1.output = w.output
 size : w.heap.size ≤ w1.heap.size
 block : ∀ k, k < B → k ≠ mb → w1.heap[k]? = w.heap[k]?
 old : Ai7 G mb w
 inv : Ai7 G mb w1
theorem Bel.of (hI : Ai7 G mb w) (h : Below w.heap.size w w1) : Bel G mb w.heap.size w w1 := ⟨h.os, h.tape, h.output, h.size, fun k hk _ => h.block k hk, hI, hI.below h⟩
theorem Bel.cell {B : Nat} (h : Bel G mb B w w1) {p : Addr} (hp : p.block < B) : w1.cell? p = w.cell? p := by
 by_cases e : p.block = mb
 ·rw [h.inv.no_cell e, h.old.no_cell e]
 ·exact World.cell?_of_block (w := w) (h.block p.block hp e)
theorem Ak5 (h : Bel G mb w.heap.size w w1) (k : Bel G mb w1.heap.size w1 w2) : Bel G mb w.heap.size w w2 :=
 ⟨k.os.trans h.os, k.tape.trans h.tape, k.output.trans h.output, Nat.le_trans h.size k.size, fun i hi hne => (k.block i (Nat.lt_of_lt_of_le hi h.size) hne).trans (h.block i hi hne), h.old, k.inv⟩
theorem Ai4 (h : Bel G mb w.heap.size w w1) (k : Below w1.heap.size w1 w2) : Bel G mb w.heap.size w w2 := Ak5 h (Bel.of h.inv k)
theorem Ac5 (h : Bel G mb w.heap.size w w1) (o : Obj) : Bel G mb w.heap.size w (w1.alloc o) := Ai4 h (Ad7 (Below.refl _ _) o)
theorem Ac6 (h : Bel G mb w.heap.size w w1) (n : Nat) : Bel G mb w.heap.size w (w1.drewN n) := Ai4 h (Af0 (Below.refl _ _) n)
theorem Ac8 (h : Bel G mb w.heap.size w w1) : Bel G mb w.heap.size w w1.drew := Ai4 h (Ac2 (Below.refl _ _))
theorem Am8 {α : Type} {d : Kd α} {e base : Nat} {ok : Nat → Prop} {v : Value} {xs : List α} (h : d.R e w base ok v xs) (hb : Bel G mb w.heap.size w w1) : d.R e w1 base ok v xs :=
 Kd.R_mono (Kd.R_move (Kd.R_bound h) (fun k hk => hb.block k hk.2.2.1 (by
  obtain ⟨_, _, _, q, _, cells, hc⟩ := hk
  exact hb.old.no_cells hc))) (fun _ hk => hk.1)
theorem As4 {α : Type} {d : Kd α} {A : Option Addr} {n : Nat} {xs : List α} (h : Kd.F d w (fun k_ => k_ ≠ mb) A n xs) (hb : Bel G mb w.heap.size w w1) : Kd.F d w1 (fun k_ => k_ ≠ mb) A n xs := Kd.F_step h (fun k hk hlt => hb.block k hlt hk)
theorem As1 {α : Type} {d : Kd α} {A : Option Addr} {n : Nat} {xs : List α} (h : Kd.F d w (fun k_ => k_ ≠ mb) A n xs) (hb : Bel G mb w.heap.size w w1) : Kd.C d w1 A n xs := Kd.F_now (As4 h hb)
theorem Au1 {q : IntKind} {A : Option Addr} {n : Nat} {xs : List Int} (h : Kd.C (Kd.int q) w A n xs) (hb : Bel G mb w.heap.size w w1) : Kd.C (Kd.int q) w1 A n xs :=
 ⟨h.1, h.2.1, fun hn => by
  obtain ⟨ad, e, hc⟩ := h.2.2 hn
  refine ⟨ad, e, fun j p hj => ?_⟩
  obtain ⟨c, hs, hr, hcell⟩ := hc j p hj
  exact ⟨c, hs, hr, fun i u hu => by
   have := hcell i u hu
   rw [hb.cell (World.block_lt_of_cell? _ _ this)]
   exact this⟩⟩
theorem bcB (h : Bel G mb w.heap.size w w1) {p : Addr} {v : Value} (hx : w.cell? p = some v) : w1.cell? p = some v := (h.cell (World.block_lt_of_cell? w p hx)).trans hx
theorem bcL (h : Below w.heap.size w w1) {p : Addr} {v : Value} (hx : w.cell? p = some v) : w1.cell? p = some v := (h.cell (World.block_lt_of_cell? w p hx)).trans hx
end
theorem Ak6 {w : World} {A : Option Addr} {n : Nat} {xs : List S79} (h : Kd.C k79 w A n xs) (h1 : (0 : Int) < (n : Int)) : ∃ ad A0 c0 A1 c1 A2 c2 A3 c3, A = some ad ∧ w.cell? ad = some (.slice A0 ((Aa3 xs 0).f0.f0).length c0) ∧ w.cell? ⟨ad.block, ad.off + 1, none⟩ = some (.slice A1 ((Aa3 xs 0).f1).length c1) ∧ w.cell? ⟨ad.block, ad.off + 2, none⟩ = some (.slice A2 ((Aa3 xs 0).f2).length c2) ∧ w.cell? ⟨ad.block, ad.off + 3, none⟩ = some (.slice A3 ((Aa3 xs 0).f3).length c3) ∧ w.cell? ⟨ad.block, ad.off + 4, none⟩ = some (.map (some ((Aa3 xs 0).f4).toNat)) ∧
  (Aa3 xs 0).f0.f0.length ≤ c0 ∧ k65.C w A0 (Aa3 xs 0).f0.f0.length (Aa3 xs 0).f0.f0 ∧ (Aa3 xs 0).f1.length ≤ c1 ∧ (Kd.int .i64).C w A1 (Aa3 xs 0).f1.length (Aa3 xs 0).f1 ∧ (Aa3 xs 0).f2.length ≤ c2 ∧ (Kd.int .i64).C w A2 (Aa3 xs 0).f2.length (Aa3 xs 0).f2 ∧ (Aa3 xs 0).f3.length ≤ c3 ∧ (Kd.int .i64).C w A3 (Aa3 xs 0).f3.length (Aa3 xs 0).f3 := by
 obtain ⟨ad, A0, c0, A1, c1, A2, c2, A3, c3, e, x0, x1, x2, x3, x4, r⟩ := Al8 h 0 (by omega) h1
 rw [show ((0 : Int)).toNat = 0 from rfl, show 0 * 5 = 0 from rfl, Addr.add_zero'] at x0 x1 x2 x3 x4
 exact ⟨ad, A0, c0, A1, c1, A2, c2, A3, c3, e, x0, x1, x2, x3, x4, r⟩
mutual
def impl_comparer_isGreater.l0 (g : Int → Int → Option Bool) : Nat → List (S79) → Int → Int → Int → Int → List Int → List Int → List Int → Int → Int → Option (Bool)
 | 0, _, _, _, _, _, _, _, _, _, _ => none
 | k + 1, x0, x1, x2, x7, x8, x9, x10, x72, x73, x74 => if x74 < x73 then (if 0 ≤ x74 then (if x74 < (x72.length : Int) then ((impl_comparer_same.f k x0 (rd x72 x74) x2).bind fun t345 => (if t345 = true then (some true) else ((g (rd x72 x74) x2).bind fun t346 => (if t346 = true then (some true) else (impl_comparer_isGreater.l0 g k x0 x1 x2 x7 x8 x9 x10 x72 x73 (wrap64 (x74 + 1))))))) else (none)) else (none)) else (if 0 < (x0.length : Int) then ((slices_Index_int64_int64.f k ((Aa3 x0 0).f1) x7).bind fun t349 => ((slices_Index_int64_int64.f k ((Aa3 x0 0).f1) x8).bind fun t352 => (if (wrap64 (t349 - t352)) < 0 then (some false) else (impl_comparer_isGreater.l1 g k x0 x1 x9 x10 (wrap64 (t349 - t352)) x10 (x10.length : Int) 0)))) else (none))
def impl_comparer_isGreater.l1 (g : Int → Int → Option Bool) : Nat → List (S79) → Int → List Int → List Int → Int → List Int → Int → Int → Option (Bool)
 | 0, _, _, _, _, _, _, _, _ => none
 | k + 1, x0, x1, x9, x10, x13, x104, x105, x106 => if x106 < x105 then (if 0 ≤ x106 then (if x106 < (x104.length : Int) then ((g x1 (rd x104 x106)).bind fun t354 => (if t354 = true then (impl_comparer_isGreater.l1 g k x0 x1 x9 x10 x13 x104 x105 (wrap64 (x106 + 1))) else (some false))) else (none)) else (none)) else (if x13 > 0 then (some true) else (impl_comparer_isGreater.l2 g k x0 x10 x9 (x9.length : Int) 0))
def impl_comparer_isGreater.l2 (g : Int → Int → Option Bool) : Nat → List (S79) → List Int → List Int → Int → Int → Option (Bool)
 | 0, _, _, _, _, _ => none
 | k + 1, x0, x10, x118, x119, x120 => if x120 < x119 then (if 0 ≤ x120 then (if x120 < (x118.length : Int) then (if x120 < (x10.length : Int) then ((impl_comparer_same.f k x0 (rd x118 x120) (rd x10 x120)).bind fun t357 => (if t357 = true then (impl_comparer_isGreater.l2 g k x0 x10 x118 x119 (wrap64 (x120 + 1))) else ((g (rd x118 x120) (rd x10 x120)).bind fun t359 => (some t359)))) else (none)) else (none)) else (none)) else (some false)
end
def impl_comparer_isGreater.f (g : Int → Int → Option Bool) (k : Nat) (l0 : List (S79)) (a1 : Int) (a2 : Int) : Option (Bool) := if 0 < (l0.length : Int) then (if 0 ≤ a1 then (if a1 < (((Aa3 l0 0).f2).length : Int) then (if 0 ≤ a2 then (if a2 < (((Aa3 l0 0).f3).length : Int) then (if (rd ((Aa3 l0 0).f3) a2) < 0 then (if (rd ((Aa3 l0 0).f2) a1) ≥ 0 then ((impl_subterm.f k ((Aa3 l0 0).f0.f0) ((Aa3 l0 0).f2) a1).bind fun t326 => ((slices_Contains_int64_int64.f k t326 (rd ((Aa3 l0 0).f3) a2)).bind fun t329 => (some t329))) else (some false)) else (if (rd ((Aa3 l0 0).f2) a1) < 0 then (some false) else ((impl_argumentsOf.f k ((Aa3 l0 0).f0.f0) ((Aa3 l0 0).f2) a1).bind fun t334 => ((impl_argumentsOf.f k ((Aa3 l0 0).f0.f0) ((Aa3 l0 0).f3) a2).bind fun t341 => (impl_comparer_isGreater.l0 g k l0 a1 a2 (rd ((Aa3 l0 0).f2) a1) (rd ((Aa3 l0 0).f3) a2) t334 t341 t334 (t334.length : Int) 0))))) else (none)) else (none)) else (none)) else (none)) else (none)
theorem impl_comparer_isGreater.mono_l {g g' : Int → Int → Option Bool} (hg : ∀ p q, LeO (g p q) (g' p q)) : ∀ k, (∀ y0 y1 y2 y3 y4 y5 y6 y7 y8 y9, LeO (impl_comparer_isGreater.l0 g k y0 y1 y2 y3 y4 y5 y6 y7 y8 y9) (impl_comparer_isGreater.l0 g' (k + 1) y0 y1 y2 y3 y4 y5 y6 y7 y8 y9)) ∧ (∀ y0 y1 y2 y3 y4 y5 y6 y7, LeO (impl_comparer_isGreater.l1 g k y0 y1 y2 y3 y4 y5 y6 y7) (impl_comparer_isGreater.l1 g' (k + 1) y0 y1 y2 y3 y4 y5 y6 y7)) ∧ (∀ y0 y1 y2 y3 y4, LeO (impl_comparer_isGreater.l2 g k y0 y1 y2 y3 y4) (impl_comparer_isGreater.l2 g' (k + 1) y0 y1 y2 y3 y4))
 | 0 => ⟨fun _ _ _ _ _ _ _ _ _ _ r h => by simp [impl_comparer_isGreater.l0] at h, fun _ _ _ _ _ _ _ _ r h => by simp [impl_comparer_isGreater.l1] at h, fun _ _ _ _ _ r h => by simp [impl_comparer_isGreater.l2] at h⟩
 | k + 1 => by
  obtain ⟨ih0, ih1, ih2⟩ := impl_comparer_isGreater.mono_l hg k
  refine ⟨?_, ?_, ?_⟩
  ·intro y0 y1 y2 y3 y4 y5 y6 y7 y8 y9
   unfold impl_comparer_isGreater.l0
   repeat' first
   | (with_reducible exact ih0 _ _ _ _ _ _ _ _ _ _)
   | (with_reducible exact ih1 _ _ _ _ _ _ _ _)
   | (with_reducible exact ih2 _ _ _ _ _)
   | (with_reducible exact impl_argumentsOf.mono _ _ _ _)
   | (with_reducible exact hg _ _)
   | (with_reducible exact impl_comparer_same.mono _ _ _ _)
   | (with_reducible exact impl_subterm.mono _ _ _ _)
   | (with_reducible exact slices_Contains_int64_int64.mono _ _ _)
   | (with_reducible exact slices_Index_int64_int64.mono _ _ _)
   | (with_reducible exact LeO.refl _)
   | (with_reducible exact LeO.none _)
   | (with_reducible refine LeO.ite ?_ ?_)
   | (with_reducible refine LeO.bind ?_ (fun _ => ?_))
   | exact ih0 _ _ _ _ _ _ _ _ _ _
   | exact ih1 _ _ _ _ _ _ _ _
   | exact ih2 _ _ _ _ _
   | exact impl_argumentsOf.mono _ _ _ _
   | exact hg _ _
   | exact impl_comparer_same.mono _ _ _ _
   | exact impl_subterm.mono _ _ _ _
   | exact slices_Contains_int64_int64.mono _ _ _
   | exact slices_Index_int64_int64.mono _ _ _
   | exact LeO.none _
   | refine LeO.ite ?_ ?_
   | refine LeO.bind ?_ (fun _ => ?_)
  ·intro y0 y1 y2 y3 y4 y5 y6 y7
   unfold impl_comparer_isGreater.l1
   repeat' first
   | (with_reducible exact ih0 _ _ _ _ _ _ _ _ _ _)
   | (with_reducible exact ih1 _ _ _ _ _ _ _ _)
   | (with_reducible exact ih2 _ _ _ _ _)
   | (with_reducible exact impl_argumentsOf.mono _ _ _ _)
   | (with_reducible exact hg _ _)
   | (with_reducible exact impl_comparer_same.mono _ _ _ _)
   | (with_reducible exact impl_subterm.mono _ _ _ _)
   | (with_reducible exact slices_Contains_int64_int64.mono _ _ _)
   | (with_reducible exact slices_Index_int64_int64.mono _ _ _)
   | (with_reducible exact LeO.refl _)
   | (with_reducible exact LeO.none _)
   | (with_reducible refine LeO.ite ?_ ?_)
   | (with_reducible refine LeO.bind ?_ (fun _ => ?_))
   | exact ih0 _ _ _ _ _ _ _ _ _ _
   | exact ih1 _ _ _ _ _ _ _ _
   | exact ih2 _ _ _ _ _
   | exact impl_argumentsOf.mono _ _ _ _
   | exact hg _ _
   | exact impl_comparer_same.mono _ _ _ _
   | exact impl_subterm.mono _ _ _ _
   | exact slices_Contains_int64_int64.mono _ _ _
   | exact slices_Index_int64_int64.mono _ _ _
   | exact LeO.none _
   | refine LeO.ite ?_ ?_
   | refine LeO.bind ?_ (fun _ => ?_)
  ·intro y0 y1 y2 y3 y4
   unfold impl_comparer_isGreater.l2
   repeat' first
   | (with_reducible exact ih0 _ _ _ _ _ _ _ _ _ _)
   | (with_reducible exact ih1 _ _ _ _ _ _ _ _)
   | (with_reducible exact ih2 _ _ _ _ _)
   | (with_reducible exact impl_argumentsOf.mono _ _ _ _)
   | (with_reducible exact hg _ _)
   | (with_reducible exact impl_comparer_same.mono _ _ _ _)
   | (with_reducible exact impl_subterm.mono _ _ _ _)
   | (with_reducible exact slices_Contains_int64_int64.mono _ _ _)
   | (with_reducible exact slices_Index_int64_int64.mono _ _ _)
   | (with_reducible exact LeO.refl _)
   | (with_reducible exact LeO.none _)
   | (with_reducible refine LeO.ite ?_ ?_)
   | (with_reducible refine LeO.bind ?_ (fun _ => ?_))
   | exact ih0 _ _ _ _ _ _ _ _ _ _
   | exact ih1 _ _ _ _ _ _ _ _
   | exact ih2 _ _ _ _ _
   | exact impl_argumentsOf.mono _ _ _ _
   | exact hg _ _
   | exact impl_comparer_same.mono _ _ _ _
   | exact impl_subterm.mono _ _ _ _
   | exact slices_Contains_int64_int64.mono _ _ _
   | exact slices_Index_int64_int64.mono _ _ _
   | exact LeO.none _
   | refine LeO.ite ?_ ?_
   | refine LeO.bind ?_ (fun _ => ?_)
theorem impl_comparer_isGreater.mono {g g' : Int → Int → Option Bool} (hg : ∀ p q, LeO (g p q) (g' p q)) : ∀ a0 a1 a2 k, LeO (impl_comparer_isGreater.f g k a0 a1 a2) (impl_comparer_isGreater.f g' (k + 1) a0 a1 a2) := by
 intro a0 a1 a2 k
 obtain ⟨ih0, ih1, ih2⟩ := impl_comparer_isGreater.mono_l hg k
 unfold impl_comparer_isGreater.f
 repeat' first
   | (with_reducible exact ih0 _ _ _ _ _ _ _ _ _ _)
   | (with_reducible exact ih1 _ _ _ _ _ _ _ _)
   | (with_reducible exact ih2 _ _ _ _ _)
   | (with_reducible exact impl_argumentsOf.mono _ _ _ _)
   | (with_reducible exact hg _ _)
   | (with_reducible exact impl_comparer_same.mono _ _ _ _)
   | (with_reducible exact impl_subterm.mono _ _ _ _)
   | (with_reducible exact slices_Contains_int64_int64.mono _ _ _)
   | (with_reducible exact slices_Index_int64_int64.mono _ _ _)
   | (with_reducible exact LeO.refl _)
   | (with_reducible exact LeO.none _)
   | (with_reducible refine LeO.ite ?_ ?_)
   | (with_reducible refine LeO.bind ?_ (fun _ => ?_))
   | exact ih0 _ _ _ _ _ _ _ _ _ _
   | exact ih1 _ _ _ _ _ _ _ _
   | exact ih2 _ _ _ _ _
   | exact impl_argumentsOf.mono _ _ _ _
   | exact hg _ _
   | exact impl_comparer_same.mono _ _ _ _
   | exact impl_subterm.mono _ _ _ _
   | exact slices_Contains_int64_int64.mono _ _ _
   | exact slices_Index_int64_int64.mono _ _ _
   | exact LeO.none _
   | refine LeO.ite ?_ ?_
   | refine LeO.bind ?_ (fun _ => ?_)
def impl_comparer_isGreater.T1 : Bool × List (List Nat × List Nat) := (true, [([], []), ([0], [0]), ([1], [1]), ([2], [2]), ([], []), ([3, 4], [3, 4]), ([5], [5]), ([], []), ([7], [7]), ([8], [8]), ([9], [9]), ([], []), ([10, 11], [10, 11]), ([12], [12]), ([6, 0, 1, 2, 3, 4, 5, 6], [6]), ([13, 14, 0, 1, 2, 3, 4, 5, 6, 7, 8, 9, 10, 11, 12, 13, 14], [13])])
def impl_comparer_isGreater.B1 : List Nat := [0, 1, 3, 7, 0, 31, 63, 0, 128, 384, 896, 0, 3968, 8064, 127, 32767]
theorem impl_comparer_isGreater.tab1 : Al0 .any (Am0 Tryd.f68 1) = impl_comparer_isGreater.T1 := by kernel_rfl
theorem impl_comparer_isGreater.bits1 : Ag2 impl_comparer_isGreater.T1.2 impl_comparer_isGreater.B1 = true := by kernel_rfl
def impl_comparer_isGreater.T3 : Bool × List (List Nat × List Nat) := (true, [([], []), ([0], [0]), ([1], [1]), ([2], [2]), ([3, 2], [2, 3]), ([4, 2], [2, 4]), ([5, 2], [2, 5]), ([2], [2]), ([7, 2], [2, 7]), ([8, 2], [2, 8]), ([9, 2], [2, 9]), ([2], [2]), ([6, 10, 11, 2, 2], [2, 6, 10, 11]), ([2], [2]), ([12, 13, 12, 2], [2, 12, 13]), ([2, 14], [2, 14]), ([15, 14, 0, 1, 2, 3, 4, 5, 6, 7, 8, 9, 10, 11, 12, 13, 14, 15], [15])])
def impl_comparer_isGreater.B3 : List Nat := [0, 1, 3, 7, 15, 31, 63, 7, 135, 391, 903, 7, 4095, 7, 16383, 32767, 65535]
theorem impl_comparer_isGreater.tab3 : Al0 .any (Am0 Tryd.f68 3) = impl_comparer_isGreater.T3 := by kernel_rfl
theorem impl_comparer_isGreater.bits3 : Ag2 impl_comparer_isGreater.T3.2 impl_comparer_isGreater.B3 = true := by kernel_rfl
def impl_comparer_isGreater.T6 : Bool × List (List Nat × List Nat) := (true, [([], []), ([0], [0]), ([1], [1]), ([2], [2]), ([], []), ([4], [4]), ([5], [5]), ([6], [6]), ([], []), ([3, 7, 8], [3, 7, 8]), ([], []), ([10], [10]), ([11], [11]), ([12], [12]), ([], []), ([14], [14]), ([15], [15]), ([16], [16]), ([], []), ([13, 17, 18, 9], [13, 17, 18]), ([9, 19, 0, 1, 2, 3, 4, 5, 6, 7, 8, 9], [9]), ([19, 20, 0, 1, 2, 3, 4, 5, 6, 7, 8, 9, 10, 11, 12, 13, 14, 15, 16, 17, 18, 19, 20], [19])])
def impl_comparer_isGreater.B6 : List Nat := [0, 1, 3, 7, 0, 16, 48, 112, 0, 511, 0, 1024, 3072, 7168, 0, 16384, 49152, 114688, 0, 524287, 1048575, 2097151]
theorem impl_comparer_isGreater.tab6 : Al0 .any (Am0 Tryd.f68 6) = impl_comparer_isGreater.T6 := by kernel_rfl
theorem impl_comparer_isGreater.bits6 : Ag2 impl_comparer_isGreater.T6.2 impl_comparer_isGreater.B6 = true := by kernel_rfl
def impl_comparer_isGreater.T13 : Bool × List (List Nat × List Nat) := (true, [([], []), ([0], [0]), ([1], [1]), ([2], [2]), ([], []), ([3, 4], [3, 4]), ([], []), ([6], [6]), ([7], [7]), ([8], [8]), ([], []), ([9, 10, 5], [9, 10]), ([5, 11], [5, 11]), ([12, 11, 0, 1, 2, 3, 4, 5, 6, 7, 8, 9, 10, 11, 12], [12])])
def impl_comparer_isGreater.B13 : List Nat := [0, 1, 3, 7, 0, 31, 0, 64, 192, 448, 0, 2047, 4095, 8191]
theorem impl_comparer_isGreater.tab13 : Al0 .any (Am0 Tryd.f68 13) = impl_comparer_isGreater.T13 := by kernel_rfl
theorem impl_comparer_isGreater.bits13 : Ag2 impl_comparer_isGreater.T13.2 impl_comparer_isGreater.B13 = true := by kernel_rfl
set_option maxHeartbeats 8000000 in
set_option maxRecDepth 100000 in
theorem impl_comparer_isGreater.calls (G : Int → Int → Bool → Prop) (mb : Nat) (g : Int → Int → Option Bool) (k : Nat) (A0 : Option Addr) (l0 : List S79)
  (hg : ∀ (W : World) (p q : Int) (b : Bool), Kd.F k79 W (fun k_ => k_ ≠ mb) A0 l0.length l0 → Ai7 G mb W → g p q = some b → Calls Tryd.prog 54 #[.pointer A0, .int .i64 p, .int .i64 q] W fun e w' => e = .returned (.bool b) ∧ Bel G mb W.heap.size W w')
  (a1 : Int) (a2 : Int) (r : Bool) (w : World) (hr0 : Kd.F k79 w (fun k_ => k_ ≠ mb) A0 l0.length l0) (hI : Ai7 G mb w) (h : impl_comparer_isGreater.f g k l0 a1 a2 = some r) :
  Calls Tryd.prog 68 #[.pointer A0, .int .i64 a1, .int .i64 a2] w fun e w' => e = .returned (.bool r) ∧ Bel G mb w.heap.size w w' := by
 have hu32 := Tryd.underlying32
 have HF0 := am hr0
 have HI := am hI
 have HG := am hg
 have HR0 := am (Kd.F_now hr0)
 clear hr0 hI hg
 have HB := am (Below.refl w.heap.size w)
 have H : (if 0 < (l0.length : Int) then (if 0 ≤ a1 then (if a1 < (((Aa3 l0 0).f2).length : Int) then (if 0 ≤ a2 then (if a2 < (((Aa3 l0 0).f3).length : Int) then (if (rd ((Aa3 l0 0).f3) a2) < 0 then (if (rd ((Aa3 l0 0).f2) a1) ≥ 0 then ((impl_subterm.f k ((Aa3 l0 0).f0.f0) ((Aa3 l0 0).f2) a1).bind fun t326 => ((slices_Contains_int64_int64.f k t326 (rd ((Aa3 l0 0).f3) a2)).bind fun t329 => (some t329))) else (some false)) else (if (rd ((Aa3 l0 0).f2) a1) < 0 then (some false) else ((impl_argumentsOf.f k ((Aa3 l0 0).f0.f0) ((Aa3 l0 0).f2) a1).bind fun t334 => ((impl_argumentsOf.f k ((Aa3 l0 0).f0.f0) ((Aa3 l0 0).f3) a2).bind fun t341 => (impl_comparer_isGreater.l0 g k l0 a1 a2 (rd ((Aa3 l0 0).f2) a1) (rd ((Aa3 l0 0).f3) a2) t334 t341 t334 (t334.length : Int) 0))))) else (none)) else (none)) else (none)) else (none)) else (none)) = some r := h
 clear h
 by_cases c4 : 0 < (l0.length : Int)
 ·rw [if_pos c4] at H
  have c4b0 : decide (0 < (l0.length : Int)) = true := decide_eq_true c4
  have c4b1 : decide (0 < l0.length) = true := decide_eq_true (by omega)
  clear c4
  by_cases c5 : 0 ≤ a1
  ·rw [if_pos c5] at H
   have c5b0 : decide (0 ≤ a1) = true := decide_eq_true c5
   clear c5
   by_cases c6 : a1 < (((Aa3 l0 0).f2).length : Int)
   ·rw [if_pos c6] at H
    have c6b0 : decide (a1 < (((Aa3 l0 0).f2).length : Int)) = true := decide_eq_true c6
    clear c6
    by_cases c7 : 0 ≤ a2
    ·rw [if_pos c7] at H
     have c7b0 : decide (0 ≤ a2) = true := decide_eq_true c7
     clear c7
     by_cases c8 : a2 < (((Aa3 l0 0).f3).length : Int)
     ·rw [if_pos c8] at H
      have c8b0 : decide (a2 < (((Aa3 l0 0).f3).length : Int)) = true := decide_eq_true c8
      clear c8
      by_cases c9 : (rd ((Aa3 l0 0).f3) a2) < 0
      ·rw [if_pos c9] at H
       have c9b0 : decide ((rd ((Aa3 l0 0).f3) a2) < 0) = true := decide_eq_true c9
       clear c9
       by_cases c10 : (rd ((Aa3 l0 0).f2) a1) ≥ 0
       ·rw [if_pos c10] at H
        have c10b0 : decide (0 ≤ (rd ((Aa3 l0 0).f2) a1)) = true := decide_eq_true c10
        clear c10
        replace H := Option.bind_eq_some_iff.mp H
        obtain ⟨t326, A110, H⟩ := H
        replace H : ((slices_Contains_int64_int64.f k t326 (rd ((Aa3 l0 0).f3) a2)).bind fun t329 => (some t329)) = some r := H
        have A11 := am A110
        clear A110
        replace H := Option.bind_eq_some_iff.mp H
        obtain ⟨t329, A120, H⟩ := H
        replace H : (some t329) = some r := H
        have A12 := am A120
        clear A120
        obtain rfl := Option.some.inj H
        go_enter Tryd.func68, Tryd.ntmps68
        try go_wp2
        have n0_ := am (Ac2 HB.out)
        clear HB; revert n0_; intro HB
        have p316 : 0 ≤ (0 : Int) := (by omega)
        have q316 : 0 < (l0.length : Int) := of_decide_eq_true (by first | (with_reducible assumption) | assumption)
        obtain ⟨ad316, A316_0, c316_0, A316_1, c316_1, A316_2, c316_2, A316_3, c316_3, e316, hx316_0, hx316_1, hx316_2, hx316_3, hx316_4, hl316_0, hi316_0, hl316_1, hi316_1, hl316_2, hi316_2, hl316_3, hi316_3⟩ := Ak6 HR0.out q316
        have hw316_4 := hx316_4
        have hw316_3 := hx316_3
        have hw316_2 := hx316_2
        have hw316_1 := hx316_1
        have hw316_0 := hx316_0
        cases e316
        have qi316 : (0 < l0.length) = True := eq_true (by omega)
        replace hx316_0 := bcL HB.out hx316_0
        replace hx316_1 := bcL HB.out hx316_1
        replace hx316_2 := bcL HB.out hx316_2
        replace hx316_3 := bcL HB.out hx316_3
        replace hx316_4 := bcL HB.out hx316_4
        have HR316_0 := am hi316_0
        have HC316_0 := am hl316_0
        clear hi316_0 hl316_0
        have HR316_1 := am hi316_1
        have HC316_1 := am hl316_1
        clear hi316_1 hl316_1
        have HR316_2 := am hi316_2
        have HC316_2 := am hl316_2
        clear hi316_2 hl316_2
        have HR316_3 := am hi316_3
        have HC316_3 := am hl316_3
        clear hi316_3 hl316_3
        replace p316 := eq_true p316
        replace q316 := eq_true q316
        have p317 : 0 ≤ (0 : Int) := (by omega)
        have q317 : 0 < (l0.length : Int) := of_decide_eq_true (by first | (with_reducible assumption) | assumption)
        obtain ⟨ad317, A317_0, c317_0, A317_1, c317_1, A317_2, c317_2, A317_3, c317_3, e317, hx317_0, hx317_1, hx317_2, hx317_3, hx317_4, hl317_0, hi317_0, hl317_1, hi317_1, hl317_2, hi317_2, hl317_3, hi317_3⟩ := Ak6 HR0.out q317
        have hw317_4 := hx317_4
        have hw317_3 := hx317_3
        have hw317_2 := hx317_2
        have hw317_1 := hx317_1
        have hw317_0 := hx317_0
        obtain rfl : ad316 = ad317 := (by injection e317)
        have qi317 : (0 < l0.length) = True := eq_true (by omega)
        replace hx317_0 := bcL HB.out hx317_0
        replace hx317_1 := bcL HB.out hx317_1
        replace hx317_2 := bcL HB.out hx317_2
        replace hx317_3 := bcL HB.out hx317_3
        replace hx317_4 := bcL HB.out hx317_4
        have HR317_0 := am hi317_0
        have HC317_0 := am hl317_0
        clear hi317_0 hl317_0
        have HR317_1 := am hi317_1
        have HC317_1 := am hl317_1
        clear hi317_1 hl317_1
        have HR317_2 := am hi317_2
        have HC317_2 := am hl317_2
        clear hi317_2 hl317_2
        have HR317_3 := am hi317_3
        have HC317_3 := am hl317_3
        clear hi317_3 hl317_3
        replace p317 := eq_true p317
        replace q317 := eq_true q317
        have ea_ := Option.some.inj (hx316_0.symm.trans hx317_0)
        injection ea_ with ea_ en_ ec_
        subst ea_
        subst ec_
        clear en_
        have ea_ := Option.some.inj (hx316_1.symm.trans hx317_1)
        injection ea_ with ea_ en_ ec_
        subst ea_
        subst ec_
        clear en_
        have ea_ := Option.some.inj (hx316_2.symm.trans hx317_2)
        injection ea_ with ea_ en_ ec_
        subst ea_
        subst ec_
        clear en_
        have ea_ := Option.some.inj (hx316_3.symm.trans hx317_3)
        injection ea_ with ea_ en_ ec_
        subst ea_
        subst ec_
        clear en_
        have p318 : 0 ≤ (a1 : Int) := of_decide_eq_true (by first | (with_reducible assumption) | assumption)
        have q318 : a1 < (((Aa3 l0 0).f2).length : Int) := of_decide_eq_true (by first | (with_reducible assumption) | assumption)
        obtain ⟨ad318, e318, hx318_0⟩ := Kd.at_int HR317_2.out a1 p318 q318
        have hw318_0 := hx318_0
        cases e318
        replace hx318_0 := bcL HB.out hx318_0
        replace p318 := eq_true p318
        replace q318 := eq_true q318
        have p319 : 0 ≤ (0 : Int) := (by omega)
        have q319 : 0 < (l0.length : Int) := of_decide_eq_true (by first | (with_reducible assumption) | assumption)
        obtain ⟨ad319, A319_0, c319_0, A319_1, c319_1, A319_2, c319_2, A319_3, c319_3, e319, hx319_0, hx319_1, hx319_2, hx319_3, hx319_4, hl319_0, hi319_0, hl319_1, hi319_1, hl319_2, hi319_2, hl319_3, hi319_3⟩ := Ak6 HR0.out q319
        have hw319_4 := hx319_4
        have hw319_3 := hx319_3
        have hw319_2 := hx319_2
        have hw319_1 := hx319_1
        have hw319_0 := hx319_0
        obtain rfl : ad316 = ad319 := (by injection e319)
        have qi319 : (0 < l0.length) = True := eq_true (by omega)
        replace hx319_0 := bcL HB.out hx319_0
        replace hx319_1 := bcL HB.out hx319_1
        replace hx319_2 := bcL HB.out hx319_2
        replace hx319_3 := bcL HB.out hx319_3
        replace hx319_4 := bcL HB.out hx319_4
        have HR319_0 := am hi319_0
        have HC319_0 := am hl319_0
        clear hi319_0 hl319_0
        have HR319_1 := am hi319_1
        have HC319_1 := am hl319_1
        clear hi319_1 hl319_1
        have HR319_2 := am hi319_2
        have HC319_2 := am hl319_2
        clear hi319_2 hl319_2
        have HR319_3 := am hi319_3
        have HC319_3 := am hl319_3
        clear hi319_3 hl319_3
        replace p319 := eq_true p319
        replace q319 := eq_true q319
        have ea_ := Option.some.inj (hx316_0.symm.trans hx319_0)
        injection ea_ with ea_ en_ ec_
        subst ea_
        subst ec_
        clear en_
        have ea_ := Option.some.inj (hx316_1.symm.trans hx319_1)
        injection ea_ with ea_ en_ ec_
        subst ea_
        subst ec_
        clear en_
        have ea_ := Option.some.inj (hx316_2.symm.trans hx319_2)
        injection ea_ with ea_ en_ ec_
        subst ea_
        subst ec_
        clear en_
        have ea_ := Option.some.inj (hx316_3.symm.trans hx319_3)
        injection ea_ with ea_ en_ ec_
        subst ea_
        subst ec_
        clear en_
        have p320 : 0 ≤ (0 : Int) := (by omega)
        have q320 : 0 < (l0.length : Int) := of_decide_eq_true (by first | (with_reducible assumption) | assumption)
        obtain ⟨ad320, A320_0, c320_0, A320_1, c320_1, A320_2, c320_2, A320_3, c320_3, e320, hx320_0, hx320_1, hx320_2, hx320_3, hx320_4, hl320_0, hi320_0, hl320_1, hi320_1, hl320_2, hi320_2, hl320_3, hi320_3⟩ := Ak6 HR0.out q320
        have hw320_4 := hx320_4
        have hw320_3 := hx320_3
        have hw320_2 := hx320_2
        have hw320_1 := hx320_1
        have hw320_0 := hx320_0
        obtain rfl : ad316 = ad320 := (by injection e320)
        have qi320 : (0 < l0.length) = True := eq_true (by omega)
        replace hx320_0 := bcL HB.out hx320_0
        replace hx320_1 := bcL HB.out hx320_1
        replace hx320_2 := bcL HB.out hx320_2
        replace hx320_3 := bcL HB.out hx320_3
        replace hx320_4 := bcL HB.out hx320_4
        have HR320_0 := am hi320_0
        have HC320_0 := am hl320_0
        clear hi320_0 hl320_0
        have HR320_1 := am hi320_1
        have HC320_1 := am hl320_1
        clear hi320_1 hl320_1
        have HR320_2 := am hi320_2
        have HC320_2 := am hl320_2
        clear hi320_2 hl320_2
        have HR320_3 := am hi320_3
        have HC320_3 := am hl320_3
        clear hi320_3 hl320_3
        replace p320 := eq_true p320
        replace q320 := eq_true q320
        have ea_ := Option.some.inj (hx316_0.symm.trans hx320_0)
        injection ea_ with ea_ en_ ec_
        subst ea_
        subst ec_
        clear en_
        have ea_ := Option.some.inj (hx316_1.symm.trans hx320_1)
        injection ea_ with ea_ en_ ec_
        subst ea_
        subst ec_
        clear en_
        have ea_ := Option.some.inj (hx316_2.symm.trans hx320_2)
        injection ea_ with ea_ en_ ec_
        subst ea_
        subst ec_
        clear en_
        have ea_ := Option.some.inj (hx316_3.symm.trans hx320_3)
        injection ea_ with ea_ en_ ec_
        subst ea_
        subst ec_
        clear en_
        have p321 : 0 ≤ (a2 : Int) := of_decide_eq_true (by first | (with_reducible assumption) | assumption)
        have q321 : a2 < (((Aa3 l0 0).f3).length : Int) := of_decide_eq_true (by first | (with_reducible assumption) | assumption)
        obtain ⟨ad321, e321, hx321_0⟩ := Kd.at_int HR320_3.out a2 p321 q321
        have hw321_0 := hx321_0
        cases e321
        replace hx321_0 := bcL HB.out hx321_0
        replace p321 := eq_true p321
        replace q321 := eq_true q321
        refine Ae9 (n := 16) (S := fun w' => w'.cell? ad316 = some (.slice A316_0 ((Aa3 l0 0).f0.f0).length c316_0) ∧ w'.cell? ⟨ad316.block, ad316.off + 1, none⟩ = some (.slice A316_1 ((Aa3 l0 0).f1).length c316_1) ∧ w'.cell? ⟨ad316.block, ad316.off + 2, none⟩ = some (.slice (some ad318) ((Aa3 l0 0).f2).length c316_2) ∧ w'.cell? ⟨ad316.block, ad316.off + 3, none⟩ = some (.slice (some ad321) ((Aa3 l0 0).f3).length c316_3) ∧ w'.cell? ⟨ad316.block, ad316.off + 4, none⟩ = some (.map (some ((Aa3 l0 0).f4).toNat)) ∧ w'.cell? ad316 = some (.slice A316_0 ((Aa3 l0 0).f0.f0).length c316_0) ∧ w'.cell? ⟨ad316.block, ad316.off + 1, none⟩ = some (.slice A316_1 ((Aa3 l0 0).f1).length c316_1) ∧ w'.cell? ⟨ad316.block, ad316.off + 2, none⟩ = some (.slice (some ad318) ((Aa3 l0 0).f2).length c316_2) ∧ w'.cell? ⟨ad316.block, ad316.off + 3, none⟩ = some (.slice (some ad321) ((Aa3 l0 0).f3).length c316_3) ∧ w'.cell? ⟨ad316.block, ad316.off + 4, none⟩ = some (.map (some ((Aa3 l0 0).f4).toNat)) ∧ w'.cell? (ad318.add (a1).toNat) = some (.int .i64 (rd ((Aa3 l0 0).f2) a1)) ∧ w'.cell? ad316 = some (.slice A316_0 ((Aa3 l0 0).f0.f0).length c316_0) ∧ w'.cell? ⟨ad316.block, ad316.off + 1, none⟩ = some (.slice A316_1 ((Aa3 l0 0).f1).length c316_1) ∧ w'.cell? ⟨ad316.block, ad316.off + 2, none⟩ = some (.slice (some ad318) ((Aa3 l0 0).f2).length c316_2) ∧ w'.cell? ⟨ad316.block, ad316.off + 3, none⟩ = some (.slice (some ad321) ((Aa3 l0 0).f3).length c316_3) ∧ w'.cell? ⟨ad316.block, ad316.off + 4, none⟩ = some (.map (some ((Aa3 l0 0).f4).toNat)) ∧ w'.cell? ad316 = some (.slice A316_0 ((Aa3 l0 0).f0.f0).length c316_0) ∧ w'.cell? ⟨ad316.block, ad316.off + 1, none⟩ = some (.slice A316_1 ((Aa3 l0 0).f1).length c316_1) ∧ w'.cell? ⟨ad316.block, ad316.off + 2, none⟩ = some (.slice (some ad318) ((Aa3 l0 0).f2).length c316_2) ∧ w'.cell? ⟨ad316.block, ad316.off + 3, none⟩ = some (.slice (some ad321) ((Aa3 l0 0).f3).length c316_3) ∧ w'.cell? ⟨ad316.block, ad316.off + 4, none⟩ = some (.map (some ((Aa3 l0 0).f4).toNat)) ∧ w'.cell? (ad321.add (a2).toNat) = some (.int .i64 (rd ((Aa3 l0 0).f3) a2))) (ds := []) #[false, false, false, false, false, false, false, false, false, false, false, false, false, false, false, false] (by kernel_rfl) rfl rfl ⟨(bcL HB.out hw316_0), (bcL HB.out hw316_1), (bcL HB.out hw316_2), (bcL HB.out hw316_3), (bcL HB.out hw316_4), (bcL HB.out hw317_0), (bcL HB.out hw317_1), (bcL HB.out hw317_2), (bcL HB.out hw317_3), (bcL HB.out hw317_4), (bcL HB.out hw318_0), (bcL HB.out hw319_0), (bcL HB.out hw319_1), (bcL HB.out hw319_2), (bcL HB.out hw319_3), (bcL HB.out hw319_4), (bcL HB.out hw320_0), (bcL HB.out hw320_1), (bcL HB.out hw320_2), (bcL HB.out hw320_3), (bcL HB.out hw320_4), (bcL HB.out hw321_0)⟩ (fun hHeld => ?_); refine Ad1 impl_comparer_isGreater.tab1 impl_comparer_isGreater.bits1 (fun HT_ HW_ => ?_)
        generalize w.drew = w13 at HB HR316_0 HR316_1 HR316_2 HR316_3 HR317_0 HR317_1 HR317_2 HR317_3 HR319_0 HR319_1 HR319_2 HR319_3 HR320_0 HR320_1 HR320_2 HR320_3 hx316_0 hx316_1 hx316_2 hx316_3 hx316_4 hx317_0 hx317_1 hx317_2 hx317_3 hx317_4 hx318_0 hx319_0 hx319_1 hx319_2 hx319_3 hx319_4 hx320_0 hx320_1 hx320_2 hx320_3 hx320_4 hx321_0 hHeld ⊢
        refine Ab2 (i := 0) (N := some 18) (v := ?_) (a' := ?_) #[true, false, false, false, false, false, false, false, false, false, false, false, false, false, false, false] rfl rfl (Aa9 HT_.out (by kernel_rfl)) (fun _ _ _ h => h) (Or.inl ⟨by rfl, ?_⟩) ?_ ?_
        rotate_left
        ·intro w'
         go_simp
         with_reducible rfl
        rotate_left
        ·simp only [Act.put, lsp, Aa8, Ab0]
         rfl
        refine Ab2 (i := 1) (N := some 19) (v := ?_) (a' := ?_) #[true, true, false, false, false, false, false, false, false, false, false, false, false, false, false, false] rfl rfl (Aa9 HT_.out (by kernel_rfl)) (fun _ _ _ h => h) (Or.inl ⟨by rfl, ?_⟩) ?_ ?_
        rotate_left
        ·intro w'
         go_simp
         with_reducible rfl
        rotate_left
        ·simp only [Act.put, lsp, Aa8, Ab0]
         rfl
        refine Ab2 (i := 2) (N := some 20) (v := ?_) (a' := ?_) #[true, true, true, false, false, false, false, false, false, false, false, false, false, false, false, false] rfl rfl (Aa9 HT_.out (by kernel_rfl)) (fun _ _ _ h => h) (Or.inl ⟨by rfl, ?_⟩) ?_ ?_
        rotate_left
        ·intro w'
         go_simp
         with_reducible rfl
        rotate_left
        ·simp only [Act.put, lsp, Aa8, Ab0]
         rfl
        refine Ab2 (i := 4) (N := some 22) (v := ?_) (a' := ?_) #[true, true, true, false, true, false, false, false, false, false, false, false, false, false, false, false] rfl rfl (Aa9 HT_.out (by kernel_rfl)) (fun _ _ _ h => h) (Or.inl ⟨by rfl, ?_⟩) ?_ ?_
        rotate_left
        ·intro w'
         go_simp
         with_reducible rfl
        rotate_left
        ·simp only [Act.put, lsp, Aa8, Ab0]
         rfl
        refine Ab2 (i := 7) (N := some 25) (v := ?_) (a' := ?_) #[true, true, true, false, true, false, false, true, false, false, false, false, false, false, false, false] rfl rfl (Aa9 HT_.out (by kernel_rfl)) (fun _ _ _ h => h) (Or.inl ⟨by rfl, ?_⟩) ?_ ?_
        rotate_left
        ·intro w'
         go_simp
         with_reducible rfl
        rotate_left
        ·simp only [Act.put, lsp, Aa8, Ab0]
         rfl
        refine Ab2 (i := 8) (N := some 26) (v := ?_) (a' := ?_) #[true, true, true, false, true, false, false, true, true, false, false, false, false, false, false, false] rfl rfl (Aa9 HT_.out (by kernel_rfl)) (fun _ _ _ h => h) (Or.inl ⟨by rfl, ?_⟩) ?_ ?_
        rotate_left
        ·intro w'
         go_simp
         with_reducible rfl
        rotate_left
        ·simp only [Act.put, lsp, Aa8, Ab0]
         rfl
        refine Ab2 (i := 9) (N := some 27) (v := ?_) (a' := ?_) #[true, true, true, false, true, false, false, true, true, true, false, false, false, false, false, false] rfl rfl (Aa9 HT_.out (by kernel_rfl)) (fun _ _ _ h => h) (Or.inl ⟨by rfl, ?_⟩) ?_ ?_
        rotate_left
        ·intro w'
         go_simp
         with_reducible rfl
        rotate_left
        ·simp only [Act.put, lsp, Aa8, Ab0]
         rfl
        refine Ab2 (i := 11) (N := some 29) (v := ?_) (a' := ?_) #[true, true, true, false, true, false, false, true, true, true, false, true, false, false, false, false] rfl rfl (Aa9 HT_.out (by kernel_rfl)) (fun _ _ _ h => h) (Or.inl ⟨by rfl, ?_⟩) ?_ ?_
        rotate_left
        ·intro w'
         go_simp
         with_reducible rfl
        rotate_left
        ·simp only [Act.put, lsp, Aa8, Ab0]
         rfl
        refine take_ (i := 3) (N := some 21) (v := ?_) (a' := ?_) #[true, true, true, true, true, false, false, true, true, true, false, true, false, false, false, false] rfl rfl (Ac0 HT_.out HW_.out (by kernel_rfl)) (fun _ _ _ h => h) (Or.inl ⟨by rfl, ?_⟩) hHeld ?_ ?_
        rotate_left
        ·rintro w' ⟨s0, s1, s2, s3, s4, s5, s6, s7, s8, s9, s10, s11, s12, s13, s14, s15, s16, s17, s18, s19, s20, s21⟩
         go_simp
         with_reducible rfl
        rotate_left
        ·simp only [Act.put, lsp, Aa8, Ab0]
         rfl
        refine Ab2 (i := 5) (N := some 23) (v := ?_) (a' := ?_) #[true, true, true, true, true, true, false, true, true, true, false, true, false, false, false, false] rfl rfl (Aa9 HT_.out (by kernel_rfl)) (fun _ _ _ h => h) (Or.inl ⟨by rfl, ?_⟩) ?_ ?_
        rotate_left
        ·intro w'
         go_simp
         with_reducible rfl
        rotate_left
        ·simp only [Act.put, lsp, Aa8, Ab0]
         rfl
        refine take_ (i := 6) (N := some 24) (v := ?_) (a' := ?_) #[true, true, true, true, true, true, true, true, true, true, false, true, false, false, false, false] rfl rfl (Ac0 HT_.out HW_.out (by kernel_rfl)) (fun _ _ _ h => h) (Or.inl ⟨by rfl, ?_⟩) hHeld ?_ ?_
        rotate_left
        ·rintro w' ⟨s0, s1, s2, s3, s4, s5, s6, s7, s8, s9, s10, s11, s12, s13, s14, s15, s16, s17, s18, s19, s20, s21⟩
         go_simp
         with_reducible rfl
        rotate_left
        ·simp only [Act.put, lsp, Aa8, Ab0]
         rfl
        refine Ab2 (i := 14) (N := some 7) (v := ?_) (a' := ?_) #[true, true, true, true, true, true, true, true, true, true, false, true, false, false, true, false] rfl rfl (Aa9 HT_.out (by kernel_rfl)) (fun _ _ _ h => h) (Or.inl ⟨by rfl, ?_⟩) ?_ ?_
        rotate_left
        ·intro w'
         go_simp
         with_reducible rfl
        rotate_left
        ·simp only [Act.put, lsp, Aa8, Ab0]
         rfl
        refine take_ (i := 10) (N := some 28) (v := ?_) (a' := ?_) #[true, true, true, true, true, true, true, true, true, true, true, true, false, false, true, false] rfl rfl (Ac0 HT_.out HW_.out (by kernel_rfl)) (fun _ _ _ h => h) (Or.inl ⟨by rfl, ?_⟩) hHeld ?_ ?_
        rotate_left
        ·rintro w' ⟨s0, s1, s2, s3, s4, s5, s6, s7, s8, s9, s10, s11, s12, s13, s14, s15, s16, s17, s18, s19, s20, s21⟩
         go_simp
         with_reducible rfl
        rotate_left
        ·simp only [Act.put, lsp, Aa8, Ab0]
         rfl
        refine Ab2 (i := 12) (N := some 30) (v := ?_) (a' := ?_) #[true, true, true, true, true, true, true, true, true, true, true, true, true, false, true, false] rfl rfl (Aa9 HT_.out (by kernel_rfl)) (fun _ _ _ h => h) (Or.inl ⟨by rfl, ?_⟩) ?_ ?_
        rotate_left
        ·intro w'
         go_simp
         with_reducible rfl
        rotate_left
        ·simp only [Act.put, lsp, Aa8, Ab0]
         rfl
        refine take_ (i := 13) (N := some 31) (v := ?_) (a' := ?_) #[true, true, true, true, true, true, true, true, true, true, true, true, true, true, true, false] rfl rfl (Ac0 HT_.out HW_.out (by kernel_rfl)) (fun _ _ _ h => h) (Or.inl ⟨by rfl, ?_⟩) hHeld ?_ ?_
        rotate_left
        ·rintro w' ⟨s0, s1, s2, s3, s4, s5, s6, s7, s8, s9, s10, s11, s12, s13, s14, s15, s16, s17, s18, s19, s20, s21⟩
         go_simp
         with_reducible rfl
        rotate_left
        ·simp only [Act.put, lsp, Aa8, Ab0]
         rfl
        refine Ab2 (i := 15) (N := some 8) (v := ?_) (a' := ?_) #[true, true, true, true, true, true, true, true, true, true, true, true, true, true, true, true] rfl rfl (Aa9 HT_.out (by kernel_rfl)) (fun _ _ _ h => h) (Or.inl ⟨by rfl, ?_⟩) ?_ ?_
        rotate_left
        ·intro w'
         go_simp
         with_reducible rfl
        rotate_left
        ·simp only [Act.put, lsp, Aa8, Ab0]
         rfl
        refine Ah2 (Ae1 HT_.out (by kernel_rfl)) ?_
        try go_wp2
        have n0_ := am (Ac2 HB.out)
        clear HB; revert n0_; intro HB
        have p322 : 0 ≤ (0 : Int) := (by omega)
        have q322 : 0 < (l0.length : Int) := of_decide_eq_true (by first | (with_reducible assumption) | assumption)
        obtain ⟨ad322, A322_0, c322_0, A322_1, c322_1, A322_2, c322_2, A322_3, c322_3, e322, hx322_0, hx322_1, hx322_2, hx322_3, hx322_4, hl322_0, hi322_0, hl322_1, hi322_1, hl322_2, hi322_2, hl322_3, hi322_3⟩ := Ak6 HR0.out q322
        have hw322_4 := hx322_4
        have hw322_3 := hx322_3
        have hw322_2 := hx322_2
        have hw322_1 := hx322_1
        have hw322_0 := hx322_0
        obtain rfl : ad316 = ad322 := (by injection e322)
        have qi322 : (0 < l0.length) = True := eq_true (by omega)
        replace hx322_0 := bcL HB.out hx322_0
        replace hx322_1 := bcL HB.out hx322_1
        replace hx322_2 := bcL HB.out hx322_2
        replace hx322_3 := bcL HB.out hx322_3
        replace hx322_4 := bcL HB.out hx322_4
        have HR322_0 := am hi322_0
        have HC322_0 := am hl322_0
        clear hi322_0 hl322_0
        have HR322_1 := am hi322_1
        have HC322_1 := am hl322_1
        clear hi322_1 hl322_1
        have HR322_2 := am hi322_2
        have HC322_2 := am hl322_2
        clear hi322_2 hl322_2
        have HR322_3 := am hi322_3
        have HC322_3 := am hl322_3
        clear hi322_3 hl322_3
        replace p322 := eq_true p322
        replace q322 := eq_true q322
        have p323 : 0 ≤ (0 : Int) := (by omega)
        have q323 : 0 < (l0.length : Int) := of_decide_eq_true (by first | (with_reducible assumption) | assumption)
        obtain ⟨ad323, A323_0, c323_0, A323_1, c323_1, A323_2, c323_2, A323_3, c323_3, e323, hx323_0, hx323_1, hx323_2, hx323_3, hx323_4, hl323_0, hi323_0, hl323_1, hi323_1, hl323_2, hi323_2, hl323_3, hi323_3⟩ := Ak6 HR0.out q323
        have hw323_4 := hx323_4
        have hw323_3 := hx323_3
        have hw323_2 := hx323_2
        have hw323_1 := hx323_1
        have hw323_0 := hx323_0
        obtain rfl : ad316 = ad323 := (by injection e323)
        have qi323 : (0 < l0.length) = True := eq_true (by omega)
        replace hx323_0 := bcL HB.out hx323_0
        replace hx323_1 := bcL HB.out hx323_1
        replace hx323_2 := bcL HB.out hx323_2
        replace hx323_3 := bcL HB.out hx323_3
        replace hx323_4 := bcL HB.out hx323_4
        have HR323_0 := am hi323_0
        have HC323_0 := am hl323_0
        clear hi323_0 hl323_0
        have HR323_1 := am hi323_1
        have HC323_1 := am hl323_1
        clear hi323_1 hl323_1
        have HR323_2 := am hi323_2
        have HC323_2 := am hl323_2
        clear hi323_2 hl323_2
        have HR323_3 := am hi323_3
        have HC323_3 := am hl323_3
        clear hi323_3 hl323_3
        replace p323 := eq_true p323
        replace q323 := eq_true q323
        have ea_ := Option.some.inj (hx322_0.symm.trans hx323_0)
        injection ea_ with ea_ en_ ec_
        subst ea_
        subst ec_
        clear en_
        have ea_ := Option.some.inj (hx322_1.symm.trans hx323_1)
        injection ea_ with ea_ en_ ec_
        subst ea_
        subst ec_
        clear en_
        have ea_ := Option.some.inj (hx322_2.symm.trans hx323_2)
        injection ea_ with ea_ en_ ec_
        subst ea_
        subst ec_
        clear en_
        have ea_ := Option.some.inj (hx322_3.symm.trans hx323_3)
        injection ea_ with ea_ en_ ec_
        subst ea_
        subst ec_
        clear en_
        have p324 : 0 ≤ (0 : Int) := (by omega)
        have q324 : 0 < (l0.length : Int) := of_decide_eq_true (by first | (with_reducible assumption) | assumption)
        obtain ⟨ad324, A324_0, c324_0, A324_1, c324_1, A324_2, c324_2, A324_3, c324_3, e324, hx324_0, hx324_1, hx324_2, hx324_3, hx324_4, hl324_0, hi324_0, hl324_1, hi324_1, hl324_2, hi324_2, hl324_3, hi324_3⟩ := Ak6 HR0.out q324
        have hw324_4 := hx324_4
        have hw324_3 := hx324_3
        have hw324_2 := hx324_2
        have hw324_1 := hx324_1
        have hw324_0 := hx324_0
        obtain rfl : ad316 = ad324 := (by injection e324)
        have qi324 : (0 < l0.length) = True := eq_true (by omega)
        replace hx324_0 := bcL HB.out hx324_0
        replace hx324_1 := bcL HB.out hx324_1
        replace hx324_2 := bcL HB.out hx324_2
        replace hx324_3 := bcL HB.out hx324_3
        replace hx324_4 := bcL HB.out hx324_4
        have HR324_0 := am hi324_0
        have HC324_0 := am hl324_0
        clear hi324_0 hl324_0
        have HR324_1 := am hi324_1
        have HC324_1 := am hl324_1
        clear hi324_1 hl324_1
        have HR324_2 := am hi324_2
        have HC324_2 := am hl324_2
        clear hi324_2 hl324_2
        have HR324_3 := am hi324_3
        have HC324_3 := am hl324_3
        clear hi324_3 hl324_3
        replace p324 := eq_true p324
        replace q324 := eq_true q324
        have ea_ := Option.some.inj (hx322_0.symm.trans hx324_0)
        injection ea_ with ea_ en_ ec_
        subst ea_
        subst ec_
        clear en_
        have ea_ := Option.some.inj (hx322_1.symm.trans hx324_1)
        injection ea_ with ea_ en_ ec_
        subst ea_
        subst ec_
        clear en_
        have ea_ := Option.some.inj (hx322_2.symm.trans hx324_2)
        injection ea_ with ea_ en_ ec_
        subst ea_
        subst ec_
        clear en_
        have ea_ := Option.some.inj (hx322_3.symm.trans hx324_3)
        injection ea_ with ea_ en_ ec_
        subst ea_
        subst ec_
        clear en_
        have p325 : 0 ≤ (0 : Int) := (by omega)
        have q325 : 0 < (l0.length : Int) := of_decide_eq_true (by first | (with_reducible assumption) | assumption)
        obtain ⟨ad325, A325_0, c325_0, A325_1, c325_1, A325_2, c325_2, A325_3, c325_3, e325, hx325_0, hx325_1, hx325_2, hx325_3, hx325_4, hl325_0, hi325_0, hl325_1, hi325_1, hl325_2, hi325_2, hl325_3, hi325_3⟩ := Ak6 HR0.out q325
        have hw325_4 := hx325_4
        have hw325_3 := hx325_3
        have hw325_2 := hx325_2
        have hw325_1 := hx325_1
        have hw325_0 := hx325_0
        obtain rfl : ad316 = ad325 := (by injection e325)
        have qi325 : (0 < l0.length) = True := eq_true (by omega)
        replace hx325_0 := bcL HB.out hx325_0
        replace hx325_1 := bcL HB.out hx325_1
        replace hx325_2 := bcL HB.out hx325_2
        replace hx325_3 := bcL HB.out hx325_3
        replace hx325_4 := bcL HB.out hx325_4
        have HR325_0 := am hi325_0
        have HC325_0 := am hl325_0
        clear hi325_0 hl325_0
        have HR325_1 := am hi325_1
        have HC325_1 := am hl325_1
        clear hi325_1 hl325_1
        have HR325_2 := am hi325_2
        have HC325_2 := am hl325_2
        clear hi325_2 hl325_2
        have HR325_3 := am hi325_3
        have HC325_3 := am hl325_3
        clear hi325_3 hl325_3
        replace p325 := eq_true p325
        replace q325 := eq_true q325
        have ea_ := Option.some.inj (hx322_0.symm.trans hx325_0)
        injection ea_ with ea_ en_ ec_
        subst ea_
        subst ec_
        clear en_
        have ea_ := Option.some.inj (hx322_1.symm.trans hx325_1)
        injection ea_ with ea_ en_ ec_
        subst ea_
        subst ec_
        clear en_
        have ea_ := Option.some.inj (hx322_2.symm.trans hx325_2)
        injection ea_ with ea_ en_ ec_
        subst ea_
        subst ec_
        clear en_
        have ea_ := Option.some.inj (hx322_3.symm.trans hx325_3)
        injection ea_ with ea_ en_ ec_
        subst ea_
        subst ec_
        clear en_
        refine Ae9 (n := 17) (S := fun w' => w'.cell? ad316 = some (.slice A322_0 ((Aa3 l0 0).f0.f0).length c322_0) ∧ w'.cell? ⟨ad316.block, ad316.off + 1, none⟩ = some (.slice A322_1 ((Aa3 l0 0).f1).length c322_1) ∧ w'.cell? ⟨ad316.block, ad316.off + 2, none⟩ = some (.slice A322_2 ((Aa3 l0 0).f2).length c322_2) ∧ w'.cell? ⟨ad316.block, ad316.off + 3, none⟩ = some (.slice A322_3 ((Aa3 l0 0).f3).length c322_3) ∧ w'.cell? ⟨ad316.block, ad316.off + 4, none⟩ = some (.map (some ((Aa3 l0 0).f4).toNat)) ∧ w'.cell? ad316 = some (.slice A322_0 ((Aa3 l0 0).f0.f0).length c322_0) ∧ w'.cell? ⟨ad316.block, ad316.off + 1, none⟩ = some (.slice A322_1 ((Aa3 l0 0).f1).length c322_1) ∧ w'.cell? ⟨ad316.block, ad316.off + 2, none⟩ = some (.slice A322_2 ((Aa3 l0 0).f2).length c322_2) ∧ w'.cell? ⟨ad316.block, ad316.off + 3, none⟩ = some (.slice A322_3 ((Aa3 l0 0).f3).length c322_3) ∧ w'.cell? ⟨ad316.block, ad316.off + 4, none⟩ = some (.map (some ((Aa3 l0 0).f4).toNat)) ∧ w'.cell? ad316 = some (.slice A322_0 ((Aa3 l0 0).f0.f0).length c322_0) ∧ w'.cell? ⟨ad316.block, ad316.off + 1, none⟩ = some (.slice A322_1 ((Aa3 l0 0).f1).length c322_1) ∧ w'.cell? ⟨ad316.block, ad316.off + 2, none⟩ = some (.slice A322_2 ((Aa3 l0 0).f2).length c322_2) ∧ w'.cell? ⟨ad316.block, ad316.off + 3, none⟩ = some (.slice A322_3 ((Aa3 l0 0).f3).length c322_3) ∧ w'.cell? ⟨ad316.block, ad316.off + 4, none⟩ = some (.map (some ((Aa3 l0 0).f4).toNat)) ∧ w'.cell? ad316 = some (.slice A322_0 ((Aa3 l0 0).f0.f0).length c322_0) ∧ w'.cell? ⟨ad316.block, ad316.off + 1, none⟩ = some (.slice A322_1 ((Aa3 l0 0).f1).length c322_1) ∧ w'.cell? ⟨ad316.block, ad316.off + 2, none⟩ = some (.slice A322_2 ((Aa3 l0 0).f2).length c322_2) ∧ w'.cell? ⟨ad316.block, ad316.off + 3, none⟩ = some (.slice A322_3 ((Aa3 l0 0).f3).length c322_3) ∧ w'.cell? ⟨ad316.block, ad316.off + 4, none⟩ = some (.map (some ((Aa3 l0 0).f4).toNat))) (ds := []) #[false, false, false, false, false, false, false, false, false, false, false, false, false, false, false, false, false] (by kernel_rfl) rfl rfl ⟨(bcL HB.out hw322_0), (bcL HB.out hw322_1), (bcL HB.out hw322_2), (bcL HB.out hw322_3), (bcL HB.out hw322_4), (bcL HB.out hw323_0), (bcL HB.out hw323_1), (bcL HB.out hw323_2), (bcL HB.out hw323_3), (bcL HB.out hw323_4), (bcL HB.out hw324_0), (bcL HB.out hw324_1), (bcL HB.out hw324_2), (bcL HB.out hw324_3), (bcL HB.out hw324_4), (bcL HB.out hw325_0), (bcL HB.out hw325_1), (bcL HB.out hw325_2), (bcL HB.out hw325_3), (bcL HB.out hw325_4)⟩ (fun hHeld => ?_); refine Ad1 impl_comparer_isGreater.tab3 impl_comparer_isGreater.bits3 (fun HT_ HW_ => ?_)
        generalize w13.drew = w14 at HB HR322_0 HR322_1 HR322_2 HR322_3 HR323_0 HR323_1 HR323_2 HR323_3 HR324_0 HR324_1 HR324_2 HR324_3 HR325_0 HR325_1 HR325_2 HR325_3 hx322_0 hx322_1 hx322_2 hx322_3 hx322_4 hx323_0 hx323_1 hx323_2 hx323_3 hx323_4 hx324_0 hx324_1 hx324_2 hx324_3 hx324_4 hx325_0 hx325_1 hx325_2 hx325_3 hx325_4 hHeld ⊢
        refine Ab2 (i := 0) (N := some 34) (v := ?_) (a' := ?_) #[true, false, false, false, false, false, false, false, false, false, false, false, false, false, false, false, false] rfl rfl (Aa9 HT_.out (by kernel_rfl)) (fun _ _ _ h => h) (Or.inl ⟨by rfl, ?_⟩) ?_ ?_
        rotate_left
        ·intro w'
         go_simp
         with_reducible rfl
        rotate_left
        ·simp only [Act.put, lsp, Aa8, Ab0]
         rfl
        refine Ab2 (i := 1) (N := some 35) (v := ?_) (a' := ?_) #[true, true, false, false, false, false, false, false, false, false, false, false, false, false, false, false, false] rfl rfl (Aa9 HT_.out (by kernel_rfl)) (fun _ _ _ h => h) (Or.inl ⟨by rfl, ?_⟩) ?_ ?_
        rotate_left
        ·intro w'
         go_simp
         with_reducible rfl
        rotate_left
        ·simp only [Act.put, lsp, Aa8, Ab0]
         rfl
        refine Ab2 (i := 2) (N := some 36) (v := ?_) (a' := ?_) #[true, true, true, false, false, false, false, false, false, false, false, false, false, false, false, false, false] rfl rfl (Aa9 HT_.out (by kernel_rfl)) (fun _ _ _ h => h) (Or.inl ⟨by rfl, ?_⟩) ?_ ?_
        rotate_left
        ·intro w'
         go_simp
         with_reducible rfl
        rotate_left
        ·simp only [Act.put, lsp, Aa8, Ab0]
         rfl
        refine Ab2 (i := 3) (N := some 37) (v := ?_) (a' := ?_) #[true, true, true, true, false, false, false, false, false, false, false, false, false, false, false, false, false] rfl rfl (Aa9 HT_.out (by kernel_rfl)) (fun _ _ _ h => h) (Or.inl ⟨by rfl, ?_⟩) ?_ ?_
        rotate_left
        ·intro w'
         go_simp
         with_reducible rfl
        rotate_left
        ·simp only [Act.put, lsp, Aa8, Ab0]
         rfl
        refine Ab2 (i := 4) (N := some 38) (v := ?_) (a' := ?_) #[true, true, true, true, true, false, false, false, false, false, false, false, false, false, false, false, false] rfl rfl (Aa9 HT_.out (by kernel_rfl)) (fun _ _ _ h => h) (Or.inl ⟨by rfl, ?_⟩) ?_ ?_
        rotate_left
        ·intro w'
         go_simp
         with_reducible rfl
        rotate_left
        ·simp only [Act.put, lsp, Aa8, Ab0]
         rfl
        refine Ab2 (i := 5) (N := some 39) (v := ?_) (a' := ?_) #[true, true, true, true, true, true, false, false, false, false, false, false, false, false, false, false, false] rfl rfl (Aa9 HT_.out (by kernel_rfl)) (fun _ _ _ h => h) (Or.inl ⟨by rfl, ?_⟩) ?_ ?_
        rotate_left
        ·intro w'
         go_simp
         with_reducible rfl
        rotate_left
        ·simp only [Act.put, lsp, Aa8, Ab0]
         rfl
        refine Ab2 (i := 7) (N := some 41) (v := ?_) (a' := ?_) #[true, true, true, true, true, true, false, true, false, false, false, false, false, false, false, false, false] rfl rfl (Aa9 HT_.out (by kernel_rfl)) (fun _ _ _ h => h) (Or.inl ⟨by rfl, ?_⟩) ?_ ?_
        rotate_left
        ·intro w'
         go_simp
         with_reducible rfl
        rotate_left
        ·simp only [Act.put, lsp, Aa8, Ab0]
         rfl
        refine Ab2 (i := 8) (N := some 42) (v := ?_) (a' := ?_) #[true, true, true, true, true, true, false, true, true, false, false, false, false, false, false, false, false] rfl rfl (Aa9 HT_.out (by kernel_rfl)) (fun _ _ _ h => h) (Or.inl ⟨by rfl, ?_⟩) ?_ ?_
        rotate_left
        ·intro w'
         go_simp
         with_reducible rfl
        rotate_left
        ·simp only [Act.put, lsp, Aa8, Ab0]
         rfl
        refine Ab2 (i := 9) (N := some 43) (v := ?_) (a' := ?_) #[true, true, true, true, true, true, false, true, true, true, false, false, false, false, false, false, false] rfl rfl (Aa9 HT_.out (by kernel_rfl)) (fun _ _ _ h => h) (Or.inl ⟨by rfl, ?_⟩) ?_ ?_
        rotate_left
        ·intro w'
         go_simp
         with_reducible rfl
        rotate_left
        ·simp only [Act.put, lsp, Aa8, Ab0]
         rfl
        refine Ab2 (i := 11) (N := some 45) (v := ?_) (a' := ?_) #[true, true, true, true, true, true, false, true, true, true, false, true, false, false, false, false, false] rfl rfl (Aa9 HT_.out (by kernel_rfl)) (fun _ _ _ h => h) (Or.inl ⟨by rfl, ?_⟩) ?_ ?_
        rotate_left
        ·intro w'
         go_simp
         with_reducible rfl
        rotate_left
        ·simp only [Act.put, lsp, Aa8, Ab0]
         rfl
        refine Ab2 (i := 13) (N := some 47) (v := ?_) (a' := ?_) #[true, true, true, true, true, true, false, true, true, true, false, true, false, true, false, false, false] rfl rfl (Aa9 HT_.out (by kernel_rfl)) (fun _ _ _ h => h) (Or.inl ⟨by rfl, ?_⟩) ?_ ?_
        rotate_left
        ·intro w'
         go_simp
         with_reducible rfl
        rotate_left
        ·simp only [Act.put, lsp, Aa8, Ab0]
         rfl
        refine take_ (i := 6) (N := some 40) (v := ?_) (a' := ?_) #[true, true, true, true, true, true, true, true, true, true, false, true, false, true, false, false, false] rfl rfl (Ac0 HT_.out HW_.out (by kernel_rfl)) (fun _ _ _ h => h) (Or.inl ⟨by rfl, ?_⟩) hHeld ?_ ?_
        rotate_left
        ·rintro w' ⟨s0, s1, s2, s3, s4, s5, s6, s7, s8, s9, s10, s11, s12, s13, s14, s15, s16, s17, s18, s19⟩
         go_simp
         with_reducible rfl
        rotate_left
        ·simp only [Act.put, lsp, Aa8, Ab0]
         rfl
        refine take_ (i := 10) (N := some 44) (v := ?_) (a' := ?_) #[true, true, true, true, true, true, true, true, true, true, true, true, false, true, false, false, false] rfl rfl (Ac0 HT_.out HW_.out (by kernel_rfl)) (fun _ _ _ h => h) (Or.inl ⟨by rfl, ?_⟩) hHeld ?_ ?_
        rotate_left
        ·rintro w' ⟨s0, s1, s2, s3, s4, s5, s6, s7, s8, s9, s10, s11, s12, s13, s14, s15, s16, s17, s18, s19⟩
         go_simp
         with_reducible rfl
        rotate_left
        ·simp only [Act.put, lsp, Aa8, Ab0]
         rfl
        refine Al7 (i := 12) (N := some 46) #[true, true, true, true, true, true, true, true, true, true, true, true, true, true, false, false, false] rfl rfl (Af4 HT_.out (by kernel_rfl)) (by decide) (fun K hK => ?_)
        refine Ah1 Tryd.func76 (by kernel_rfl) rfl #[.agg #[.slice A322_0 ((Aa3 l0 0).f0.f0).length c322_0], .slice A322_2 ((Aa3 l0 0).f2).length c322_2, .int .i64 a1] (by rfl) rfl rfl el ?_
        with_reducible refine (impl_subterm.calls k _ _ ((Aa3 l0 0).f0.f0) (fun k_ => k_ < w.heap.size) _ _ ((Aa3 l0 0).f2) a1 t326 _ ?side1 ?side2 ?side3 A11.out).mono ?_
        (case side1 => exact cq (Kd.C_below HR323_0.out HB.out))
        (case side2 => exact HC323_0.out)
        (case side3 => exact Kd.V_mk HC325_2.out (Kd.F_below (Kd.C_F (Kd.heap_int .i64) HR325_2.out) (hq HB.out)))
        rintro e w15 ⟨v327, rfl, ho0, hb⟩
        refine ⟨_, rfl, ?_⟩
        have n0_ := am (Kd.V_lower (Kd.V_mono (ok' := fun k_ => True) ho0 (fun k_ hk_ => trivial)) (Ac3 (hq HB.out)))
        have n1_ := am (Aa2 (hq HB.out) hb)
        clear HB; revert n0_ n1_; intro HO328 HB
        (try clear hb)
        (try clear hb2)
        (try clear hgw)
        (try clear hk)
        (try clear hi)
        (try clear ho0)
        obtain ⟨Ao16, co16, eo16⟩ := Kd.V_slice HO328.out
        (first | subst eo16 | (injection eo16 with f1_ f2_ f3_; have f4_ := f1_.symm; have f5_ := f3_.symm; clear f1_ f2_ f3_; subst f4_; subst f5_))
        refine hK.out _ _ ⟨(bcL HB.out hw322_0), (bcL HB.out hw322_1), (bcL HB.out hw322_2), (bcL HB.out hw322_3), (bcL HB.out hw322_4), (bcL HB.out hw323_0), (bcL HB.out hw323_1), (bcL HB.out hw323_2), (bcL HB.out hw323_3), (bcL HB.out hw323_4), (bcL HB.out hw324_0), (bcL HB.out hw324_1), (bcL HB.out hw324_2), (bcL HB.out hw324_3), (bcL HB.out hw324_4), (bcL HB.out hw325_0), (bcL HB.out hw325_1), (bcL HB.out hw325_2), (bcL HB.out hw325_3), (bcL HB.out hw325_4)⟩ (fun hHeld => ?_)
        clear hK K
        refine Ah0 (a' := ?_) ?_ ?_
        rotate_left
        ·show Act.put _ (some 46) _ = _
         simp only [Act.put, lsp, Aa8, Ab0]
         rfl
        refine Al7 (i := 14) (N := some 48) #[true, true, true, true, true, true, true, true, true, true, true, true, true, true, true, false, false] rfl rfl (Af4 HT_.out (by kernel_rfl)) (by decide) (fun K hK => ?_)
        refine Ah1 Tryd.func45 (by kernel_rfl) rfl #[.slice Ao16 t326.length co16, .int .i64 (rd ((Aa3 l0 0).f3) a2)] (by rfl) rfl rfl el ?_
        with_reducible refine (slices_Contains_int64_int64.calls k _ _ t326 (rd ((Aa3 l0 0).f3) a2) t329 _ ?side1 ?side2 A12.out).mono ?_
        (case side1 => repeat (first | exact (Kd.V_reads' HO328.out).2.2 | (with_reducible refine Kd.C_alloc ?_ _) | (with_reducible refine Kd.C_drewN ?_ _) | (with_reducible refine Kd.C_drew ?_)))
        (case side2 => exact (Kd.V_reads' HO328.out).2.1)
        rintro e w' ⟨rfl, ⟨nd, rfl⟩⟩
        refine ⟨_, rfl, ?_⟩
        refine hK.out _ _ ⟨(bcL HB.out hw322_0), (bcL HB.out hw322_1), (bcL HB.out hw322_2), (bcL HB.out hw322_3), (bcL HB.out hw322_4), (bcL HB.out hw323_0), (bcL HB.out hw323_1), (bcL HB.out hw323_2), (bcL HB.out hw323_3), (bcL HB.out hw323_4), (bcL HB.out hw324_0), (bcL HB.out hw324_1), (bcL HB.out hw324_2), (bcL HB.out hw324_3), (bcL HB.out hw324_4), (bcL HB.out hw325_0), (bcL HB.out hw325_1), (bcL HB.out hw325_2), (bcL HB.out hw325_3), (bcL HB.out hw325_4)⟩ (fun hHeld => ?_)
        clear hK K
        refine Ah0 (a' := ?_) ?_ ?_
        rotate_left
        ·show Act.put _ (some 48) _ = _
         simp only [Act.put, lsp, Aa8, Ab0]
         rfl
        refine Ab2 (i := 15) (N := some 49) (v := ?_) (a' := ?_) #[true, true, true, true, true, true, true, true, true, true, true, true, true, true, true, true, false] rfl rfl (Aa9 HT_.out (by kernel_rfl)) (fun _ _ _ h => h) (Or.inl ⟨by rfl, ?_⟩) ?_ ?_
        rotate_left
        ·intro w'
         go_simp
         with_reducible rfl
        rotate_left
        ·simp only [Act.put, lsp, Aa8, Ab0]
         rfl
        refine Ab2 (i := 16) (N := some 6) (v := ?_) (a' := ?_) #[true, true, true, true, true, true, true, true, true, true, true, true, true, true, true, true, true] rfl rfl (Aa9 HT_.out (by kernel_rfl)) (fun _ _ _ h => h) (Or.inl ⟨by rfl, ?_⟩) ?_ ?_
        rotate_left
        ·intro w'
         go_simp
         with_reducible rfl
        rotate_left
        ·simp only [Act.put, lsp, Aa8, Ab0]
         rfl
        refine Ah2 (Ae1 HT_.out (by kernel_rfl)) ?_
        try go_wp2
        go_ret
        exact ⟨by first | rfl | (simp [Aa0, Aa1] <;> rfl) | (simp [*, Aa0, Aa1] <;> rfl), Bel.of HI.out (hq HB.out)⟩
       ·rw [if_neg c10] at H
        have c10b0 : decide (0 ≤ (rd ((Aa3 l0 0).f2) a1)) = false := decide_eq_false c10
        clear c10
        obtain rfl := Option.some.inj H
        go_enter Tryd.func68, Tryd.ntmps68
        try go_wp2
        have n0_ := am (Ac2 HB.out)
        clear HB; revert n0_; intro HB
        have p316 : 0 ≤ (0 : Int) := (by omega)
        have q316 : 0 < (l0.length : Int) := of_decide_eq_true (by first | (with_reducible assumption) | assumption)
        obtain ⟨ad316, A316_0, c316_0, A316_1, c316_1, A316_2, c316_2, A316_3, c316_3, e316, hx316_0, hx316_1, hx316_2, hx316_3, hx316_4, hl316_0, hi316_0, hl316_1, hi316_1, hl316_2, hi316_2, hl316_3, hi316_3⟩ := Ak6 HR0.out q316
        have hw316_4 := hx316_4
        have hw316_3 := hx316_3
        have hw316_2 := hx316_2
        have hw316_1 := hx316_1
        have hw316_0 := hx316_0
        cases e316
        have qi316 : (0 < l0.length) = True := eq_true (by omega)
        replace hx316_0 := bcL HB.out hx316_0
        replace hx316_1 := bcL HB.out hx316_1
        replace hx316_2 := bcL HB.out hx316_2
        replace hx316_3 := bcL HB.out hx316_3
        replace hx316_4 := bcL HB.out hx316_4
        have HR316_0 := am hi316_0
        have HC316_0 := am hl316_0
        clear hi316_0 hl316_0
        have HR316_1 := am hi316_1
        have HC316_1 := am hl316_1
        clear hi316_1 hl316_1
        have HR316_2 := am hi316_2
        have HC316_2 := am hl316_2
        clear hi316_2 hl316_2
        have HR316_3 := am hi316_3
        have HC316_3 := am hl316_3
        clear hi316_3 hl316_3
        replace p316 := eq_true p316
        replace q316 := eq_true q316
        have p317 : 0 ≤ (0 : Int) := (by omega)
        have q317 : 0 < (l0.length : Int) := of_decide_eq_true (by first | (with_reducible assumption) | assumption)
        obtain ⟨ad317, A317_0, c317_0, A317_1, c317_1, A317_2, c317_2, A317_3, c317_3, e317, hx317_0, hx317_1, hx317_2, hx317_3, hx317_4, hl317_0, hi317_0, hl317_1, hi317_1, hl317_2, hi317_2, hl317_3, hi317_3⟩ := Ak6 HR0.out q317
        have hw317_4 := hx317_4
        have hw317_3 := hx317_3
        have hw317_2 := hx317_2
        have hw317_1 := hx317_1
        have hw317_0 := hx317_0
        obtain rfl : ad316 = ad317 := (by injection e317)
        have qi317 : (0 < l0.length) = True := eq_true (by omega)
        replace hx317_0 := bcL HB.out hx317_0
        replace hx317_1 := bcL HB.out hx317_1
        replace hx317_2 := bcL HB.out hx317_2
        replace hx317_3 := bcL HB.out hx317_3
        replace hx317_4 := bcL HB.out hx317_4
        have HR317_0 := am hi317_0
        have HC317_0 := am hl317_0
        clear hi317_0 hl317_0
        have HR317_1 := am hi317_1
        have HC317_1 := am hl317_1
        clear hi317_1 hl317_1
        have HR317_2 := am hi317_2
        have HC317_2 := am hl317_2
        clear hi317_2 hl317_2
        have HR317_3 := am hi317_3
        have HC317_3 := am hl317_3
        clear hi317_3 hl317_3
        replace p317 := eq_true p317
        replace q317 := eq_true q317
        have ea_ := Option.some.inj (hx316_0.symm.trans hx317_0)
        injection ea_ with ea_ en_ ec_
        subst ea_
        subst ec_
        clear en_
        have ea_ := Option.some.inj (hx316_1.symm.trans hx317_1)
        injection ea_ with ea_ en_ ec_
        subst ea_
        subst ec_
        clear en_
        have ea_ := Option.some.inj (hx316_2.symm.trans hx317_2)
        injection ea_ with ea_ en_ ec_
        subst ea_
        subst ec_
        clear en_
        have ea_ := Option.some.inj (hx316_3.symm.trans hx317_3)
        injection ea_ with ea_ en_ ec_
        subst ea_
        subst ec_
        clear en_
        have p318 : 0 ≤ (a1 : Int) := of_decide_eq_true (by first | (with_reducible assumption) | assumption)
        have q318 : a1 < (((Aa3 l0 0).f2).length : Int) := of_decide_eq_true (by first | (with_reducible assumption) | assumption)
        obtain ⟨ad318, e318, hx318_0⟩ := Kd.at_int HR317_2.out a1 p318 q318
        have hw318_0 := hx318_0
        cases e318
        replace hx318_0 := bcL HB.out hx318_0
        replace p318 := eq_true p318
        replace q318 := eq_true q318
        have p319 : 0 ≤ (0 : Int) := (by omega)
        have q319 : 0 < (l0.length : Int) := of_decide_eq_true (by first | (with_reducible assumption) | assumption)
        obtain ⟨ad319, A319_0, c319_0, A319_1, c319_1, A319_2, c319_2, A319_3, c319_3, e319, hx319_0, hx319_1, hx319_2, hx319_3, hx319_4, hl319_0, hi319_0, hl319_1, hi319_1, hl319_2, hi319_2, hl319_3, hi319_3⟩ := Ak6 HR0.out q319
        have hw319_4 := hx319_4
        have hw319_3 := hx319_3
        have hw319_2 := hx319_2
        have hw319_1 := hx319_1
        have hw319_0 := hx319_0
        obtain rfl : ad316 = ad319 := (by injection e319)
        have qi319 : (0 < l0.length) = True := eq_true (by omega)
        replace hx319_0 := bcL HB.out hx319_0
        replace hx319_1 := bcL HB.out hx319_1
        replace hx319_2 := bcL HB.out hx319_2
        replace hx319_3 := bcL HB.out hx319_3
        replace hx319_4 := bcL HB.out hx319_4
        have HR319_0 := am hi319_0
        have HC319_0 := am hl319_0
        clear hi319_0 hl319_0
        have HR319_1 := am hi319_1
        have HC319_1 := am hl319_1
        clear hi319_1 hl319_1
        have HR319_2 := am hi319_2
        have HC319_2 := am hl319_2
        clear hi319_2 hl319_2
        have HR319_3 := am hi319_3
        have HC319_3 := am hl319_3
        clear hi319_3 hl319_3
        replace p319 := eq_true p319
        replace q319 := eq_true q319
        have ea_ := Option.some.inj (hx316_0.symm.trans hx319_0)
        injection ea_ with ea_ en_ ec_
        subst ea_
        subst ec_
        clear en_
        have ea_ := Option.some.inj (hx316_1.symm.trans hx319_1)
        injection ea_ with ea_ en_ ec_
        subst ea_
        subst ec_
        clear en_
        have ea_ := Option.some.inj (hx316_2.symm.trans hx319_2)
        injection ea_ with ea_ en_ ec_
        subst ea_
        subst ec_
        clear en_
        have ea_ := Option.some.inj (hx316_3.symm.trans hx319_3)
        injection ea_ with ea_ en_ ec_
        subst ea_
        subst ec_
        clear en_
        have p320 : 0 ≤ (0 : Int) := (by omega)
        have q320 : 0 < (l0.length : Int) := of_decide_eq_true (by first | (with_reducible assumption) | assumption)
        obtain ⟨ad320, A320_0, c320_0, A320_1, c320_1, A320_2, c320_2, A320_3, c320_3, e320, hx320_0, hx320_1, hx320_2, hx320_3, hx320_4, hl320_0, hi320_0, hl320_1, hi320_1, hl320_2, hi320_2, hl320_3, hi320_3⟩ := Ak6 HR0.out q320
        have hw320_4 := hx320_4
        have hw320_3 := hx320_3
        have hw320_2 := hx320_2
        have hw320_1 := hx320_1
        have hw320_0 := hx320_0
        obtain rfl : ad316 = ad320 := (by injection e320)
        have qi320 : (0 < l0.length) = True := eq_true (by omega)
        replace hx320_0 := bcL HB.out hx320_0
        replace hx320_1 := bcL HB.out hx320_1
        replace hx320_2 := bcL HB.out hx320_2
        replace hx320_3 := bcL HB.out hx320_3
        replace hx320_4 := bcL HB.out hx320_4
        have HR320_0 := am hi320_0
        have HC320_0 := am hl320_0
        clear hi320_0 hl320_0
        have HR320_1 := am hi320_1
        have HC320_1 := am hl320_1
        clear hi320_1 hl320_1
        have HR320_2 := am hi320_2
        have HC320_2 := am hl320_2
        clear hi320_2 hl320_2
        have HR320_3 := am hi320_3
        have HC320_3 := am hl320_3
        clear hi320_3 hl320_3
        replace p320 := eq_true p320
        replace q320 := eq_true q320
        have ea_ := Option.some.inj (hx316_0.symm.trans hx320_0)
        injection ea_ with ea_ en_ ec_
        subst ea_
        subst ec_
        clear en_
        have ea_ := Option.some.inj (hx316_1.symm.trans hx320_1)
        injection ea_ with ea_ en_ ec_
        subst ea_
        subst ec_
        clear en_
        have ea_ := Option.some.inj (hx316_2.symm.trans hx320_2)
        injection ea_ with ea_ en_ ec_
        subst ea_
        subst ec_
        clear en_
        have ea_ := Option.some.inj (hx316_3.symm.trans hx320_3)
        injection ea_ with ea_ en_ ec_
        subst ea_
        subst ec_
        clear en_
        have p321 : 0 ≤ (a2 : Int) := of_decide_eq_true (by first | (with_reducible assumption) | assumption)
        have q321 : a2 < (((Aa3 l0 0).f3).length : Int) := of_decide_eq_true (by first | (with_reducible assumption) | assumption)
        obtain ⟨ad321, e321, hx321_0⟩ := Kd.at_int HR320_3.out a2 p321 q321
        have hw321_0 := hx321_0
        cases e321
        replace hx321_0 := bcL HB.out hx321_0
        replace p321 := eq_true p321
        replace q321 := eq_true q321
        refine Ae9 (n := 16) (S := fun w' => w'.cell? ad316 = some (.slice A316_0 ((Aa3 l0 0).f0.f0).length c316_0) ∧ w'.cell? ⟨ad316.block, ad316.off + 1, none⟩ = some (.slice A316_1 ((Aa3 l0 0).f1).length c316_1) ∧ w'.cell? ⟨ad316.block, ad316.off + 2, none⟩ = some (.slice (some ad318) ((Aa3 l0 0).f2).length c316_2) ∧ w'.cell? ⟨ad316.block, ad316.off + 3, none⟩ = some (.slice (some ad321) ((Aa3 l0 0).f3).length c316_3) ∧ w'.cell? ⟨ad316.block, ad316.off + 4, none⟩ = some (.map (some ((Aa3 l0 0).f4).toNat)) ∧ w'.cell? ad316 = some (.slice A316_0 ((Aa3 l0 0).f0.f0).length c316_0) ∧ w'.cell? ⟨ad316.block, ad316.off + 1, none⟩ = some (.slice A316_1 ((Aa3 l0 0).f1).length c316_1) ∧ w'.cell? ⟨ad316.block, ad316.off + 2, none⟩ = some (.slice (some ad318) ((Aa3 l0 0).f2).length c316_2) ∧ w'.cell? ⟨ad316.block, ad316.off + 3, none⟩ = some (.slice (some ad321) ((Aa3 l0 0).f3).length c316_3) ∧ w'.cell? ⟨ad316.block, ad316.off + 4, none⟩ = some (.map (some ((Aa3 l0 0).f4).toNat)) ∧ w'.cell? (ad318.add (a1).toNat) = some (.int .i64 (rd ((Aa3 l0 0).f2) a1)) ∧ w'.cell? ad316 = some (.slice A316_0 ((Aa3 l0 0).f0.f0).length c316_0) ∧ w'.cell? ⟨ad316.block, ad316.off + 1, none⟩ = some (.slice A316_1 ((Aa3 l0 0).f1).length c316_1) ∧ w'.cell? ⟨ad316.block, ad316.off + 2, none⟩ = some (.slice (some ad318) ((Aa3 l0 0).f2).length c316_2) ∧ w'.cell? ⟨ad316.block, ad316.off + 3, none⟩ = some (.slice (some ad321) ((Aa3 l0 0).f3).length c316_3) ∧ w'.cell? ⟨ad316.block, ad316.off + 4, none⟩ = some (.map (some ((Aa3 l0 0).f4).toNat)) ∧ w'.cell? ad316 = some (.slice A316_0 ((Aa3 l0 0).f0.f0).length c316_0) ∧ w'.cell? ⟨ad316.block, ad316.off + 1, none⟩ = some (.slice A316_1 ((Aa3 l0 0).f1).length c316_1) ∧ w'.cell? ⟨ad316.block, ad316.off + 2, none⟩ = some (.slice (some ad318) ((Aa3 l0 0).f2).length c316_2) ∧ w'.cell? ⟨ad316.block, ad316.off + 3, none⟩ = some (.slice (some ad321) ((Aa3 l0 0).f3).length c316_3) ∧ w'.cell? ⟨ad316.block, ad316.off + 4, none⟩ = some (.map (some ((Aa3 l0 0).f4).toNat)) ∧ w'.cell? (ad321.add (a2).toNat) = some (.int .i64 (rd ((Aa3 l0 0).f3) a2))) (ds := []) #[false, false, false, false, false, false, false, false, false, false, false, false, false, false, false, false] (by kernel_rfl) rfl rfl ⟨(bcL HB.out hw316_0), (bcL HB.out hw316_1), (bcL HB.out hw316_2), (bcL HB.out hw316_3), (bcL HB.out hw316_4), (bcL HB.out hw317_0), (bcL HB.out hw317_1), (bcL HB.out hw317_2), (bcL HB.out hw317_3), (bcL HB.out hw317_4), (bcL HB.out hw318_0), (bcL HB.out hw319_0), (bcL HB.out hw319_1), (bcL HB.out hw319_2), (bcL HB.out hw319_3), (bcL HB.out hw319_4), (bcL HB.out hw320_0), (bcL HB.out hw320_1), (bcL HB.out hw320_2), (bcL HB.out hw320_3), (bcL HB.out hw320_4), (bcL HB.out hw321_0)⟩ (fun hHeld => ?_); refine Ad1 impl_comparer_isGreater.tab1 impl_comparer_isGreater.bits1 (fun HT_ HW_ => ?_)
        generalize w.drew = w17 at HB HR316_0 HR316_1 HR316_2 HR316_3 HR317_0 HR317_1 HR317_2 HR317_3 HR319_0 HR319_1 HR319_2 HR319_3 HR320_0 HR320_1 HR320_2 HR320_3 hx316_0 hx316_1 hx316_2 hx316_3 hx316_4 hx317_0 hx317_1 hx317_2 hx317_3 hx317_4 hx318_0 hx319_0 hx319_1 hx319_2 hx319_3 hx319_4 hx320_0 hx320_1 hx320_2 hx320_3 hx320_4 hx321_0 hHeld ⊢
        refine Ab2 (i := 0) (N := some 18) (v := ?_) (a' := ?_) #[true, false, false, false, false, false, false, false, false, false, false, false, false, false, false, false] rfl rfl (Aa9 HT_.out (by kernel_rfl)) (fun _ _ _ h => h) (Or.inl ⟨by rfl, ?_⟩) ?_ ?_
        rotate_left
        ·intro w'
         go_simp
         with_reducible rfl
        rotate_left
        ·simp only [Act.put, lsp, Aa8, Ab0]
         rfl
        refine Ab2 (i := 1) (N := some 19) (v := ?_) (a' := ?_) #[true, true, false, false, false, false, false, false, false, false, false, false, false, false, false, false] rfl rfl (Aa9 HT_.out (by kernel_rfl)) (fun _ _ _ h => h) (Or.inl ⟨by rfl, ?_⟩) ?_ ?_
        rotate_left
        ·intro w'
         go_simp
         with_reducible rfl
        rotate_left
        ·simp only [Act.put, lsp, Aa8, Ab0]
         rfl
        refine Ab2 (i := 2) (N := some 20) (v := ?_) (a' := ?_) #[true, true, true, false, false, false, false, false, false, false, false, false, false, false, false, false] rfl rfl (Aa9 HT_.out (by kernel_rfl)) (fun _ _ _ h => h) (Or.inl ⟨by rfl, ?_⟩) ?_ ?_
        rotate_left
        ·intro w'
         go_simp
         with_reducible rfl
        rotate_left
        ·simp only [Act.put, lsp, Aa8, Ab0]
         rfl
        refine Ab2 (i := 4) (N := some 22) (v := ?_) (a' := ?_) #[true, true, true, false, true, false, false, false, false, false, false, false, false, false, false, false] rfl rfl (Aa9 HT_.out (by kernel_rfl)) (fun _ _ _ h => h) (Or.inl ⟨by rfl, ?_⟩) ?_ ?_
        rotate_left
        ·intro w'
         go_simp
         with_reducible rfl
        rotate_left
        ·simp only [Act.put, lsp, Aa8, Ab0]
         rfl
        refine Ab2 (i := 7) (N := some 25) (v := ?_) (a' := ?_) #[true, true, true, false, true, false, false, true, false, false, false, false, false, false, false, false] rfl rfl (Aa9 HT_.out (by kernel_rfl)) (fun _ _ _ h => h) (Or.inl ⟨by rfl, ?_⟩) ?_ ?_
        rotate_left
        ·intro w'
         go_simp
         with_reducible rfl
        rotate_left
        ·simp only [Act.put, lsp, Aa8, Ab0]
         rfl
        refine Ab2 (i := 8) (N := some 26) (v := ?_) (a' := ?_) #[true, true, true, false, true, false, false, true, true, false, false, false, false, false, false, false] rfl rfl (Aa9 HT_.out (by kernel_rfl)) (fun _ _ _ h => h) (Or.inl ⟨by rfl, ?_⟩) ?_ ?_
        rotate_left
        ·intro w'
         go_simp
         with_reducible rfl
        rotate_left
        ·simp only [Act.put, lsp, Aa8, Ab0]
         rfl
        refine Ab2 (i := 9) (N := some 27) (v := ?_) (a' := ?_) #[true, true, true, false, true, false, false, true, true, true, false, false, false, false, false, false] rfl rfl (Aa9 HT_.out (by kernel_rfl)) (fun _ _ _ h => h) (Or.inl ⟨by rfl, ?_⟩) ?_ ?_
        rotate_left
        ·intro w'
         go_simp
         with_reducible rfl
        rotate_left
        ·simp only [Act.put, lsp, Aa8, Ab0]
         rfl
        refine Ab2 (i := 11) (N := some 29) (v := ?_) (a' := ?_) #[true, true, true, false, true, false, false, true, true, true, false, true, false, false, false, false] rfl rfl (Aa9 HT_.out (by kernel_rfl)) (fun _ _ _ h => h) (Or.inl ⟨by rfl, ?_⟩) ?_ ?_
        rotate_left
        ·intro w'
         go_simp
         with_reducible rfl
        rotate_left
        ·simp only [Act.put, lsp, Aa8, Ab0]
         rfl
        refine take_ (i := 3) (N := some 21) (v := ?_) (a' := ?_) #[true, true, true, true, true, false, false, true, true, true, false, true, false, false, false, false] rfl rfl (Ac0 HT_.out HW_.out (by kernel_rfl)) (fun _ _ _ h => h) (Or.inl ⟨by rfl, ?_⟩) hHeld ?_ ?_
        rotate_left
        ·rintro w' ⟨s0, s1, s2, s3, s4, s5, s6, s7, s8, s9, s10, s11, s12, s13, s14, s15, s16, s17, s18, s19, s20, s21⟩
         go_simp
         with_reducible rfl
        rotate_left
        ·simp only [Act.put, lsp, Aa8, Ab0]
         rfl
        refine Ab2 (i := 5) (N := some 23) (v := ?_) (a' := ?_) #[true, true, true, true, true, true, false, true, true, true, false, true, false, false, false, false] rfl rfl (Aa9 HT_.out (by kernel_rfl)) (fun _ _ _ h => h) (Or.inl ⟨by rfl, ?_⟩) ?_ ?_
        rotate_left
        ·intro w'
         go_simp
         with_reducible rfl
        rotate_left
        ·simp only [Act.put, lsp, Aa8, Ab0]
         rfl
        refine take_ (i := 6) (N := some 24) (v := ?_) (a' := ?_) #[true, true, true, true, true, true, true, true, true, true, false, true, false, false, false, false] rfl rfl (Ac0 HT_.out HW_.out (by kernel_rfl)) (fun _ _ _ h => h) (Or.inl ⟨by rfl, ?_⟩) hHeld ?_ ?_
        rotate_left
        ·rintro w' ⟨s0, s1, s2, s3, s4, s5, s6, s7, s8, s9, s10, s11, s12, s13, s14, s15, s16, s17, s18, s19, s20, s21⟩
         go_simp
         with_reducible rfl
        rotate_left
        ·simp only [Act.put, lsp, Aa8, Ab0]
         rfl
        refine Ab2 (i := 14) (N := some 7) (v := ?_) (a' := ?_) #[true, true, true, true, true, true, true, true, true, true, false, true, false, false, true, false] rfl rfl (Aa9 HT_.out (by kernel_rfl)) (fun _ _ _ h => h) (Or.inl ⟨by rfl, ?_⟩) ?_ ?_
        rotate_left
        ·intro w'
         go_simp
         with_reducible rfl
        rotate_left
        ·simp only [Act.put, lsp, Aa8, Ab0]
         rfl
        refine take_ (i := 10) (N := some 28) (v := ?_) (a' := ?_) #[true, true, true, true, true, true, true, true, true, true, true, true, false, false, true, false] rfl rfl (Ac0 HT_.out HW_.out (by kernel_rfl)) (fun _ _ _ h => h) (Or.inl ⟨by rfl, ?_⟩) hHeld ?_ ?_
        rotate_left
        ·rintro w' ⟨s0, s1, s2, s3, s4, s5, s6, s7, s8, s9, s10, s11, s12, s13, s14, s15, s16, s17, s18, s19, s20, s21⟩
         go_simp
         with_reducible rfl
        rotate_left
        ·simp only [Act.put, lsp, Aa8, Ab0]
         rfl
        refine Ab2 (i := 12) (N := some 30) (v := ?_) (a' := ?_) #[true, true, true, true, true, true, true, true, true, true, true, true, true, false, true, false] rfl rfl (Aa9 HT_.out (by kernel_rfl)) (fun _ _ _ h => h) (Or.inl ⟨by rfl, ?_⟩) ?_ ?_
        rotate_left
        ·intro w'
         go_simp
         with_reducible rfl
        rotate_left
        ·simp only [Act.put, lsp, Aa8, Ab0]
         rfl
        refine take_ (i := 13) (N := some 31) (v := ?_) (a' := ?_) #[true, true, true, true, true, true, true, true, true, true, true, true, true, true, true, false] rfl rfl (Ac0 HT_.out HW_.out (by kernel_rfl)) (fun _ _ _ h => h) (Or.inl ⟨by rfl, ?_⟩) hHeld ?_ ?_
        rotate_left
        ·rintro w' ⟨s0, s1, s2, s3, s4, s5, s6, s7, s8, s9, s10, s11, s12, s13, s14, s15, s16, s17, s18, s19, s20, s21⟩
         go_simp
         with_reducible rfl
        rotate_left
        ·simp only [Act.put, lsp, Aa8, Ab0]
         rfl
        refine Ab2 (i := 15) (N := some 8) (v := ?_) (a' := ?_) #[true, true, true, true, true, true, true, true, true, true, true, true, true, true, true, true] rfl rfl (Aa9 HT_.out (by kernel_rfl)) (fun _ _ _ h => h) (Or.inl ⟨by rfl, ?_⟩) ?_ ?_
        rotate_left
        ·intro w'
         go_simp
         with_reducible rfl
        rotate_left
        ·simp only [Act.put, lsp, Aa8, Ab0]
         rfl
        refine Ah2 (Ae1 HT_.out (by kernel_rfl)) ?_
        try go_wp2
        have n0_ := am (Ac2 HB.out)
        clear HB; revert n0_; intro HB
        refine Ae9 (n := 17) (S := fun w' => True) (ds := []) #[false, false, false, false, false, false, false, false, false, false, false, false, false, false, false, false, false] (by kernel_rfl) rfl rfl trivial (fun hHeld => ?_); refine Ad1 impl_comparer_isGreater.tab3 impl_comparer_isGreater.bits3 (fun HT_ HW_ => ?_)
        generalize w17.drew = w18 at HB hHeld ⊢
        refine Ab2 (i := 0) (N := some 34) (v := ?_) (a' := ?_) #[true, false, false, false, false, false, false, false, false, false, false, false, false, false, false, false, false] rfl rfl (Aa9 HT_.out (by kernel_rfl)) (fun _ _ _ h => h) (Or.inl ⟨by rfl, ?_⟩) ?_ ?_
        rotate_left
        ·intro w'
         go_simp
         with_reducible rfl
        rotate_left
        ·simp only [Act.put, lsp, Aa8, Ab0]
         rfl
        refine Ab2 (i := 1) (N := some 35) (v := ?_) (a' := ?_) #[true, true, false, false, false, false, false, false, false, false, false, false, false, false, false, false, false] rfl rfl (Aa9 HT_.out (by kernel_rfl)) (fun _ _ _ h => h) (Or.inl ⟨by rfl, ?_⟩) ?_ ?_
        rotate_left
        ·intro w'
         go_simp
         with_reducible rfl
        rotate_left
        ·simp only [Act.put, lsp, Aa8, Ab0]
         rfl
        refine Ab2 (i := 2) (N := some 36) (v := ?_) (a' := ?_) #[true, true, true, false, false, false, false, false, false, false, false, false, false, false, false, false, false] rfl rfl (Aa9 HT_.out (by kernel_rfl)) (fun _ _ _ h => h) (Or.inl ⟨by rfl, ?_⟩) ?_ ?_
        rotate_left
        ·intro w'
         go_simp
         with_reducible rfl
        rotate_left
        ·simp only [Act.put, lsp, Aa8, Ab0]
         rfl
        refine Ab2 (i := 3) (N := some 37) (v := undef) (a' := ?_) #[true, true, true, true, false, false, false, false, false, false, false, false, false, false, false, false, false] rfl rfl (Aa9 HT_.out (by kernel_rfl)) (fun _ _ _ h => h) (Or.inr ⟨by rfl, rfl⟩) ?_ ?_
        rotate_left
        ·simp only [Act.put, lsp, Aa8, Ab0]
         rfl
        refine Ab2 (i := 4) (N := some 38) (v := undef) (a' := ?_) #[true, true, true, true, true, false, false, false, false, false, false, false, false, false, false, false, false] rfl rfl (Aa9 HT_.out (by kernel_rfl)) (fun _ _ _ h => h) (Or.inr ⟨by rfl, rfl⟩) ?_ ?_
        rotate_left
        ·simp only [Act.put, lsp, Aa8, Ab0]
         rfl
        refine Ab2 (i := 5) (N := some 39) (v := undef) (a' := ?_) #[true, true, true, true, true, true, false, false, false, false, false, false, false, false, false, false, false] rfl rfl (Aa9 HT_.out (by kernel_rfl)) (fun _ _ _ h => h) (Or.inr ⟨by rfl, rfl⟩) ?_ ?_
        rotate_left
        ·simp only [Act.put, lsp, Aa8, Ab0]
         rfl
        refine Ab2 (i := 6) (N := some 40) (v := undef) (a' := ?_) #[true, true, true, true, true, true, true, false, false, false, false, false, false, false, false, false, false] rfl rfl (Aa9 HT_.out (by kernel_rfl)) (fun _ _ _ h => h) (Or.inr ⟨by rfl, rfl⟩) ?_ ?_
        rotate_left
        ·simp only [Act.put, lsp, Aa8, Ab0]
         rfl
        refine Ab2 (i := 7) (N := some 41) (v := undef) (a' := ?_) #[true, true, true, true, true, true, true, true, false, false, false, false, false, false, false, false, false] rfl rfl (Aa9 HT_.out (by kernel_rfl)) (fun _ _ _ h => h) (Or.inr ⟨by rfl, rfl⟩) ?_ ?_
        rotate_left
        ·simp only [Act.put, lsp, Aa8, Ab0]
         rfl
        refine Ab2 (i := 8) (N := some 42) (v := undef) (a' := ?_) #[true, true, true, true, true, true, true, true, true, false, false, false, false, false, false, false, false] rfl rfl (Aa9 HT_.out (by kernel_rfl)) (fun _ _ _ h => h) (Or.inr ⟨by rfl, rfl⟩) ?_ ?_
        rotate_left
        ·simp only [Act.put, lsp, Aa8, Ab0]
         rfl
        refine Ab2 (i := 9) (N := some 43) (v := undef) (a' := ?_) #[true, true, true, true, true, true, true, true, true, true, false, false, false, false, false, false, false] rfl rfl (Aa9 HT_.out (by kernel_rfl)) (fun _ _ _ h => h) (Or.inr ⟨by rfl, rfl⟩) ?_ ?_
        rotate_left
        ·simp only [Act.put, lsp, Aa8, Ab0]
         rfl
        refine Ab2 (i := 10) (N := some 44) (v := undef) (a' := ?_) #[true, true, true, true, true, true, true, true, true, true, true, false, false, false, false, false, false] rfl rfl (Aa9 HT_.out (by kernel_rfl)) (fun _ _ _ h => h) (Or.inr ⟨by rfl, rfl⟩) ?_ ?_
        rotate_left
        ·simp only [Act.put, lsp, Aa8, Ab0]
         rfl
        refine Ab2 (i := 11) (N := some 45) (v := undef) (a' := ?_) #[true, true, true, true, true, true, true, true, true, true, true, true, false, false, false, false, false] rfl rfl (Aa9 HT_.out (by kernel_rfl)) (fun _ _ _ h => h) (Or.inr ⟨by rfl, rfl⟩) ?_ ?_
        rotate_left
        ·simp only [Act.put, lsp, Aa8, Ab0]
         rfl
        refine Ab2 (i := 12) (N := some 46) (v := undef) (a' := ?_) #[true, true, true, true, true, true, true, true, true, true, true, true, true, false, false, false, false] rfl rfl (Aa9 HT_.out (by kernel_rfl)) (fun _ _ _ h => h) (Or.inr ⟨by rfl, rfl⟩) ?_ ?_
        rotate_left
        ·simp only [Act.put, lsp, Aa8, Ab0]
         rfl
        refine Ab2 (i := 13) (N := some 47) (v := undef) (a' := ?_) #[true, true, true, true, true, true, true, true, true, true, true, true, true, true, false, false, false] rfl rfl (Aa9 HT_.out (by kernel_rfl)) (fun _ _ _ h => h) (Or.inr ⟨by rfl, rfl⟩) ?_ ?_
        rotate_left
        ·simp only [Act.put, lsp, Aa8, Ab0]
         rfl
        refine Ab2 (i := 14) (N := some 48) (v := undef) (a' := ?_) #[true, true, true, true, true, true, true, true, true, true, true, true, true, true, true, false, false] rfl rfl (Aa9 HT_.out (by kernel_rfl)) (fun _ _ _ h => h) (Or.inr ⟨by rfl, rfl⟩) ?_ ?_
        rotate_left
        ·simp only [Act.put, lsp, Aa8, Ab0]
         rfl
        refine Ab2 (i := 15) (N := some 49) (v := ?_) (a' := ?_) #[true, true, true, true, true, true, true, true, true, true, true, true, true, true, true, true, false] rfl rfl (Aa9 HT_.out (by kernel_rfl)) (fun _ _ _ h => h) (Or.inl ⟨by rfl, ?_⟩) ?_ ?_
        rotate_left
        ·intro w'
         go_simp
         with_reducible rfl
        rotate_left
        ·simp only [Act.put, lsp, Aa8, Ab0]
         rfl
        refine Ab2 (i := 16) (N := some 6) (v := ?_) (a' := ?_) #[true, true, true, true, true, true, true, true, true, true, true, true, true, true, true, true, true] rfl rfl (Aa9 HT_.out (by kernel_rfl)) (fun _ _ _ h => h) (Or.inl ⟨by rfl, ?_⟩) ?_ ?_
        rotate_left
        ·intro w'
         go_simp
         with_reducible rfl
        rotate_left
        ·simp only [Act.put, lsp, Aa8, Ab0]
         rfl
        refine Ah2 (Ae1 HT_.out (by kernel_rfl)) ?_
        try go_wp2
        go_ret
        exact ⟨by first | rfl | (simp [Aa0, Aa1] <;> rfl) | (simp [*, Aa0, Aa1] <;> rfl), Bel.of HI.out (hq HB.out)⟩
      ·rw [if_neg c9] at H
       have c9b0 : decide ((rd ((Aa3 l0 0).f3) a2) < 0) = false := decide_eq_false c9
       clear c9
       by_cases c19 : (rd ((Aa3 l0 0).f2) a1) < 0
       ·rw [if_pos c19] at H
        have c19b0 : decide ((rd ((Aa3 l0 0).f2) a1) < 0) = true := decide_eq_true c19
        clear c19
        obtain rfl := Option.some.inj H
        go_enter Tryd.func68, Tryd.ntmps68
        try go_wp2
        have n0_ := am (Ac2 HB.out)
        clear HB; revert n0_; intro HB
        have p316 : 0 ≤ (0 : Int) := (by omega)
        have q316 : 0 < (l0.length : Int) := of_decide_eq_true (by first | (with_reducible assumption) | assumption)
        obtain ⟨ad316, A316_0, c316_0, A316_1, c316_1, A316_2, c316_2, A316_3, c316_3, e316, hx316_0, hx316_1, hx316_2, hx316_3, hx316_4, hl316_0, hi316_0, hl316_1, hi316_1, hl316_2, hi316_2, hl316_3, hi316_3⟩ := Ak6 HR0.out q316
        have hw316_4 := hx316_4
        have hw316_3 := hx316_3
        have hw316_2 := hx316_2
        have hw316_1 := hx316_1
        have hw316_0 := hx316_0
        cases e316
        have qi316 : (0 < l0.length) = True := eq_true (by omega)
        replace hx316_0 := bcL HB.out hx316_0
        replace hx316_1 := bcL HB.out hx316_1
        replace hx316_2 := bcL HB.out hx316_2
        replace hx316_3 := bcL HB.out hx316_3
        replace hx316_4 := bcL HB.out hx316_4
        have HR316_0 := am hi316_0
        have HC316_0 := am hl316_0
        clear hi316_0 hl316_0
        have HR316_1 := am hi316_1
        have HC316_1 := am hl316_1
        clear hi316_1 hl316_1
        have HR316_2 := am hi316_2
        have HC316_2 := am hl316_2
        clear hi316_2 hl316_2
        have HR316_3 := am hi316_3
        have HC316_3 := am hl316_3
        clear hi316_3 hl316_3
        replace p316 := eq_true p316
        replace q316 := eq_true q316
        have p317 : 0 ≤ (0 : Int) := (by omega)
        have q317 : 0 < (l0.length : Int) := of_decide_eq_true (by first | (with_reducible assumption) | assumption)
        obtain ⟨ad317, A317_0, c317_0, A317_1, c317_1, A317_2, c317_2, A317_3, c317_3, e317, hx317_0, hx317_1, hx317_2, hx317_3, hx317_4, hl317_0, hi317_0, hl317_1, hi317_1, hl317_2, hi317_2, hl317_3, hi317_3⟩ := Ak6 HR0.out q317
        have hw317_4 := hx317_4
        have hw317_3 := hx317_3
        have hw317_2 := hx317_2
        have hw317_1 := hx317_1
        have hw317_0 := hx317_0
        obtain rfl : ad316 = ad317 := (by injection e317)
        have qi317 : (0 < l0.length) = True := eq_true (by omega)
        replace hx317_0 := bcL HB.out hx317_0
        replace hx317_1 := bcL HB.out hx317_1
        replace hx317_2 := bcL HB.out hx317_2
        replace hx317_3 := bcL HB.out hx317_3
        replace hx317_4 := bcL HB.out hx317_4
        have HR317_0 := am hi317_0
        have HC317_0 := am hl317_0
        clear hi317_0 hl317_0
        have HR317_1 := am hi317_1
        have HC317_1 := am hl317_1
        clear hi317_1 hl317_1
        have HR317_2 := am hi317_2
        have HC317_2 := am hl317_2
        clear hi317_2 hl317_2
        have HR317_3 := am hi317_3
        have HC317_3 := am hl317_3
        clear hi317_3 hl317_3
        replace p317 := eq_true p317
        replace q317 := eq_true q317
        have ea_ := Option.some.inj (hx316_0.symm.trans hx317_0)
        injection ea_ with ea_ en_ ec_
        subst ea_
        subst ec_
        clear en_
        have ea_ := Option.some.inj (hx316_1.symm.trans hx317_1)
        injection ea_ with ea_ en_ ec_
        subst ea_
        subst ec_
        clear en_
        have ea_ := Option.some.inj (hx316_2.symm.trans hx317_2)
        injection ea_ with ea_ en_ ec_
        subst ea_
        subst ec_
        clear en_
        have ea_ := Option.some.inj (hx316_3.symm.trans hx317_3)
        injection ea_ with ea_ en_ ec_
        subst ea_
        subst ec_
        clear en_
        have p318 : 0 ≤ (a1 : Int) := of_decide_eq_true (by first | (with_reducible assumption) | assumption)
        have q318 : a1 < (((Aa3 l0 0).f2).length : Int) := of_decide_eq_true (by first | (with_reducible assumption) | assumption)
        obtain ⟨ad318, e318, hx318_0⟩ := Kd.at_int HR317_2.out a1 p318 q318
        have hw318_0 := hx318_0
        cases e318
        replace hx318_0 := bcL HB.out hx318_0
        replace p318 := eq_true p318
        replace q318 := eq_true q318
        have p319 : 0 ≤ (0 : Int) := (by omega)
        have q319 : 0 < (l0.length : Int) := of_decide_eq_true (by first | (with_reducible assumption) | assumption)
        obtain ⟨ad319, A319_0, c319_0, A319_1, c319_1, A319_2, c319_2, A319_3, c319_3, e319, hx319_0, hx319_1, hx319_2, hx319_3, hx319_4, hl319_0, hi319_0, hl319_1, hi319_1, hl319_2, hi319_2, hl319_3, hi319_3⟩ := Ak6 HR0.out q319
        have hw319_4 := hx319_4
        have hw319_3 := hx319_3
        have hw319_2 := hx319_2
        have hw319_1 := hx319_1
        have hw319_0 := hx319_0
        obtain rfl : ad316 = ad319 := (by injection e319)
        have qi319 : (0 < l0.length) = True := eq_true (by omega)
        replace hx319_0 := bcL HB.out hx319_0
        replace hx319_1 := bcL HB.out hx319_1
        replace hx319_2 := bcL HB.out hx319_2
        replace hx319_3 := bcL HB.out hx319_3
        replace hx319_4 := bcL HB.out hx319_4
        have HR319_0 := am hi319_0
        have HC319_0 := am hl319_0
        clear hi319_0 hl319_0
        have HR319_1 := am hi319_1
        have HC319_1 := am hl319_1
        clear hi319_1 hl319_1
        have HR319_2 := am hi319_2
        have HC319_2 := am hl319_2
        clear hi319_2 hl319_2
        have HR319_3 := am hi319_3
        have HC319_3 := am hl319_3
        clear hi319_3 hl319_3
        replace p319 := eq_true p319
        replace q319 := eq_true q319
        have ea_ := Option.some.inj (hx316_0.symm.trans hx319_0)
        injection ea_ with ea_ en_ ec_
        subst ea_
        subst ec_
        clear en_
        have ea_ := Option.some.inj (hx316_1.symm.trans hx319_1)
        injection ea_ with ea_ en_ ec_
        subst ea_
        subst ec_
        clear en_
        have ea_ := Option.some.inj (hx316_2.symm.trans hx319_2)
        injection ea_ with ea_ en_ ec_
        subst ea_
        subst ec_
        clear en_
        have ea_ := Option.some.inj (hx316_3.symm.trans hx319_3)
        injection ea_ with ea_ en_ ec_
        subst ea_
        subst ec_
        clear en_
        have p320 : 0 ≤ (0 : Int) := (by omega)
        have q320 : 0 < (l0.length : Int) := of_decide_eq_true (by first | (with_reducible assumption) | assumption)
        obtain ⟨ad320, A320_0, c320_0, A320_1, c320_1, A320_2, c320_2, A320_3, c320_3, e320, hx320_0, hx320_1, hx320_2, hx320_3, hx320_4, hl320_0, hi320_0, hl320_1, hi320_1, hl320_2, hi320_2, hl320_3, hi320_3⟩ := Ak6 HR0.out q320
        have hw320_4 := hx320_4
        have hw320_3 := hx320_3
        have hw320_2 := hx320_2
        have hw320_1 := hx320_1
        have hw320_0 := hx320_0
        obtain rfl : ad316 = ad320 := (by injection e320)
        have qi320 : (0 < l0.length) = True := eq_true (by omega)
        replace hx320_0 := bcL HB.out hx320_0
        replace hx320_1 := bcL HB.out hx320_1
        replace hx320_2 := bcL HB.out hx320_2
        replace hx320_3 := bcL HB.out hx320_3
        replace hx320_4 := bcL HB.out hx320_4
        have HR320_0 := am hi320_0
        have HC320_0 := am hl320_0
        clear hi320_0 hl320_0
        have HR320_1 := am hi320_1
        have HC320_1 := am hl320_1
        clear hi320_1 hl320_1
        have HR320_2 := am hi320_2
        have HC320_2 := am hl320_2
        clear hi320_2 hl320_2
        have HR320_3 := am hi320_3
        have HC320_3 := am hl320_3
        clear hi320_3 hl320_3
        replace p320 := eq_true p320
        replace q320 := eq_true q320
        have ea_ := Option.some.inj (hx316_0.symm.trans hx320_0)
        injection ea_ with ea_ en_ ec_
        subst ea_
        subst ec_
        clear en_
        have ea_ := Option.some.inj (hx316_1.symm.trans hx320_1)
        injection ea_ with ea_ en_ ec_
        subst ea_
        subst ec_
        clear en_
        have ea_ := Option.some.inj (hx316_2.symm.trans hx320_2)
        injection ea_ with ea_ en_ ec_
        subst ea_
        subst ec_
        clear en_
        have ea_ := Option.some.inj (hx316_3.symm.trans hx320_3)
        injection ea_ with ea_ en_ ec_
        subst ea_
        subst ec_
        clear en_
        have p321 : 0 ≤ (a2 : Int) := of_decide_eq_true (by first | (with_reducible assumption) | assumption)
        have q321 : a2 < (((Aa3 l0 0).f3).length : Int) := of_decide_eq_true (by first | (with_reducible assumption) | assumption)
        obtain ⟨ad321, e321, hx321_0⟩ := Kd.at_int HR320_3.out a2 p321 q321
        have hw321_0 := hx321_0
        cases e321
        replace hx321_0 := bcL HB.out hx321_0
        replace p321 := eq_true p321
        replace q321 := eq_true q321
        refine Ae9 (n := 16) (S := fun w' => w'.cell? ad316 = some (.slice A316_0 ((Aa3 l0 0).f0.f0).length c316_0) ∧ w'.cell? ⟨ad316.block, ad316.off + 1, none⟩ = some (.slice A316_1 ((Aa3 l0 0).f1).length c316_1) ∧ w'.cell? ⟨ad316.block, ad316.off + 2, none⟩ = some (.slice (some ad318) ((Aa3 l0 0).f2).length c316_2) ∧ w'.cell? ⟨ad316.block, ad316.off + 3, none⟩ = some (.slice (some ad321) ((Aa3 l0 0).f3).length c316_3) ∧ w'.cell? ⟨ad316.block, ad316.off + 4, none⟩ = some (.map (some ((Aa3 l0 0).f4).toNat)) ∧ w'.cell? ad316 = some (.slice A316_0 ((Aa3 l0 0).f0.f0).length c316_0) ∧ w'.cell? ⟨ad316.block, ad316.off + 1, none⟩ = some (.slice A316_1 ((Aa3 l0 0).f1).length c316_1) ∧ w'.cell? ⟨ad316.block, ad316.off + 2, none⟩ = some (.slice (some ad318) ((Aa3 l0 0).f2).length c316_2) ∧ w'.cell? ⟨ad316.block, ad316.off + 3, none⟩ = some (.slice (some ad321) ((Aa3 l0 0).f3).length c316_3) ∧ w'.cell? ⟨ad316.block, ad316.off + 4, none⟩ = some (.map (some ((Aa3 l0 0).f4).toNat)) ∧ w'.cell? (ad318.add (a1).toNat) = some (.int .i64 (rd ((Aa3 l0 0).f2) a1)) ∧ w'.cell? ad316 = some (.slice A316_0 ((Aa3 l0 0).f0.f0).length c316_0) ∧ w'.cell? ⟨ad316.block, ad316.off + 1, none⟩ = some (.slice A316_1 ((Aa3 l0 0).f1).length c316_1) ∧ w'.cell? ⟨ad316.block, ad316.off + 2, none⟩ = some (.slice (some ad318) ((Aa3 l0 0).f2).length c316_2) ∧ w'.cell? ⟨ad316.block, ad316.off + 3, none⟩ = some (.slice (some ad321) ((Aa3 l0 0).f3).length c316_3) ∧ w'.cell? ⟨ad316.block, ad316.off + 4, none⟩ = some (.map (some ((Aa3 l0 0).f4).toNat)) ∧ w'.cell? ad316 = some (.slice A316_0 ((Aa3 l0 0).f0.f0).length c316_0) ∧ w'.cell? ⟨ad316.block, ad316.off + 1, none⟩ = some (.slice A316_1 ((Aa3 l0 0).f1).length c316_1) ∧ w'.cell? ⟨ad316.block, ad316.off + 2, none⟩ = some (.slice (some ad318) ((Aa3 l0 0).f2).length c316_2) ∧ w'.cell? ⟨ad316.block, ad316.off + 3, none⟩ = some (.slice (some ad321) ((Aa3 l0 0).f3).length c316_3) ∧ w'.cell? ⟨ad316.block, ad316.off + 4, none⟩ = some (.map (some ((Aa3 l0 0).f4).toNat)) ∧ w'.cell? (ad321.add (a2).toNat) = some (.int .i64 (rd ((Aa3 l0 0).f3) a2))) (ds := []) #[false, false, false, false, false, false, false, false, false, false, false, false, false, false, false, false] (by kernel_rfl) rfl rfl ⟨(bcL HB.out hw316_0), (bcL HB.out hw316_1), (bcL HB.out hw316_2), (bcL HB.out hw316_3), (bcL HB.out hw316_4), (bcL HB.out hw317_0), (bcL HB.out hw317_1), (bcL HB.out hw317_2), (bcL HB.out hw317_3), (bcL HB.out hw317_4), (bcL HB.out hw318_0), (bcL HB.out hw319_0), (bcL HB.out hw319_1), (bcL HB.out hw319_2), (bcL HB.out hw319_3), (bcL HB.out hw319_4), (bcL HB.out hw320_0), (bcL HB.out hw320_1), (bcL HB.out hw320_2), (bcL HB.out hw320_3), (bcL HB.out hw320_4), (bcL HB.out hw321_0)⟩ (fun hHeld => ?_); refine Ad1 impl_comparer_isGreater.tab1 impl_comparer_isGreater.bits1 (fun HT_ HW_ => ?_)
        generalize w.drew = w20 at HB HR316_0 HR316_1 HR316_2 HR316_3 HR317_0 HR317_1 HR317_2 HR317_3 HR319_0 HR319_1 HR319_2 HR319_3 HR320_0 HR320_1 HR320_2 HR320_3 hx316_0 hx316_1 hx316_2 hx316_3 hx316_4 hx317_0 hx317_1 hx317_2 hx317_3 hx317_4 hx318_0 hx319_0 hx319_1 hx319_2 hx319_3 hx319_4 hx320_0 hx320_1 hx320_2 hx320_3 hx320_4 hx321_0 hHeld ⊢
        refine Ab2 (i := 0) (N := some 18) (v := ?_) (a' := ?_) #[true, false, false, false, false, false, false, false, false, false, false, false, false, false, false, false] rfl rfl (Aa9 HT_.out (by kernel_rfl)) (fun _ _ _ h => h) (Or.inl ⟨by rfl, ?_⟩) ?_ ?_
        rotate_left
        ·intro w'
         go_simp
         with_reducible rfl
        rotate_left
        ·simp only [Act.put, lsp, Aa8, Ab0]
         rfl
        refine Ab2 (i := 1) (N := some 19) (v := ?_) (a' := ?_) #[true, true, false, false, false, false, false, false, false, false, false, false, false, false, false, false] rfl rfl (Aa9 HT_.out (by kernel_rfl)) (fun _ _ _ h => h) (Or.inl ⟨by rfl, ?_⟩) ?_ ?_
        rotate_left
        ·intro w'
         go_simp
         with_reducible rfl
        rotate_left
        ·simp only [Act.put, lsp, Aa8, Ab0]
         rfl
        refine Ab2 (i := 2) (N := some 20) (v := ?_) (a' := ?_) #[true, true, true, false, false, false, false, false, false, false, false, false, false, false, false, false] rfl rfl (Aa9 HT_.out (by kernel_rfl)) (fun _ _ _ h => h) (Or.inl ⟨by rfl, ?_⟩) ?_ ?_
        rotate_left
        ·intro w'
         go_simp
         with_reducible rfl
        rotate_left
        ·simp only [Act.put, lsp, Aa8, Ab0]
         rfl
        refine Ab2 (i := 4) (N := some 22) (v := ?_) (a' := ?_) #[true, true, true, false, true, false, false, false, false, false, false, false, false, false, false, false] rfl rfl (Aa9 HT_.out (by kernel_rfl)) (fun _ _ _ h => h) (Or.inl ⟨by rfl, ?_⟩) ?_ ?_
        rotate_left
        ·intro w'
         go_simp
         with_reducible rfl
        rotate_left
        ·simp only [Act.put, lsp, Aa8, Ab0]
         rfl
        refine Ab2 (i := 7) (N := some 25) (v := ?_) (a' := ?_) #[true, true, true, false, true, false, false, true, false, false, false, false, false, false, false, false] rfl rfl (Aa9 HT_.out (by kernel_rfl)) (fun _ _ _ h => h) (Or.inl ⟨by rfl, ?_⟩) ?_ ?_
        rotate_left
        ·intro w'
         go_simp
         with_reducible rfl
        rotate_left
        ·simp only [Act.put, lsp, Aa8, Ab0]
         rfl
        refine Ab2 (i := 8) (N := some 26) (v := ?_) (a' := ?_) #[true, true, true, false, true, false, false, true, true, false, false, false, false, false, false, false] rfl rfl (Aa9 HT_.out (by kernel_rfl)) (fun _ _ _ h => h) (Or.inl ⟨by rfl, ?_⟩) ?_ ?_
        rotate_left
        ·intro w'
         go_simp
         with_reducible rfl
        rotate_left
        ·simp only [Act.put, lsp, Aa8, Ab0]
         rfl
        refine Ab2 (i := 9) (N := some 27) (v := ?_) (a' := ?_) #[true, true, true, false, true, false, false, true, true, true, false, false, false, false, false, false] rfl rfl (Aa9 HT_.out (by kernel_rfl)) (fun _ _ _ h => h) (Or.inl ⟨by rfl, ?_⟩) ?_ ?_
        rotate_left
        ·intro w'
         go_simp
         with_reducible rfl
        rotate_left
        ·simp only [Act.put, lsp, Aa8, Ab0]
         rfl
        refine Ab2 (i := 11) (N := some 29) (v := ?_) (a' := ?_) #[true, true, true, false, true, false, false, true, true, true, false, true, false, false, false, false] rfl rfl (Aa9 HT_.out (by kernel_rfl)) (fun _ _ _ h => h) (Or.inl ⟨by rfl, ?_⟩) ?_ ?_
        rotate_left
        ·intro w'
         go_simp
         with_reducible rfl
        rotate_left
        ·simp only [Act.put, lsp, Aa8, Ab0]
         rfl
        refine take_ (i := 3) (N := some 21) (v := ?_) (a' := ?_) #[true, true, true, true, true, false, false, true, true, true, false, true, false, false, false, false] rfl rfl (Ac0 HT_.out HW_.out (by kernel_rfl)) (fun _ _ _ h => h) (Or.inl ⟨by rfl, ?_⟩) hHeld ?_ ?_
        rotate_left
        ·rintro w' ⟨s0, s1, s2, s3, s4, s5, s6, s7, s8, s9, s10, s11, s12, s13, s14, s15, s16, s17, s18, s19, s20, s21⟩
         go_simp
         with_reducible rfl
        rotate_left
        ·simp only [Act.put, lsp, Aa8, Ab0]
         rfl
        refine Ab2 (i := 5) (N := some 23) (v := ?_) (a' := ?_) #[true, true, true, true, true, true, false, true, true, true, false, true, false, false, false, false] rfl rfl (Aa9 HT_.out (by kernel_rfl)) (fun _ _ _ h => h) (Or.inl ⟨by rfl, ?_⟩) ?_ ?_
        rotate_left
        ·intro w'
         go_simp
         with_reducible rfl
        rotate_left
        ·simp only [Act.put, lsp, Aa8, Ab0]
         rfl
        refine take_ (i := 6) (N := some 24) (v := ?_) (a' := ?_) #[true, true, true, true, true, true, true, true, true, true, false, true, false, false, false, false] rfl rfl (Ac0 HT_.out HW_.out (by kernel_rfl)) (fun _ _ _ h => h) (Or.inl ⟨by rfl, ?_⟩) hHeld ?_ ?_
        rotate_left
        ·rintro w' ⟨s0, s1, s2, s3, s4, s5, s6, s7, s8, s9, s10, s11, s12, s13, s14, s15, s16, s17, s18, s19, s20, s21⟩
         go_simp
         with_reducible rfl
        rotate_left
        ·simp only [Act.put, lsp, Aa8, Ab0]
         rfl
        refine Ab2 (i := 14) (N := some 7) (v := ?_) (a' := ?_) #[true, true, true, true, true, true, true, true, true, true, false, true, false, false, true, false] rfl rfl (Aa9 HT_.out (by kernel_rfl)) (fun _ _ _ h => h) (Or.inl ⟨by rfl, ?_⟩) ?_ ?_
        rotate_left
        ·intro w'
         go_simp
         with_reducible rfl
        rotate_left
        ·simp only [Act.put, lsp, Aa8, Ab0]
         rfl
        refine take_ (i := 10) (N := some 28) (v := ?_) (a' := ?_) #[true, true, true, true, true, true, true, true, true, true, true, true, false, false, true, false] rfl rfl (Ac0 HT_.out HW_.out (by kernel_rfl)) (fun _ _ _ h => h) (Or.inl ⟨by rfl, ?_⟩) hHeld ?_ ?_
        rotate_left
        ·rintro w' ⟨s0, s1, s2, s3, s4, s5, s6, s7, s8, s9, s10, s11, s12, s13, s14, s15, s16, s17, s18, s19, s20, s21⟩
         go_simp
         with_reducible rfl
        rotate_left
        ·simp only [Act.put, lsp, Aa8, Ab0]
         rfl
        refine Ab2 (i := 12) (N := some 30) (v := ?_) (a' := ?_) #[true, true, true, true, true, true, true, true, true, true, true, true, true, false, true, false] rfl rfl (Aa9 HT_.out (by kernel_rfl)) (fun _ _ _ h => h) (Or.inl ⟨by rfl, ?_⟩) ?_ ?_
        rotate_left
        ·intro w'
         go_simp
         with_reducible rfl
        rotate_left
        ·simp only [Act.put, lsp, Aa8, Ab0]
         rfl
        refine take_ (i := 13) (N := some 31) (v := ?_) (a' := ?_) #[true, true, true, true, true, true, true, true, true, true, true, true, true, true, true, false] rfl rfl (Ac0 HT_.out HW_.out (by kernel_rfl)) (fun _ _ _ h => h) (Or.inl ⟨by rfl, ?_⟩) hHeld ?_ ?_
        rotate_left
        ·rintro w' ⟨s0, s1, s2, s3, s4, s5, s6, s7, s8, s9, s10, s11, s12, s13, s14, s15, s16, s17, s18, s19, s20, s21⟩
         go_simp
         with_reducible rfl
        rotate_left
        ·simp only [Act.put, lsp, Aa8, Ab0]
         rfl
        refine Ab2 (i := 15) (N := some 8) (v := ?_) (a' := ?_) #[true, true, true, true, true, true, true, true, true, true, true, true, true, true, true, true] rfl rfl (Aa9 HT_.out (by kernel_rfl)) (fun _ _ _ h => h) (Or.inl ⟨by rfl, ?_⟩) ?_ ?_
        rotate_left
        ·intro w'
         go_simp
         with_reducible rfl
        rotate_left
        ·simp only [Act.put, lsp, Aa8, Ab0]
         rfl
        refine Ah2 (Ae1 HT_.out (by kernel_rfl)) ?_
        try go_wp2
        go_ret
        exact ⟨by first | rfl | (simp [Aa0, Aa1] <;> rfl) | (simp [*, Aa0, Aa1] <;> rfl), Bel.of HI.out (hq HB.out)⟩
       ·rw [if_neg c19] at H
        have c19b0 : decide ((rd ((Aa3 l0 0).f2) a1) < 0) = false := decide_eq_false c19
        clear c19
        replace H := Option.bind_eq_some_iff.mp H
        obtain ⟨t334, A210, H⟩ := H
        replace H : ((impl_argumentsOf.f k ((Aa3 l0 0).f0.f0) ((Aa3 l0 0).f3) a2).bind fun t341 => (impl_comparer_isGreater.l0 g k l0 a1 a2 (rd ((Aa3 l0 0).f2) a1) (rd ((Aa3 l0 0).f3) a2) t334 t341 t334 (t334.length : Int) 0)) = some r := H
        have A21 := am A210
        clear A210
        replace H := Option.bind_eq_some_iff.mp H
        obtain ⟨t341, A220, H⟩ := H
        replace H : (impl_comparer_isGreater.l0 g k l0 a1 a2 (rd ((Aa3 l0 0).f2) a1) (rd ((Aa3 l0 0).f3) a2) t334 t341 t334 (t334.length : Int) 0) = some r := H
        have A22 := am A220
        clear A220
        have H' := am H
        clear H
        go_enter Tryd.func68, Tryd.ntmps68
        try go_wp2
        have n0_ := am (Ac2 HB.out)
        clear HB; revert n0_; intro HB
        have p316 : 0 ≤ (0 : Int) := (by omega)
        have q316 : 0 < (l0.length : Int) := of_decide_eq_true (by first | (with_reducible assumption) | assumption)
        obtain ⟨ad316, A316_0, c316_0, A316_1, c316_1, A316_2, c316_2, A316_3, c316_3, e316, hx316_0, hx316_1, hx316_2, hx316_3, hx316_4, hl316_0, hi316_0, hl316_1, hi316_1, hl316_2, hi316_2, hl316_3, hi316_3⟩ := Ak6 HR0.out q316
        have hw316_4 := hx316_4
        have hw316_3 := hx316_3
        have hw316_2 := hx316_2
        have hw316_1 := hx316_1
        have hw316_0 := hx316_0
        cases e316
        have qi316 : (0 < l0.length) = True := eq_true (by omega)
        replace hx316_0 := bcL HB.out hx316_0
        replace hx316_1 := bcL HB.out hx316_1
        replace hx316_2 := bcL HB.out hx316_2
        replace hx316_3 := bcL HB.out hx316_3
        replace hx316_4 := bcL HB.out hx316_4
        have HR316_0 := am hi316_0
        have HC316_0 := am hl316_0
        clear hi316_0 hl316_0
        have HR316_1 := am hi316_1
        have HC316_1 := am hl316_1
        clear hi316_1 hl316_1
        have HR316_2 := am hi316_2
        have HC316_2 := am hl316_2
        clear hi316_2 hl316_2
        have HR316_3 := am hi316_3
        have HC316_3 := am hl316_3
        clear hi316_3 hl316_3
        replace p316 := eq_true p316
        replace q316 := eq_true q316
        have p317 : 0 ≤ (0 : Int) := (by omega)
        have q317 : 0 < (l0.length : Int) := of_decide_eq_true (by first | (with_reducible assumption) | assumption)
        obtain ⟨ad317, A317_0, c317_0, A317_1, c317_1, A317_2, c317_2, A317_3, c317_3, e317, hx317_0, hx317_1, hx317_2, hx317_3, hx317_4, hl317_0, hi317_0, hl317_1, hi317_1, hl317_2, hi317_2, hl317_3, hi317_3⟩ := Ak6 HR0.out q317
        have hw317_4 := hx317_4
        have hw317_3 := hx317_3
        have hw317_2 := hx317_2
        have hw317_1 := hx317_1
        have hw317_0 := hx317_0
        obtain rfl : ad316 = ad317 := (by injection e317)
        have qi317 : (0 < l0.length) = True := eq_true (by omega)
        replace hx317_0 := bcL HB.out hx317_0
        replace hx317_1 := bcL HB.out hx317_1
        replace hx317_2 := bcL HB.out hx317_2
        replace hx317_3 := bcL HB.out hx317_3
        replace hx317_4 := bcL HB.out hx317_4
        have HR317_0 := am hi317_0
        have HC317_0 := am hl317_0
        clear hi317_0 hl317_0
        have HR317_1 := am hi317_1
        have HC317_1 := am hl317_1
        clear hi317_1 hl317_1
        have HR317_2 := am hi317_2
        have HC317_2 := am hl317_2
        clear hi317_2 hl317_2
        have HR317_3 := am hi317_3
        have HC317_3 := am hl317_3
        clear hi317_3 hl317_3
        replace p317 := eq_true p317
        replace q317 := eq_true q317
        have ea_ := Option.some.inj (hx316_0.symm.trans hx317_0)
        injection ea_ with ea_ en_ ec_
        subst ea_
        subst ec_
        clear en_
        have ea_ := Option.some.inj (hx316_1.symm.trans hx317_1)
        injection ea_ with ea_ en_ ec_
        subst ea_
        subst ec_
        clear en_
        have ea_ := Option.some.inj (hx316_2.symm.trans hx317_2)
        injection ea_ with ea_ en_ ec_
        subst ea_
        subst ec_
        clear en_
        have ea_ := Option.some.inj (hx316_3.symm.trans hx317_3)
        injection ea_ with ea_ en_ ec_
        subst ea_
        subst ec_
        clear en_
        have p318 : 0 ≤ (a1 : Int) := of_decide_eq_true (by first | (with_reducible assumption) | assumption)
        have q318 : a1 < (((Aa3 l0 0).f2).length : Int) := of_decide_eq_true (by first | (with_reducible assumption) | assumption)
        obtain ⟨ad318, e318, hx318_0⟩ := Kd.at_int HR317_2.out a1 p318 q318
        have hw318_0 := hx318_0
        cases e318
        replace hx318_0 := bcL HB.out hx318_0
        replace p318 := eq_true p318
        replace q318 := eq_true q318
        have p319 : 0 ≤ (0 : Int) := (by omega)
        have q319 : 0 < (l0.length : Int) := of_decide_eq_true (by first | (with_reducible assumption) | assumption)
        obtain ⟨ad319, A319_0, c319_0, A319_1, c319_1, A319_2, c319_2, A319_3, c319_3, e319, hx319_0, hx319_1, hx319_2, hx319_3, hx319_4, hl319_0, hi319_0, hl319_1, hi319_1, hl319_2, hi319_2, hl319_3, hi319_3⟩ := Ak6 HR0.out q319
        have hw319_4 := hx319_4
        have hw319_3 := hx319_3
        have hw319_2 := hx319_2
        have hw319_1 := hx319_1
        have hw319_0 := hx319_0
        obtain rfl : ad316 = ad319 := (by injection e319)
        have qi319 : (0 < l0.length) = True := eq_true (by omega)
        replace hx319_0 := bcL HB.out hx319_0
        replace hx319_1 := bcL HB.out hx319_1
        replace hx319_2 := bcL HB.out hx319_2
        replace hx319_3 := bcL HB.out hx319_3
        replace hx319_4 := bcL HB.out hx319_4
        have HR319_0 := am hi319_0
        have HC319_0 := am hl319_0
        clear hi319_0 hl319_0
        have HR319_1 := am hi319_1
        have HC319_1 := am hl319_1
        clear hi319_1 hl319_1
        have HR319_2 := am hi319_2
        have HC319_2 := am hl319_2
        clear hi319_2 hl319_2
        have HR319_3 := am hi319_3
        have HC319_3 := am hl319_3
        clear hi319_3 hl319_3
        replace p319 := eq_true p319
        replace q319 := eq_true q319
        have ea_ := Option.some.inj (hx316_0.symm.trans hx319_0)
        injection ea_ with ea_ en_ ec_
        subst ea_
        subst ec_
        clear en_
        have ea_ := Option.some.inj (hx316_1.symm.trans hx319_1)
        injection ea_ with ea_ en_ ec_
        subst ea_
        subst ec_
        clear en_
        have ea_ := Option.some.inj (hx316_2.symm.trans hx319_2)
        injection ea_ with ea_ en_ ec_
        subst ea_
        subst ec_
        clear en_
        have ea_ := Option.some.inj (hx316_3.symm.trans hx319_3)
        injection ea_ with ea_ en_ ec_
        subst ea_
        subst ec_
        clear en_
        have p320 : 0 ≤ (0 : Int) := (by omega)
        have q320 : 0 < (l0.length : Int) := of_decide_eq_true (by first | (with_reducible assumption) | assumption)
        obtain ⟨ad320, A320_0, c320_0, A320_1, c320_1, A320_2, c320_2, A320_3, c320_3, e320, hx320_0, hx320_1, hx320_2, hx320_3, hx320_4, hl320_0, hi320_0, hl320_1, hi320_1, hl320_2, hi320_2, hl320_3, hi320_3⟩ := Ak6 HR0.out q320
        have hw320_4 := hx320_4
        have hw320_3 := hx320_3
        have hw320_2 := hx320_2
        have hw320_1 := hx320_1
        have hw320_0 := hx320_0
        obtain rfl : ad316 = ad320 := (by injection e320)
        have qi320 : (0 < l0.length) = True := eq_true (by omega)
        replace hx320_0 := bcL HB.out hx320_0
        replace hx320_1 := bcL HB.out hx320_1
        replace hx320_2 := bcL HB.out hx320_2
        replace hx320_3 := bcL HB.out hx320_3
        replace hx320_4 := bcL HB.out hx320_4
        have HR320_0 := am hi320_0
        have HC320_0 := am hl320_0
        clear hi320_0 hl320_0
        have HR320_1 := am hi320_1
        have HC320_1 := am hl320_1
        clear hi320_1 hl320_1
        have HR320_2 := am hi320_2
        have HC320_2 := am hl320_2
        clear hi320_2 hl320_2
        have HR320_3 := am hi320_3
        have HC320_3 := am hl320_3
        clear hi320_3 hl320_3
        replace p320 := eq_true p320
        replace q320 := eq_true q320
        have ea_ := Option.some.inj (hx316_0.symm.trans hx320_0)
        injection ea_ with ea_ en_ ec_
        subst ea_
        subst ec_
        clear en_
        have ea_ := Option.some.inj (hx316_1.symm.trans hx320_1)
        injection ea_ with ea_ en_ ec_
        subst ea_
        subst ec_
        clear en_
        have ea_ := Option.some.inj (hx316_2.symm.trans hx320_2)
        injection ea_ with ea_ en_ ec_
        subst ea_
        subst ec_
        clear en_
        have ea_ := Option.some.inj (hx316_3.symm.trans hx320_3)
        injection ea_ with ea_ en_ ec_
        subst ea_
        subst ec_
        clear en_
        have p321 : 0 ≤ (a2 : Int) := of_decide_eq_true (by first | (with_reducible assumption) | assumption)
        have q321 : a2 < (((Aa3 l0 0).f3).length : Int) := of_decide_eq_true (by first | (with_reducible assumption) | assumption)
        obtain ⟨ad321, e321, hx321_0⟩ := Kd.at_int HR320_3.out a2 p321 q321
        have hw321_0 := hx321_0
        cases e321
        replace hx321_0 := bcL HB.out hx321_0
        replace p321 := eq_true p321
        replace q321 := eq_true q321
        refine Ae9 (n := 16) (S := fun w' => w'.cell? ad316 = some (.slice A316_0 ((Aa3 l0 0).f0.f0).length c316_0) ∧ w'.cell? ⟨ad316.block, ad316.off + 1, none⟩ = some (.slice A316_1 ((Aa3 l0 0).f1).length c316_1) ∧ w'.cell? ⟨ad316.block, ad316.off + 2, none⟩ = some (.slice (some ad318) ((Aa3 l0 0).f2).length c316_2) ∧ w'.cell? ⟨ad316.block, ad316.off + 3, none⟩ = some (.slice (some ad321) ((Aa3 l0 0).f3).length c316_3) ∧ w'.cell? ⟨ad316.block, ad316.off + 4, none⟩ = some (.map (some ((Aa3 l0 0).f4).toNat)) ∧ w'.cell? ad316 = some (.slice A316_0 ((Aa3 l0 0).f0.f0).length c316_0) ∧ w'.cell? ⟨ad316.block, ad316.off + 1, none⟩ = some (.slice A316_1 ((Aa3 l0 0).f1).length c316_1) ∧ w'.cell? ⟨ad316.block, ad316.off + 2, none⟩ = some (.slice (some ad318) ((Aa3 l0 0).f2).length c316_2) ∧ w'.cell? ⟨ad316.block, ad316.off + 3, none⟩ = some (.slice (some ad321) ((Aa3 l0 0).f3).length c316_3) ∧ w'.cell? ⟨ad316.block, ad316.off + 4, none⟩ = some (.map (some ((Aa3 l0 0).f4).toNat)) ∧ w'.cell? (ad318.add (a1).toNat) = some (.int .i64 (rd ((Aa3 l0 0).f2) a1)) ∧ w'.cell? ad316 = some (.slice A316_0 ((Aa3 l0 0).f0.f0).length c316_0) ∧ w'.cell? ⟨ad316.block, ad316.off + 1, none⟩ = some (.slice A316_1 ((Aa3 l0 0).f1).length c316_1) ∧ w'.cell? ⟨ad316.block, ad316.off + 2, none⟩ = some (.slice (some ad318) ((Aa3 l0 0).f2).length c316_2) ∧ w'.cell? ⟨ad316.block, ad316.off + 3, none⟩ = some (.slice (some ad321) ((Aa3 l0 0).f3).length c316_3) ∧ w'.cell? ⟨ad316.block, ad316.off + 4, none⟩ = some (.map (some ((Aa3 l0 0).f4).toNat)) ∧ w'.cell? ad316 = some (.slice A316_0 ((Aa3 l0 0).f0.f0).length c316_0) ∧ w'.cell? ⟨ad316.block, ad316.off + 1, none⟩ = some (.slice A316_1 ((Aa3 l0 0).f1).length c316_1) ∧ w'.cell? ⟨ad316.block, ad316.off + 2, none⟩ = some (.slice (some ad318) ((Aa3 l0 0).f2).length c316_2) ∧ w'.cell? ⟨ad316.block, ad316.off + 3, none⟩ = some (.slice (some ad321) ((Aa3 l0 0).f3).length c316_3) ∧ w'.cell? ⟨ad316.block, ad316.off + 4, none⟩ = some (.map (some ((Aa3 l0 0).f4).toNat)) ∧ w'.cell? (ad321.add (a2).toNat) = some (.int .i64 (rd ((Aa3 l0 0).f3) a2))) (ds := []) #[false, false, false, false, false, false, false, false, false, false, false, false, false, false, false, false] (by kernel_rfl) rfl rfl ⟨(bcL HB.out hw316_0), (bcL HB.out hw316_1), (bcL HB.out hw316_2), (bcL HB.out hw316_3), (bcL HB.out hw316_4), (bcL HB.out hw317_0), (bcL HB.out hw317_1), (bcL HB.out hw317_2), (bcL HB.out hw317_3), (bcL HB.out hw317_4), (bcL HB.out hw318_0), (bcL HB.out hw319_0), (bcL HB.out hw319_1), (bcL HB.out hw319_2), (bcL HB.out hw319_3), (bcL HB.out hw319_4), (bcL HB.out hw320_0), (bcL HB.out hw320_1), (bcL HB.out hw320_2), (bcL HB.out hw320_3), (bcL HB.out hw320_4), (bcL HB.out hw321_0)⟩ (fun hHeld => ?_); refine Ad1 impl_comparer_isGreater.tab1 impl_comparer_isGreater.bits1 (fun HT_ HW_ => ?_)
        generalize w.drew = w23 at HB HR316_0 HR316_1 HR316_2 HR316_3 HR317_0 HR317_1 HR317_2 HR317_3 HR319_0 HR319_1 HR319_2 HR319_3 HR320_0 HR320_1 HR320_2 HR320_3 hx316_0 hx316_1 hx316_2 hx316_3 hx316_4 hx317_0 hx317_1 hx317_2 hx317_3 hx317_4 hx318_0 hx319_0 hx319_1 hx319_2 hx319_3 hx319_4 hx320_0 hx320_1 hx320_2 hx320_3 hx320_4 hx321_0 hHeld ⊢
        refine Ab2 (i := 0) (N := some 18) (v := ?_) (a' := ?_) #[true, false, false, false, false, false, false, false, false, false, false, false, false, false, false, false] rfl rfl (Aa9 HT_.out (by kernel_rfl)) (fun _ _ _ h => h) (Or.inl ⟨by rfl, ?_⟩) ?_ ?_
        rotate_left
        ·intro w'
         go_simp
         with_reducible rfl
        rotate_left
        ·simp only [Act.put, lsp, Aa8, Ab0]
         rfl
        refine Ab2 (i := 1) (N := some 19) (v := ?_) (a' := ?_) #[true, true, false, false, false, false, false, false, false, false, false, false, false, false, false, false] rfl rfl (Aa9 HT_.out (by kernel_rfl)) (fun _ _ _ h => h) (Or.inl ⟨by rfl, ?_⟩) ?_ ?_
        rotate_left
        ·intro w'
         go_simp
         with_reducible rfl
        rotate_left
        ·simp only [Act.put, lsp, Aa8, Ab0]
         rfl
        refine Ab2 (i := 2) (N := some 20) (v := ?_) (a' := ?_) #[true, true, true, false, false, false, false, false, false, false, false, false, false, false, false, false] rfl rfl (Aa9 HT_.out (by kernel_rfl)) (fun _ _ _ h => h) (Or.inl ⟨by rfl, ?_⟩) ?_ ?_
        rotate_left
        ·intro w'
         go_simp
         with_reducible rfl
        rotate_left
        ·simp only [Act.put, lsp, Aa8, Ab0]
         rfl
        refine Ab2 (i := 4) (N := some 22) (v := ?_) (a' := ?_) #[true, true, true, false, true, false, false, false, false, false, false, false, false, false, false, false] rfl rfl (Aa9 HT_.out (by kernel_rfl)) (fun _ _ _ h => h) (Or.inl ⟨by rfl, ?_⟩) ?_ ?_
        rotate_left
        ·intro w'
         go_simp
         with_reducible rfl
        rotate_left
        ·simp only [Act.put, lsp, Aa8, Ab0]
         rfl
        refine Ab2 (i := 7) (N := some 25) (v := ?_) (a' := ?_) #[true, true, true, false, true, false, false, true, false, false, false, false, false, false, false, false] rfl rfl (Aa9 HT_.out (by kernel_rfl)) (fun _ _ _ h => h) (Or.inl ⟨by rfl, ?_⟩) ?_ ?_
        rotate_left
        ·intro w'
         go_simp
         with_reducible rfl
        rotate_left
        ·simp only [Act.put, lsp, Aa8, Ab0]
         rfl
        refine Ab2 (i := 8) (N := some 26) (v := ?_) (a' := ?_) #[true, true, true, false, true, false, false, true, true, false, false, false, false, false, false, false] rfl rfl (Aa9 HT_.out (by kernel_rfl)) (fun _ _ _ h => h) (Or.inl ⟨by rfl, ?_⟩) ?_ ?_
        rotate_left
        ·intro w'
         go_simp
         with_reducible rfl
        rotate_left
        ·simp only [Act.put, lsp, Aa8, Ab0]
         rfl
        refine Ab2 (i := 9) (N := some 27) (v := ?_) (a' := ?_) #[true, true, true, false, true, false, false, true, true, true, false, false, false, false, false, false] rfl rfl (Aa9 HT_.out (by kernel_rfl)) (fun _ _ _ h => h) (Or.inl ⟨by rfl, ?_⟩) ?_ ?_
        rotate_left
        ·intro w'
         go_simp
         with_reducible rfl
        rotate_left
        ·simp only [Act.put, lsp, Aa8, Ab0]
         rfl
        refine Ab2 (i := 11) (N := some 29) (v := ?_) (a' := ?_) #[true, true, true, false, true, false, false, true, true, true, false, true, false, false, false, false] rfl rfl (Aa9 HT_.out (by kernel_rfl)) (fun _ _ _ h => h) (Or.inl ⟨by rfl, ?_⟩) ?_ ?_
        rotate_left
        ·intro w'
         go_simp
         with_reducible rfl
        rotate_left
        ·simp only [Act.put, lsp, Aa8, Ab0]
         rfl
        refine take_ (i := 3) (N := some 21) (v := ?_) (a' := ?_) #[true, true, true, true, true, false, false, true, true, true, false, true, false, false, false, false] rfl rfl (Ac0 HT_.out HW_.out (by kernel_rfl)) (fun _ _ _ h => h) (Or.inl ⟨by rfl, ?_⟩) hHeld ?_ ?_
        rotate_left
        ·rintro w' ⟨s0, s1, s2, s3, s4, s5, s6, s7, s8, s9, s10, s11, s12, s13, s14, s15, s16, s17, s18, s19, s20, s21⟩
         go_simp
         with_reducible rfl
        rotate_left
        ·simp only [Act.put, lsp, Aa8, Ab0]
         rfl
        refine Ab2 (i := 5) (N := some 23) (v := ?_) (a' := ?_) #[true, true, true, true, true, true, false, true, true, true, false, true, false, false, false, false] rfl rfl (Aa9 HT_.out (by kernel_rfl)) (fun _ _ _ h => h) (Or.inl ⟨by rfl, ?_⟩) ?_ ?_
        rotate_left
        ·intro w'
         go_simp
         with_reducible rfl
        rotate_left
        ·simp only [Act.put, lsp, Aa8, Ab0]
         rfl
        refine take_ (i := 6) (N := some 24) (v := ?_) (a' := ?_) #[true, true, true, true, true, true, true, true, true, true, false, true, false, false, false, false] rfl rfl (Ac0 HT_.out HW_.out (by kernel_rfl)) (fun _ _ _ h => h) (Or.inl ⟨by rfl, ?_⟩) hHeld ?_ ?_
        rotate_left
        ·rintro w' ⟨s0, s1, s2, s3, s4, s5, s6, s7, s8, s9, s10, s11, s12, s13, s14, s15, s16, s17, s18, s19, s20, s21⟩
         go_simp
         with_reducible rfl
        rotate_left
        ·simp only [Act.put, lsp, Aa8, Ab0]
         rfl
        refine Ab2 (i := 14) (N := some 7) (v := ?_) (a' := ?_) #[true, true, true, true, true, true, true, true, true, true, false, true, false, false, true, false] rfl rfl (Aa9 HT_.out (by kernel_rfl)) (fun _ _ _ h => h) (Or.inl ⟨by rfl, ?_⟩) ?_ ?_
        rotate_left
        ·intro w'
         go_simp
         with_reducible rfl
        rotate_left
        ·simp only [Act.put, lsp, Aa8, Ab0]
         rfl
        refine take_ (i := 10) (N := some 28) (v := ?_) (a' := ?_) #[true, true, true, true, true, true, true, true, true, true, true, true, false, false, true, false] rfl rfl (Ac0 HT_.out HW_.out (by kernel_rfl)) (fun _ _ _ h => h) (Or.inl ⟨by rfl, ?_⟩) hHeld ?_ ?_
        rotate_left
        ·rintro w' ⟨s0, s1, s2, s3, s4, s5, s6, s7, s8, s9, s10, s11, s12, s13, s14, s15, s16, s17, s18, s19, s20, s21⟩
         go_simp
         with_reducible rfl
        rotate_left
        ·simp only [Act.put, lsp, Aa8, Ab0]
         rfl
        refine Ab2 (i := 12) (N := some 30) (v := ?_) (a' := ?_) #[true, true, true, true, true, true, true, true, true, true, true, true, true, false, true, false] rfl rfl (Aa9 HT_.out (by kernel_rfl)) (fun _ _ _ h => h) (Or.inl ⟨by rfl, ?_⟩) ?_ ?_
        rotate_left
        ·intro w'
         go_simp
         with_reducible rfl
        rotate_left
        ·simp only [Act.put, lsp, Aa8, Ab0]
         rfl
        refine take_ (i := 13) (N := some 31) (v := ?_) (a' := ?_) #[true, true, true, true, true, true, true, true, true, true, true, true, true, true, true, false] rfl rfl (Ac0 HT_.out HW_.out (by kernel_rfl)) (fun _ _ _ h => h) (Or.inl ⟨by rfl, ?_⟩) hHeld ?_ ?_
        rotate_left
        ·rintro w' ⟨s0, s1, s2, s3, s4, s5, s6, s7, s8, s9, s10, s11, s12, s13, s14, s15, s16, s17, s18, s19, s20, s21⟩
         go_simp
         with_reducible rfl
        rotate_left
        ·simp only [Act.put, lsp, Aa8, Ab0]
         rfl
        refine Ab2 (i := 15) (N := some 8) (v := ?_) (a' := ?_) #[true, true, true, true, true, true, true, true, true, true, true, true, true, true, true, true] rfl rfl (Aa9 HT_.out (by kernel_rfl)) (fun _ _ _ h => h) (Or.inl ⟨by rfl, ?_⟩) ?_ ?_
        rotate_left
        ·intro w'
         go_simp
         with_reducible rfl
        rotate_left
        ·simp only [Act.put, lsp, Aa8, Ab0]
         rfl
        refine Ah2 (Ae1 HT_.out (by kernel_rfl)) ?_
        try go_wp2
        have n0_ := am (Ac2 HB.out)
        clear HB; revert n0_; intro HB
        have p330 : 0 ≤ (0 : Int) := (by omega)
        have q330 : 0 < (l0.length : Int) := of_decide_eq_true (by first | (with_reducible assumption) | assumption)
        obtain ⟨ad330, A330_0, c330_0, A330_1, c330_1, A330_2, c330_2, A330_3, c330_3, e330, hx330_0, hx330_1, hx330_2, hx330_3, hx330_4, hl330_0, hi330_0, hl330_1, hi330_1, hl330_2, hi330_2, hl330_3, hi330_3⟩ := Ak6 HR0.out q330
        have hw330_4 := hx330_4
        have hw330_3 := hx330_3
        have hw330_2 := hx330_2
        have hw330_1 := hx330_1
        have hw330_0 := hx330_0
        obtain rfl : ad316 = ad330 := (by injection e330)
        have qi330 : (0 < l0.length) = True := eq_true (by omega)
        replace hx330_0 := bcL HB.out hx330_0
        replace hx330_1 := bcL HB.out hx330_1
        replace hx330_2 := bcL HB.out hx330_2
        replace hx330_3 := bcL HB.out hx330_3
        replace hx330_4 := bcL HB.out hx330_4
        have HR330_0 := am hi330_0
        have HC330_0 := am hl330_0
        clear hi330_0 hl330_0
        have HR330_1 := am hi330_1
        have HC330_1 := am hl330_1
        clear hi330_1 hl330_1
        have HR330_2 := am hi330_2
        have HC330_2 := am hl330_2
        clear hi330_2 hl330_2
        have HR330_3 := am hi330_3
        have HC330_3 := am hl330_3
        clear hi330_3 hl330_3
        replace p330 := eq_true p330
        replace q330 := eq_true q330
        have p331 : 0 ≤ (0 : Int) := (by omega)
        have q331 : 0 < (l0.length : Int) := of_decide_eq_true (by first | (with_reducible assumption) | assumption)
        obtain ⟨ad331, A331_0, c331_0, A331_1, c331_1, A331_2, c331_2, A331_3, c331_3, e331, hx331_0, hx331_1, hx331_2, hx331_3, hx331_4, hl331_0, hi331_0, hl331_1, hi331_1, hl331_2, hi331_2, hl331_3, hi331_3⟩ := Ak6 HR0.out q331
        have hw331_4 := hx331_4
        have hw331_3 := hx331_3
        have hw331_2 := hx331_2
        have hw331_1 := hx331_1
        have hw331_0 := hx331_0
        obtain rfl : ad316 = ad331 := (by injection e331)
        have qi331 : (0 < l0.length) = True := eq_true (by omega)
        replace hx331_0 := bcL HB.out hx331_0
        replace hx331_1 := bcL HB.out hx331_1
        replace hx331_2 := bcL HB.out hx331_2
        replace hx331_3 := bcL HB.out hx331_3
        replace hx331_4 := bcL HB.out hx331_4
        have HR331_0 := am hi331_0
        have HC331_0 := am hl331_0
        clear hi331_0 hl331_0
        have HR331_1 := am hi331_1
        have HC331_1 := am hl331_1
        clear hi331_1 hl331_1
        have HR331_2 := am hi331_2
        have HC331_2 := am hl331_2
        clear hi331_2 hl331_2
        have HR331_3 := am hi331_3
        have HC331_3 := am hl331_3
        clear hi331_3 hl331_3
        replace p331 := eq_true p331
        replace q331 := eq_true q331
        have ea_ := Option.some.inj (hx330_0.symm.trans hx331_0)
        injection ea_ with ea_ en_ ec_
        subst ea_
        subst ec_
        clear en_
        have ea_ := Option.some.inj (hx330_1.symm.trans hx331_1)
        injection ea_ with ea_ en_ ec_
        subst ea_
        subst ec_
        clear en_
        have ea_ := Option.some.inj (hx330_2.symm.trans hx331_2)
        injection ea_ with ea_ en_ ec_
        subst ea_
        subst ec_
        clear en_
        have ea_ := Option.some.inj (hx330_3.symm.trans hx331_3)
        injection ea_ with ea_ en_ ec_
        subst ea_
        subst ec_
        clear en_
        have p332 : 0 ≤ (0 : Int) := (by omega)
        have q332 : 0 < (l0.length : Int) := of_decide_eq_true (by first | (with_reducible assumption) | assumption)
        obtain ⟨ad332, A332_0, c332_0, A332_1, c332_1, A332_2, c332_2, A332_3, c332_3, e332, hx332_0, hx332_1, hx332_2, hx332_3, hx332_4, hl332_0, hi332_0, hl332_1, hi332_1, hl332_2, hi332_2, hl332_3, hi332_3⟩ := Ak6 HR0.out q332
        have hw332_4 := hx332_4
        have hw332_3 := hx332_3
        have hw332_2 := hx332_2
        have hw332_1 := hx332_1
        have hw332_0 := hx332_0
        obtain rfl : ad316 = ad332 := (by injection e332)
        have qi332 : (0 < l0.length) = True := eq_true (by omega)
        replace hx332_0 := bcL HB.out hx332_0
        replace hx332_1 := bcL HB.out hx332_1
        replace hx332_2 := bcL HB.out hx332_2
        replace hx332_3 := bcL HB.out hx332_3
        replace hx332_4 := bcL HB.out hx332_4
        have HR332_0 := am hi332_0
        have HC332_0 := am hl332_0
        clear hi332_0 hl332_0
        have HR332_1 := am hi332_1
        have HC332_1 := am hl332_1
        clear hi332_1 hl332_1
        have HR332_2 := am hi332_2
        have HC332_2 := am hl332_2
        clear hi332_2 hl332_2
        have HR332_3 := am hi332_3
        have HC332_3 := am hl332_3
        clear hi332_3 hl332_3
        replace p332 := eq_true p332
        replace q332 := eq_true q332
        have ea_ := Option.some.inj (hx330_0.symm.trans hx332_0)
        injection ea_ with ea_ en_ ec_
        subst ea_
        subst ec_
        clear en_
        have ea_ := Option.some.inj (hx330_1.symm.trans hx332_1)
        injection ea_ with ea_ en_ ec_
        subst ea_
        subst ec_
        clear en_
        have ea_ := Option.some.inj (hx330_2.symm.trans hx332_2)
        injection ea_ with ea_ en_ ec_
        subst ea_
        subst ec_
        clear en_
        have ea_ := Option.some.inj (hx330_3.symm.trans hx332_3)
        injection ea_ with ea_ en_ ec_
        subst ea_
        subst ec_
        clear en_
        have p333 : 0 ≤ (0 : Int) := (by omega)
        have q333 : 0 < (l0.length : Int) := of_decide_eq_true (by first | (with_reducible assumption) | assumption)
        obtain ⟨ad333, A333_0, c333_0, A333_1, c333_1, A333_2, c333_2, A333_3, c333_3, e333, hx333_0, hx333_1, hx333_2, hx333_3, hx333_4, hl333_0, hi333_0, hl333_1, hi333_1, hl333_2, hi333_2, hl333_3, hi333_3⟩ := Ak6 HR0.out q333
        have hw333_4 := hx333_4
        have hw333_3 := hx333_3
        have hw333_2 := hx333_2
        have hw333_1 := hx333_1
        have hw333_0 := hx333_0
        obtain rfl : ad316 = ad333 := (by injection e333)
        have qi333 : (0 < l0.length) = True := eq_true (by omega)
        replace hx333_0 := bcL HB.out hx333_0
        replace hx333_1 := bcL HB.out hx333_1
        replace hx333_2 := bcL HB.out hx333_2
        replace hx333_3 := bcL HB.out hx333_3
        replace hx333_4 := bcL HB.out hx333_4
        have HR333_0 := am hi333_0
        have HC333_0 := am hl333_0
        clear hi333_0 hl333_0
        have HR333_1 := am hi333_1
        have HC333_1 := am hl333_1
        clear hi333_1 hl333_1
        have HR333_2 := am hi333_2
        have HC333_2 := am hl333_2
        clear hi333_2 hl333_2
        have HR333_3 := am hi333_3
        have HC333_3 := am hl333_3
        clear hi333_3 hl333_3
        replace p333 := eq_true p333
        replace q333 := eq_true q333
        have ea_ := Option.some.inj (hx330_0.symm.trans hx333_0)
        injection ea_ with ea_ en_ ec_
        subst ea_
        subst ec_
        clear en_
        have ea_ := Option.some.inj (hx330_1.symm.trans hx333_1)
        injection ea_ with ea_ en_ ec_
        subst ea_
        subst ec_
        clear en_
        have ea_ := Option.some.inj (hx330_2.symm.trans hx333_2)
        injection ea_ with ea_ en_ ec_
        subst ea_
        subst ec_
        clear en_
        have ea_ := Option.some.inj (hx330_3.symm.trans hx333_3)
        injection ea_ with ea_ en_ ec_
        subst ea_
        subst ec_
        clear en_
        have p337 : 0 ≤ (0 : Int) := (by omega)
        have q337 : 0 < (l0.length : Int) := of_decide_eq_true (by first | (with_reducible assumption) | assumption)
        obtain ⟨ad337, A337_0, c337_0, A337_1, c337_1, A337_2, c337_2, A337_3, c337_3, e337, hx337_0, hx337_1, hx337_2, hx337_3, hx337_4, hl337_0, hi337_0, hl337_1, hi337_1, hl337_2, hi337_2, hl337_3, hi337_3⟩ := Ak6 HR0.out q337
        have hw337_4 := hx337_4
        have hw337_3 := hx337_3
        have hw337_2 := hx337_2
        have hw337_1 := hx337_1
        have hw337_0 := hx337_0
        obtain rfl : ad316 = ad337 := (by injection e337)
        have qi337 : (0 < l0.length) = True := eq_true (by omega)
        replace hx337_0 := bcL HB.out hx337_0
        replace hx337_1 := bcL HB.out hx337_1
        replace hx337_2 := bcL HB.out hx337_2
        replace hx337_3 := bcL HB.out hx337_3
        replace hx337_4 := bcL HB.out hx337_4
        have HR337_0 := am hi337_0
        have HC337_0 := am hl337_0
        clear hi337_0 hl337_0
        have HR337_1 := am hi337_1
        have HC337_1 := am hl337_1
        clear hi337_1 hl337_1
        have HR337_2 := am hi337_2
        have HC337_2 := am hl337_2
        clear hi337_2 hl337_2
        have HR337_3 := am hi337_3
        have HC337_3 := am hl337_3
        clear hi337_3 hl337_3
        replace p337 := eq_true p337
        replace q337 := eq_true q337
        have ea_ := Option.some.inj (hx330_0.symm.trans hx337_0)
        injection ea_ with ea_ en_ ec_
        subst ea_
        subst ec_
        clear en_
        have ea_ := Option.some.inj (hx330_1.symm.trans hx337_1)
        injection ea_ with ea_ en_ ec_
        subst ea_
        subst ec_
        clear en_
        have ea_ := Option.some.inj (hx330_2.symm.trans hx337_2)
        injection ea_ with ea_ en_ ec_
        subst ea_
        subst ec_
        clear en_
        have ea_ := Option.some.inj (hx330_3.symm.trans hx337_3)
        injection ea_ with ea_ en_ ec_
        subst ea_
        subst ec_
        clear en_
        have p338 : 0 ≤ (0 : Int) := (by omega)
        have q338 : 0 < (l0.length : Int) := of_decide_eq_true (by first | (with_reducible assumption) | assumption)
        obtain ⟨ad338, A338_0, c338_0, A338_1, c338_1, A338_2, c338_2, A338_3, c338_3, e338, hx338_0, hx338_1, hx338_2, hx338_3, hx338_4, hl338_0, hi338_0, hl338_1, hi338_1, hl338_2, hi338_2, hl338_3, hi338_3⟩ := Ak6 HR0.out q338
        have hw338_4 := hx338_4
        have hw338_3 := hx338_3
        have hw338_2 := hx338_2
        have hw338_1 := hx338_1
        have hw338_0 := hx338_0
        obtain rfl : ad316 = ad338 := (by injection e338)
        have qi338 : (0 < l0.length) = True := eq_true (by omega)
        replace hx338_0 := bcL HB.out hx338_0
        replace hx338_1 := bcL HB.out hx338_1
        replace hx338_2 := bcL HB.out hx338_2
        replace hx338_3 := bcL HB.out hx338_3
        replace hx338_4 := bcL HB.out hx338_4
        have HR338_0 := am hi338_0
        have HC338_0 := am hl338_0
        clear hi338_0 hl338_0
        have HR338_1 := am hi338_1
        have HC338_1 := am hl338_1
        clear hi338_1 hl338_1
        have HR338_2 := am hi338_2
        have HC338_2 := am hl338_2
        clear hi338_2 hl338_2
        have HR338_3 := am hi338_3
        have HC338_3 := am hl338_3
        clear hi338_3 hl338_3
        replace p338 := eq_true p338
        replace q338 := eq_true q338
        have ea_ := Option.some.inj (hx330_0.symm.trans hx338_0)
        injection ea_ with ea_ en_ ec_
        subst ea_
        subst ec_
        clear en_
        have ea_ := Option.some.inj (hx330_1.symm.trans hx338_1)
        injection ea_ with ea_ en_ ec_
        subst ea_
        subst ec_
        clear en_
        have ea_ := Option.some.inj (hx330_2.symm.trans hx338_2)
        injection ea_ with ea_ en_ ec_
        subst ea_
        subst ec_
        clear en_
        have ea_ := Option.some.inj (hx330_3.symm.trans hx338_3)
        injection ea_ with ea_ en_ ec_
        subst ea_
        subst ec_
        clear en_
        have p339 : 0 ≤ (0 : Int) := (by omega)
        have q339 : 0 < (l0.length : Int) := of_decide_eq_true (by first | (with_reducible assumption) | assumption)
        obtain ⟨ad339, A339_0, c339_0, A339_1, c339_1, A339_2, c339_2, A339_3, c339_3, e339, hx339_0, hx339_1, hx339_2, hx339_3, hx339_4, hl339_0, hi339_0, hl339_1, hi339_1, hl339_2, hi339_2, hl339_3, hi339_3⟩ := Ak6 HR0.out q339
        have hw339_4 := hx339_4
        have hw339_3 := hx339_3
        have hw339_2 := hx339_2
        have hw339_1 := hx339_1
        have hw339_0 := hx339_0
        obtain rfl : ad316 = ad339 := (by injection e339)
        have qi339 : (0 < l0.length) = True := eq_true (by omega)
        replace hx339_0 := bcL HB.out hx339_0
        replace hx339_1 := bcL HB.out hx339_1
        replace hx339_2 := bcL HB.out hx339_2
        replace hx339_3 := bcL HB.out hx339_3
        replace hx339_4 := bcL HB.out hx339_4
        have HR339_0 := am hi339_0
        have HC339_0 := am hl339_0
        clear hi339_0 hl339_0
        have HR339_1 := am hi339_1
        have HC339_1 := am hl339_1
        clear hi339_1 hl339_1
        have HR339_2 := am hi339_2
        have HC339_2 := am hl339_2
        clear hi339_2 hl339_2
        have HR339_3 := am hi339_3
        have HC339_3 := am hl339_3
        clear hi339_3 hl339_3
        replace p339 := eq_true p339
        replace q339 := eq_true q339
        have ea_ := Option.some.inj (hx330_0.symm.trans hx339_0)
        injection ea_ with ea_ en_ ec_
        subst ea_
        subst ec_
        clear en_
        have ea_ := Option.some.inj (hx330_1.symm.trans hx339_1)
        injection ea_ with ea_ en_ ec_
        subst ea_
        subst ec_
        clear en_
        have ea_ := Option.some.inj (hx330_2.symm.trans hx339_2)
        injection ea_ with ea_ en_ ec_
        subst ea_
        subst ec_
        clear en_
        have ea_ := Option.some.inj (hx330_3.symm.trans hx339_3)
        injection ea_ with ea_ en_ ec_
        subst ea_
        subst ec_
        clear en_
        have p340 : 0 ≤ (0 : Int) := (by omega)
        have q340 : 0 < (l0.length : Int) := of_decide_eq_true (by first | (with_reducible assumption) | assumption)
        obtain ⟨ad340, A340_0, c340_0, A340_1, c340_1, A340_2, c340_2, A340_3, c340_3, e340, hx340_0, hx340_1, hx340_2, hx340_3, hx340_4, hl340_0, hi340_0, hl340_1, hi340_1, hl340_2, hi340_2, hl340_3, hi340_3⟩ := Ak6 HR0.out q340
        have hw340_4 := hx340_4
        have hw340_3 := hx340_3
        have hw340_2 := hx340_2
        have hw340_1 := hx340_1
        have hw340_0 := hx340_0
        obtain rfl : ad316 = ad340 := (by injection e340)
        have qi340 : (0 < l0.length) = True := eq_true (by omega)
        replace hx340_0 := bcL HB.out hx340_0
        replace hx340_1 := bcL HB.out hx340_1
        replace hx340_2 := bcL HB.out hx340_2
        replace hx340_3 := bcL HB.out hx340_3
        replace hx340_4 := bcL HB.out hx340_4
        have HR340_0 := am hi340_0
        have HC340_0 := am hl340_0
        clear hi340_0 hl340_0
        have HR340_1 := am hi340_1
        have HC340_1 := am hl340_1
        clear hi340_1 hl340_1
        have HR340_2 := am hi340_2
        have HC340_2 := am hl340_2
        clear hi340_2 hl340_2
        have HR340_3 := am hi340_3
        have HC340_3 := am hl340_3
        clear hi340_3 hl340_3
        replace p340 := eq_true p340
        replace q340 := eq_true q340
        have ea_ := Option.some.inj (hx330_0.symm.trans hx340_0)
        injection ea_ with ea_ en_ ec_
        subst ea_
        subst ec_
        clear en_
        have ea_ := Option.some.inj (hx330_1.symm.trans hx340_1)
        injection ea_ with ea_ en_ ec_
        subst ea_
        subst ec_
        clear en_
        have ea_ := Option.some.inj (hx330_2.symm.trans hx340_2)
        injection ea_ with ea_ en_ ec_
        subst ea_
        subst ec_
        clear en_
        have ea_ := Option.some.inj (hx330_3.symm.trans hx340_3)
        injection ea_ with ea_ en_ ec_
        subst ea_
        subst ec_
        clear en_
        refine Ae9 (n := 22) (S := fun w' => w'.cell? ad316 = some (.slice A330_0 ((Aa3 l0 0).f0.f0).length c330_0) ∧ w'.cell? ⟨ad316.block, ad316.off + 1, none⟩ = some (.slice A330_1 ((Aa3 l0 0).f1).length c330_1) ∧ w'.cell? ⟨ad316.block, ad316.off + 2, none⟩ = some (.slice A330_2 ((Aa3 l0 0).f2).length c330_2) ∧ w'.cell? ⟨ad316.block, ad316.off + 3, none⟩ = some (.slice A330_3 ((Aa3 l0 0).f3).length c330_3) ∧ w'.cell? ⟨ad316.block, ad316.off + 4, none⟩ = some (.map (some ((Aa3 l0 0).f4).toNat)) ∧ w'.cell? ad316 = some (.slice A330_0 ((Aa3 l0 0).f0.f0).length c330_0) ∧ w'.cell? ⟨ad316.block, ad316.off + 1, none⟩ = some (.slice A330_1 ((Aa3 l0 0).f1).length c330_1) ∧ w'.cell? ⟨ad316.block, ad316.off + 2, none⟩ = some (.slice A330_2 ((Aa3 l0 0).f2).length c330_2) ∧ w'.cell? ⟨ad316.block, ad316.off + 3, none⟩ = some (.slice A330_3 ((Aa3 l0 0).f3).length c330_3) ∧ w'.cell? ⟨ad316.block, ad316.off + 4, none⟩ = some (.map (some ((Aa3 l0 0).f4).toNat)) ∧ w'.cell? ad316 = some (.slice A330_0 ((Aa3 l0 0).f0.f0).length c330_0) ∧ w'.cell? ⟨ad316.block, ad316.off + 1, none⟩ = some (.slice A330_1 ((Aa3 l0 0).f1).length c330_1) ∧ w'.cell? ⟨ad316.block, ad316.off + 2, none⟩ = some (.slice A330_2 ((Aa3 l0 0).f2).length c330_2) ∧ w'.cell? ⟨ad316.block, ad316.off + 3, none⟩ = some (.slice A330_3 ((Aa3 l0 0).f3).length c330_3) ∧ w'.cell? ⟨ad316.block, ad316.off + 4, none⟩ = some (.map (some ((Aa3 l0 0).f4).toNat)) ∧ w'.cell? ad316 = some (.slice A330_0 ((Aa3 l0 0).f0.f0).length c330_0) ∧ w'.cell? ⟨ad316.block, ad316.off + 1, none⟩ = some (.slice A330_1 ((Aa3 l0 0).f1).length c330_1) ∧ w'.cell? ⟨ad316.block, ad316.off + 2, none⟩ = some (.slice A330_2 ((Aa3 l0 0).f2).length c330_2) ∧ w'.cell? ⟨ad316.block, ad316.off + 3, none⟩ = some (.slice A330_3 ((Aa3 l0 0).f3).length c330_3) ∧ w'.cell? ⟨ad316.block, ad316.off + 4, none⟩ = some (.map (some ((Aa3 l0 0).f4).toNat)) ∧ w'.cell? ad316 = some (.slice A330_0 ((Aa3 l0 0).f0.f0).length c330_0) ∧ w'.cell? ⟨ad316.block, ad316.off + 1, none⟩ = some (.slice A330_1 ((Aa3 l0 0).f1).length c330_1) ∧ w'.cell? ⟨ad316.block, ad316.off + 2, none⟩ = some (.slice A330_2 ((Aa3 l0 0).f2).length c330_2) ∧ w'.cell? ⟨ad316.block, ad316.off + 3, none⟩ = some (.slice A330_3 ((Aa3 l0 0).f3).length c330_3) ∧ w'.cell? ⟨ad316.block, ad316.off + 4, none⟩ = some (.map (some ((Aa3 l0 0).f4).toNat)) ∧ w'.cell? ad316 = some (.slice A330_0 ((Aa3 l0 0).f0.f0).length c330_0) ∧ w'.cell? ⟨ad316.block, ad316.off + 1, none⟩ = some (.slice A330_1 ((Aa3 l0 0).f1).length c330_1) ∧ w'.cell? ⟨ad316.block, ad316.off + 2, none⟩ = some (.slice A330_2 ((Aa3 l0 0).f2).length c330_2) ∧ w'.cell? ⟨ad316.block, ad316.off + 3, none⟩ = some (.slice A330_3 ((Aa3 l0 0).f3).length c330_3) ∧ w'.cell? ⟨ad316.block, ad316.off + 4, none⟩ = some (.map (some ((Aa3 l0 0).f4).toNat)) ∧ w'.cell? ad316 = some (.slice A330_0 ((Aa3 l0 0).f0.f0).length c330_0) ∧ w'.cell? ⟨ad316.block, ad316.off + 1, none⟩ = some (.slice A330_1 ((Aa3 l0 0).f1).length c330_1) ∧ w'.cell? ⟨ad316.block, ad316.off + 2, none⟩ = some (.slice A330_2 ((Aa3 l0 0).f2).length c330_2) ∧ w'.cell? ⟨ad316.block, ad316.off + 3, none⟩ = some (.slice A330_3 ((Aa3 l0 0).f3).length c330_3) ∧ w'.cell? ⟨ad316.block, ad316.off + 4, none⟩ = some (.map (some ((Aa3 l0 0).f4).toNat)) ∧ w'.cell? ad316 = some (.slice A330_0 ((Aa3 l0 0).f0.f0).length c330_0) ∧ w'.cell? ⟨ad316.block, ad316.off + 1, none⟩ = some (.slice A330_1 ((Aa3 l0 0).f1).length c330_1) ∧ w'.cell? ⟨ad316.block, ad316.off + 2, none⟩ = some (.slice A330_2 ((Aa3 l0 0).f2).length c330_2) ∧ w'.cell? ⟨ad316.block, ad316.off + 3, none⟩ = some (.slice A330_3 ((Aa3 l0 0).f3).length c330_3) ∧ w'.cell? ⟨ad316.block, ad316.off + 4, none⟩ = some (.map (some ((Aa3 l0 0).f4).toNat))) (ds := []) #[false, false, false, false, false, false, false, false, false, false, false, false, false, false, false, false, false, false, false, false, false, false] (by kernel_rfl) rfl rfl ⟨(bcL HB.out hw330_0), (bcL HB.out hw330_1), (bcL HB.out hw330_2), (bcL HB.out hw330_3), (bcL HB.out hw330_4), (bcL HB.out hw331_0), (bcL HB.out hw331_1), (bcL HB.out hw331_2), (bcL HB.out hw331_3), (bcL HB.out hw331_4), (bcL HB.out hw332_0), (bcL HB.out hw332_1), (bcL HB.out hw332_2), (bcL HB.out hw332_3), (bcL HB.out hw332_4), (bcL HB.out hw333_0), (bcL HB.out hw333_1), (bcL HB.out hw333_2), (bcL HB.out hw333_3), (bcL HB.out hw333_4), (bcL HB.out hw337_0), (bcL HB.out hw337_1), (bcL HB.out hw337_2), (bcL HB.out hw337_3), (bcL HB.out hw337_4), (bcL HB.out hw338_0), (bcL HB.out hw338_1), (bcL HB.out hw338_2), (bcL HB.out hw338_3), (bcL HB.out hw338_4), (bcL HB.out hw339_0), (bcL HB.out hw339_1), (bcL HB.out hw339_2), (bcL HB.out hw339_3), (bcL HB.out hw339_4), (bcL HB.out hw340_0), (bcL HB.out hw340_1), (bcL HB.out hw340_2), (bcL HB.out hw340_3), (bcL HB.out hw340_4)⟩ (fun hHeld => ?_); refine Ad1 impl_comparer_isGreater.tab6 impl_comparer_isGreater.bits6 (fun HT_ HW_ => ?_)
        generalize w23.drew = w24 at HB HR330_0 HR330_1 HR330_2 HR330_3 HR331_0 HR331_1 HR331_2 HR331_3 HR332_0 HR332_1 HR332_2 HR332_3 HR333_0 HR333_1 HR333_2 HR333_3 HR337_0 HR337_1 HR337_2 HR337_3 HR338_0 HR338_1 HR338_2 HR338_3 HR339_0 HR339_1 HR339_2 HR339_3 HR340_0 HR340_1 HR340_2 HR340_3 hx330_0 hx330_1 hx330_2 hx330_3 hx330_4 hx331_0 hx331_1 hx331_2 hx331_3 hx331_4 hx332_0 hx332_1 hx332_2 hx332_3 hx332_4 hx333_0 hx333_1 hx333_2 hx333_3 hx333_4 hx337_0 hx337_1 hx337_2 hx337_3 hx337_4 hx338_0 hx338_1 hx338_2 hx338_3 hx338_4 hx339_0 hx339_1 hx339_2 hx339_3 hx339_4 hx340_0 hx340_1 hx340_2 hx340_3 hx340_4 hHeld ⊢
        refine Ab2 (i := 0) (N := some 52) (v := ?_) (a' := ?_) #[true, false, false, false, false, false, false, false, false, false, false, false, false, false, false, false, false, false, false, false, false, false] rfl rfl (Aa9 HT_.out (by kernel_rfl)) (fun _ _ _ h => h) (Or.inl ⟨by rfl, ?_⟩) ?_ ?_
        rotate_left
        ·intro w'
         go_simp
         with_reducible rfl
        rotate_left
        ·simp only [Act.put, lsp, Aa8, Ab0]
         rfl
        refine Ab2 (i := 1) (N := some 53) (v := ?_) (a' := ?_) #[true, true, false, false, false, false, false, false, false, false, false, false, false, false, false, false, false, false, false, false, false, false] rfl rfl (Aa9 HT_.out (by kernel_rfl)) (fun _ _ _ h => h) (Or.inl ⟨by rfl, ?_⟩) ?_ ?_
        rotate_left
        ·intro w'
         go_simp
         with_reducible rfl
        rotate_left
        ·simp only [Act.put, lsp, Aa8, Ab0]
         rfl
        refine Ab2 (i := 2) (N := some 54) (v := ?_) (a' := ?_) #[true, true, true, false, false, false, false, false, false, false, false, false, false, false, false, false, false, false, false, false, false, false] rfl rfl (Aa9 HT_.out (by kernel_rfl)) (fun _ _ _ h => h) (Or.inl ⟨by rfl, ?_⟩) ?_ ?_
        rotate_left
        ·intro w'
         go_simp
         with_reducible rfl
        rotate_left
        ·simp only [Act.put, lsp, Aa8, Ab0]
         rfl
        refine Ab2 (i := 4) (N := some 56) (v := ?_) (a' := ?_) #[true, true, true, false, true, false, false, false, false, false, false, false, false, false, false, false, false, false, false, false, false, false] rfl rfl (Aa9 HT_.out (by kernel_rfl)) (fun _ _ _ h => h) (Or.inl ⟨by rfl, ?_⟩) ?_ ?_
        rotate_left
        ·intro w'
         go_simp
         with_reducible rfl
        rotate_left
        ·simp only [Act.put, lsp, Aa8, Ab0]
         rfl
        refine Ab2 (i := 5) (N := some 57) (v := ?_) (a' := ?_) #[true, true, true, false, true, true, false, false, false, false, false, false, false, false, false, false, false, false, false, false, false, false] rfl rfl (Aa9 HT_.out (by kernel_rfl)) (fun _ _ _ h => h) (Or.inl ⟨by rfl, ?_⟩) ?_ ?_
        rotate_left
        ·intro w'
         go_simp
         with_reducible rfl
        rotate_left
        ·simp only [Act.put, lsp, Aa8, Ab0]
         rfl
        refine Ab2 (i := 6) (N := some 58) (v := ?_) (a' := ?_) #[true, true, true, false, true, true, true, false, false, false, false, false, false, false, false, false, false, false, false, false, false, false] rfl rfl (Aa9 HT_.out (by kernel_rfl)) (fun _ _ _ h => h) (Or.inl ⟨by rfl, ?_⟩) ?_ ?_
        rotate_left
        ·intro w'
         go_simp
         with_reducible rfl
        rotate_left
        ·simp only [Act.put, lsp, Aa8, Ab0]
         rfl
        refine Ab2 (i := 8) (N := some 60) (v := ?_) (a' := ?_) #[true, true, true, false, true, true, true, false, true, false, false, false, false, false, false, false, false, false, false, false, false, false] rfl rfl (Aa9 HT_.out (by kernel_rfl)) (fun _ _ _ h => h) (Or.inl ⟨by rfl, ?_⟩) ?_ ?_
        rotate_left
        ·intro w'
         go_simp
         with_reducible rfl
        rotate_left
        ·simp only [Act.put, lsp, Aa8, Ab0]
         rfl
        refine Ab2 (i := 10) (N := some 62) (v := ?_) (a' := ?_) #[true, true, true, false, true, true, true, false, true, false, true, false, false, false, false, false, false, false, false, false, false, false] rfl rfl (Aa9 HT_.out (by kernel_rfl)) (fun _ _ _ h => h) (Or.inl ⟨by rfl, ?_⟩) ?_ ?_
        rotate_left
        ·intro w'
         go_simp
         with_reducible rfl
        rotate_left
        ·simp only [Act.put, lsp, Aa8, Ab0]
         rfl
        refine Ab2 (i := 11) (N := some 63) (v := ?_) (a' := ?_) #[true, true, true, false, true, true, true, false, true, false, true, true, false, false, false, false, false, false, false, false, false, false] rfl rfl (Aa9 HT_.out (by kernel_rfl)) (fun _ _ _ h => h) (Or.inl ⟨by rfl, ?_⟩) ?_ ?_
        rotate_left
        ·intro w'
         go_simp
         with_reducible rfl
        rotate_left
        ·simp only [Act.put, lsp, Aa8, Ab0]
         rfl
        refine Ab2 (i := 12) (N := some 64) (v := ?_) (a' := ?_) #[true, true, true, false, true, true, true, false, true, false, true, true, true, false, false, false, false, false, false, false, false, false] rfl rfl (Aa9 HT_.out (by kernel_rfl)) (fun _ _ _ h => h) (Or.inl ⟨by rfl, ?_⟩) ?_ ?_
        rotate_left
        ·intro w'
         go_simp
         with_reducible rfl
        rotate_left
        ·simp only [Act.put, lsp, Aa8, Ab0]
         rfl
        refine Ab2 (i := 14) (N := some 66) (v := ?_) (a' := ?_) #[true, true, true, false, true, true, true, false, true, false, true, true, true, false, true, false, false, false, false, false, false, false] rfl rfl (Aa9 HT_.out (by kernel_rfl)) (fun _ _ _ h => h) (Or.inl ⟨by rfl, ?_⟩) ?_ ?_
        rotate_left
        ·intro w'
         go_simp
         with_reducible rfl
        rotate_left
        ·simp only [Act.put, lsp, Aa8, Ab0]
         rfl
        refine Ab2 (i := 15) (N := some 67) (v := ?_) (a' := ?_) #[true, true, true, false, true, true, true, false, true, false, true, true, true, false, true, true, false, false, false, false, false, false] rfl rfl (Aa9 HT_.out (by kernel_rfl)) (fun _ _ _ h => h) (Or.inl ⟨by rfl, ?_⟩) ?_ ?_
        rotate_left
        ·intro w'
         go_simp
         with_reducible rfl
        rotate_left
        ·simp only [Act.put, lsp, Aa8, Ab0]
         rfl
        refine Ab2 (i := 16) (N := some 68) (v := ?_) (a' := ?_) #[true, true, true, false, true, true, true, false, true, false, true, true, true, false, true, true, true, false, false, false, false, false] rfl rfl (Aa9 HT_.out (by kernel_rfl)) (fun _ _ _ h => h) (Or.inl ⟨by rfl, ?_⟩) ?_ ?_
        rotate_left
        ·intro w'
         go_simp
         with_reducible rfl
        rotate_left
        ·simp only [Act.put, lsp, Aa8, Ab0]
         rfl
        refine Ab2 (i := 18) (N := some 70) (v := ?_) (a' := ?_) #[true, true, true, false, true, true, true, false, true, false, true, true, true, false, true, true, true, false, true, false, false, false] rfl rfl (Aa9 HT_.out (by kernel_rfl)) (fun _ _ _ h => h) (Or.inl ⟨by rfl, ?_⟩) ?_ ?_
        rotate_left
        ·intro w'
         go_simp
         with_reducible rfl
        rotate_left
        ·simp only [Act.put, lsp, Aa8, Ab0]
         rfl
        refine take_ (i := 3) (N := some 55) (v := ?_) (a' := ?_) #[true, true, true, true, true, true, true, false, true, false, true, true, true, false, true, true, true, false, true, false, false, false] rfl rfl (Ac0 HT_.out HW_.out (by kernel_rfl)) (fun _ _ _ h => h) (Or.inl ⟨by rfl, ?_⟩) hHeld ?_ ?_
        rotate_left
        ·rintro w' ⟨s0, s1, s2, s3, s4, s5, s6, s7, s8, s9, s10, s11, s12, s13, s14, s15, s16, s17, s18, s19, s20, s21, s22, s23, s24, s25, s26, s27, s28, s29, s30, s31, s32, s33, s34, s35, s36, s37, s38, s39⟩
         go_simp
         with_reducible rfl
        rotate_left
        ·simp only [Act.put, lsp, Aa8, Ab0]
         rfl
        refine take_ (i := 7) (N := some 59) (v := ?_) (a' := ?_) #[true, true, true, true, true, true, true, true, true, false, true, true, true, false, true, true, true, false, true, false, false, false] rfl rfl (Ac0 HT_.out HW_.out (by kernel_rfl)) (fun _ _ _ h => h) (Or.inl ⟨by rfl, ?_⟩) hHeld ?_ ?_
        rotate_left
        ·rintro w' ⟨s0, s1, s2, s3, s4, s5, s6, s7, s8, s9, s10, s11, s12, s13, s14, s15, s16, s17, s18, s19, s20, s21, s22, s23, s24, s25, s26, s27, s28, s29, s30, s31, s32, s33, s34, s35, s36, s37, s38, s39⟩
         go_simp
         with_reducible rfl
        rotate_left
        ·simp only [Act.put, lsp, Aa8, Ab0]
         rfl
        refine take_ (i := 13) (N := some 65) (v := ?_) (a' := ?_) #[true, true, true, true, true, true, true, true, true, false, true, true, true, true, true, true, true, false, true, false, false, false] rfl rfl (Ac0 HT_.out HW_.out (by kernel_rfl)) (fun _ _ _ h => h) (Or.inl ⟨by rfl, ?_⟩) hHeld ?_ ?_
        rotate_left
        ·rintro w' ⟨s0, s1, s2, s3, s4, s5, s6, s7, s8, s9, s10, s11, s12, s13, s14, s15, s16, s17, s18, s19, s20, s21, s22, s23, s24, s25, s26, s27, s28, s29, s30, s31, s32, s33, s34, s35, s36, s37, s38, s39⟩
         go_simp
         with_reducible rfl
        rotate_left
        ·simp only [Act.put, lsp, Aa8, Ab0]
         rfl
        refine take_ (i := 17) (N := some 69) (v := ?_) (a' := ?_) #[true, true, true, true, true, true, true, true, true, false, true, true, true, true, true, true, true, true, true, false, false, false] rfl rfl (Ac0 HT_.out HW_.out (by kernel_rfl)) (fun _ _ _ h => h) (Or.inl ⟨by rfl, ?_⟩) hHeld ?_ ?_
        rotate_left
        ·rintro w' ⟨s0, s1, s2, s3, s4, s5, s6, s7, s8, s9, s10, s11, s12, s13, s14, s15, s16, s17, s18, s19, s20, s21, s22, s23, s24, s25, s26, s27, s28, s29, s30, s31, s32, s33, s34, s35, s36, s37, s38, s39⟩
         go_simp
         with_reducible rfl
        rotate_left
        ·simp only [Act.put, lsp, Aa8, Ab0]
         rfl
        refine Al7 (i := 9) (N := some 61) #[true, true, true, true, true, true, true, true, true, true, true, true, true, true, true, true, true, true, true, false, false, false] rfl rfl (Af4 HT_.out (by kernel_rfl)) (by decide) (fun K hK => ?_)
        refine Ah1 Tryd.func77 (by kernel_rfl) rfl #[.agg #[.slice A330_0 ((Aa3 l0 0).f0.f0).length c330_0], .slice A330_2 ((Aa3 l0 0).f2).length c330_2, .int .i64 a1] (by rfl) rfl rfl el ?_
        with_reducible refine (impl_argumentsOf.calls k _ _ ((Aa3 l0 0).f0.f0) _ _ ((Aa3 l0 0).f2) a1 t334 _ ?side1 ?side2 ?side3 ?side4 A21.out).mono ?_
        (case side1 => exact cq (Kd.C_below HR331_0.out HB.out))
        (case side2 => exact HC331_0.out)
        (case side3 => exact cq (Kd.C_below HR333_2.out HB.out))
        (case side4 => exact HC333_2.out)
        rintro e w25 ⟨v335, rfl, ho0, hb⟩
        refine ⟨_, rfl, ?_⟩
        have n0_ := am (Kd.R_lower ho0 (Ac3 (hq HB.out)))
        have n1_ := am (Aa2 (hq HB.out) hb)
        clear HB; revert n0_ n1_; intro HO336 HB
        (try clear hb)
        (try clear hb2)
        (try clear hgw)
        (try clear hk)
        (try clear hi)
        (try clear ho0)
        refine hK.out _ _ ⟨(bcL HB.out hw330_0), (bcL HB.out hw330_1), (bcL HB.out hw330_2), (bcL HB.out hw330_3), (bcL HB.out hw330_4), (bcL HB.out hw331_0), (bcL HB.out hw331_1), (bcL HB.out hw331_2), (bcL HB.out hw331_3), (bcL HB.out hw331_4), (bcL HB.out hw332_0), (bcL HB.out hw332_1), (bcL HB.out hw332_2), (bcL HB.out hw332_3), (bcL HB.out hw332_4), (bcL HB.out hw333_0), (bcL HB.out hw333_1), (bcL HB.out hw333_2), (bcL HB.out hw333_3), (bcL HB.out hw333_4), (bcL HB.out hw337_0), (bcL HB.out hw337_1), (bcL HB.out hw337_2), (bcL HB.out hw337_3), (bcL HB.out hw337_4), (bcL HB.out hw338_0), (bcL HB.out hw338_1), (bcL HB.out hw338_2), (bcL HB.out hw338_3), (bcL HB.out hw338_4), (bcL HB.out hw339_0), (bcL HB.out hw339_1), (bcL HB.out hw339_2), (bcL HB.out hw339_3), (bcL HB.out hw339_4), (bcL HB.out hw340_0), (bcL HB.out hw340_1), (bcL HB.out hw340_2), (bcL HB.out hw340_3), (bcL HB.out hw340_4)⟩ (fun hHeld => ?_)
        clear hK K
        refine Ah0 (a' := ?_) ?_ ?_
        rotate_left
        ·show Act.put _ (some 61) _ = _
         simp only [Act.put, lsp, Aa8, Ab0]
         rfl
        refine Al7 (i := 19) (N := some 71) #[true, true, true, true, true, true, true, true, true, true, true, true, true, true, true, true, true, true, true, true, false, false] rfl rfl (Af4 HT_.out (by kernel_rfl)) (by decide) (fun K hK => ?_)
        refine Ah1 Tryd.func77 (by kernel_rfl) rfl #[.agg #[.slice A330_0 ((Aa3 l0 0).f0.f0).length c330_0], .slice A330_3 ((Aa3 l0 0).f3).length c330_3, .int .i64 a2] (by rfl) rfl rfl el ?_
        with_reducible refine (impl_argumentsOf.calls k _ _ ((Aa3 l0 0).f0.f0) _ _ ((Aa3 l0 0).f3) a2 t341 _ ?side1 ?side2 ?side3 ?side4 A22.out).mono ?_
        (case side1 => exact cq (Kd.C_below HR338_0.out HB.out))
        (case side2 => exact HC338_0.out)
        (case side3 => exact cq (Kd.C_below HR340_3.out HB.out))
        (case side4 => exact HC340_3.out)
        rintro e w26 ⟨v342, rfl, ho0, hb⟩
        refine ⟨_, rfl, ?_⟩
        have n0_ := am (Kd.R_elder' (rq HO336.out) (Kd.R_base ho0) hb)
        have n1_ := am (Kd.R_lower (Kd.R_new' ho0 (Kd.R_lt (rq HO336.out))) (Ac3 (hq HB.out)))
        have n2_ := am (Aa2 (hq HB.out) hb)
        clear HO336 HB; revert n0_ n1_ n2_; intro HO336 HO343 HB
        (try clear hb)
        (try clear hb2)
        (try clear hgw)
        (try clear hk)
        (try clear hi)
        (try clear ho0)
        refine hK.out _ _ ⟨(bcL HB.out hw330_0), (bcL HB.out hw330_1), (bcL HB.out hw330_2), (bcL HB.out hw330_3), (bcL HB.out hw330_4), (bcL HB.out hw331_0), (bcL HB.out hw331_1), (bcL HB.out hw331_2), (bcL HB.out hw331_3), (bcL HB.out hw331_4), (bcL HB.out hw332_0), (bcL HB.out hw332_1), (bcL HB.out hw332_2), (bcL HB.out hw332_3), (bcL HB.out hw332_4), (bcL HB.out hw333_0), (bcL HB.out hw333_1), (bcL HB.out hw333_2), (bcL HB.out hw333_3), (bcL HB.out hw333_4), (bcL HB.out hw337_0), (bcL HB.out hw337_1), (bcL HB.out hw337_2), (bcL HB.out hw337_3), (bcL HB.out hw337_4), (bcL HB.out hw338_0), (bcL HB.out hw338_1), (bcL HB.out hw338_2), (bcL HB.out hw338_3), (bcL HB.out hw338_4), (bcL HB.out hw339_0), (bcL HB.out hw339_1), (bcL HB.out hw339_2), (bcL HB.out hw339_3), (bcL HB.out hw339_4), (bcL HB.out hw340_0), (bcL HB.out hw340_1), (bcL HB.out hw340_2), (bcL HB.out hw340_3), (bcL HB.out hw340_4)⟩ (fun hHeld => ?_)
        clear hK K
        refine Ah0 (a' := ?_) ?_ ?_
        rotate_left
        ·show Act.put _ (some 71) _ = _
         simp only [Act.put, lsp, Aa8, Ab0]
         rfl
        refine Ab2 (i := 20) (N := some 9) (v := ?_) (a' := ?_) #[true, true, true, true, true, true, true, true, true, true, true, true, true, true, true, true, true, true, true, true, true, false] rfl rfl (Aa9 HT_.out (by kernel_rfl)) (fun _ _ _ h => h) (Or.inl ⟨by rfl, ?_⟩) ?_ ?_
        rotate_left
        ·intro w'
         go_simp
         with_reducible rfl
        rotate_left
        ·simp only [Act.put, lsp, Aa8, Ab0]
         rfl
        refine Ab2 (i := 21) (N := some 10) (v := ?_) (a' := ?_) #[true, true, true, true, true, true, true, true, true, true, true, true, true, true, true, true, true, true, true, true, true, true] rfl rfl (Aa9 HT_.out (by kernel_rfl)) (fun _ _ _ h => h) (Or.inl ⟨by rfl, ?_⟩) ?_ ?_
        rotate_left
        ·intro w'
         go_simp
         with_reducible rfl
        rotate_left
        ·simp only [Act.put, lsp, Aa8, Ab0]
         rfl
        refine Ah2 (Ae1 HT_.out (by kernel_rfl)) ?_
        obtain ⟨Ao27, co27, eo27⟩ := Kd.R_slice HO336.out
        subst eo27
        try go_wp2
        have HB_ := am (Bel.of HI.out HB.out)
        clear HB
        have HB := HB_
        clear HB_
        go_loopg [74] k (fun kq v74 w' => ∃ (x74_1 : Int), v74 = .int .i64 x74_1 ∧ Aside0 (impl_comparer_isGreater.l0 g kq l0 a1 a2 (rd ((Aa3 l0 0).f2) a1) (rd ((Aa3 l0 0).f3) a2) t334 t341 t334 (t334.length : Int) x74_1 = some r) ∧ Aside0 (kq ≤ k) ∧ Aside0 (Kd.R (Kd.int .i64) 3 w' w.heap.size (fun k_ => some k_ ≠ (v342 : Value).ownBlock) (.slice Ao27 t334.length co27) t334) ∧ Aside0 (Kd.R (Kd.int .i64) 3 w' w.heap.size (fun k_ => some k_ ≠ ((.slice Ao27 t334.length co27) : Value).ownBlock ∧ some k_ ≠ ((.slice Ao27 t334.length co27) : Value).ownBlock) v342 t341) ∧ Aside0 (Kd.R (Kd.int .i64) 3 w' w.heap.size (fun k_ => some k_ ≠ (v342 : Value).ownBlock) (.slice Ao27 t334.length co27) t334) ∧ Aside0 (Bel G mb w.heap.size w w'))
        case atStart => exact ⟨(0), (by first | rfl | (simp; done) | (simp [*]; done)), H', ⟨Nat.le_refl _⟩, ⟨by (with_reducible repeat (first | apply Kd.R_alloc | apply Kd.R_drewN | apply Kd.R_drew)); exact Kd.R_mono HO336.out (fun _ hk => hk.2)⟩, ⟨by (with_reducible repeat (first | apply Kd.R_alloc | apply Kd.R_drewN | apply Kd.R_drew)); exact Kd.R_mono HO343.out (fun _ hk => by first | exact ⟨hk.2, hk.2⟩ | exact ⟨hk.2, hk.2⟩ | trivial)⟩, ⟨by (with_reducible repeat (first | apply Kd.R_alloc | apply Kd.R_drewN | apply Kd.R_drew)); exact Kd.R_mono HO336.out (fun _ hk => hk.2)⟩, ⟨by repeat (first | (with_reducible first | exact HB.out | apply Ac5 | apply Ac6 | apply Ac8) | exact HB.out)⟩⟩
        case round =>
         clear H'
         try clear p2; try clear c3; try clear p3; try clear q3; try clear hx3; try clear qi3; try clear c7; try clear hx330_0; try clear hx330_1; try clear hx330_2; try clear hx330_3; try clear hx330_4; try clear hx331_0; try clear hx331_1; try clear hx331_2; try clear hx331_3; try clear hx331_4; try clear hx332_0; try clear hx332_1; try clear hx332_2; try clear hx332_3; try clear hx332_4; try clear hx333_0; try clear hx333_1; try clear hx333_2; try clear hx333_3; try clear hx333_4; try clear hx337_0; try clear hx337_1; try clear hx337_2; try clear hx337_3; try clear hx337_4; try clear hx338_0; try clear hx338_1; try clear hx338_2; try clear hx338_3; try clear hx338_4; try clear hx339_0; try clear hx339_1; try clear hx339_2; try clear hx339_3; try clear hx339_4; try clear hx340_0; try clear hx340_1; try clear hx340_2; try clear hx340_3; try clear hx340_4; try clear p333; try clear p337; try clear p338; try clear p339; try clear p340; try clear q333; try clear q337; try clear q338; try clear q339; try clear q340
         obtain ⟨x74_1, rfl, HA, HK1, HO_9, HO_10, HO_72, HB⟩ := hrel
         cases gk with
         | zero => exact absurd HA.out (by simp [impl_comparer_isGreater.l0])
         | succ k1 =>
          have H := HA.out
          clear HA
          simp only [impl_comparer_isGreater.l0] at H
          by_cases c28 : x74_1 < (t334.length : Int)
          ·rw [if_pos c28] at H
           have c28b0 : decide (x74_1 < (t334.length : Int)) = true := decide_eq_true c28
           clear c28
           by_cases c29 : 0 ≤ x74_1
           ·rw [if_pos c29] at H
            have c29b0 : decide (0 ≤ x74_1) = true := decide_eq_true c29
            clear c29
            by_cases c30 : x74_1 < (t334.length : Int)
            ·rw [if_pos c30] at H
             have c30b0 : decide (x74_1 < (t334.length : Int)) = true := decide_eq_true c30
             clear c30
             replace H := Option.bind_eq_some_iff.mp H
             obtain ⟨t345, A310, H⟩ := H
             replace H : (if t345 = true then (some true) else ((g (rd t334 x74_1) a2).bind fun t346 => (if t346 = true then (some true) else (impl_comparer_isGreater.l0 g k1 l0 a1 a2 (rd ((Aa3 l0 0).f2) a1) (rd ((Aa3 l0 0).f3) a2) t334 t341 t334 (t334.length : Int) (wrap64 (x74_1 + 1)))))) = some r := H
             have A31 := am A310
             clear A310
             by_cases c32 : t345 = true
             ·subst c32
              have H1 : (some true) = some r := by rw [if_pos rfl] at H; exact H
              clear H
              have H := H1
              clear H1
              obtain rfl := Option.some.inj H
              have p344 : 0 ≤ (x74_1 : Int) := of_decide_eq_true (by first | (with_reducible assumption) | assumption)
              have q344 : x74_1 < (t334.length : Int) := of_decide_eq_true (by first | (with_reducible assumption) | assumption)
              obtain ⟨ad344, e344, hx344_0⟩ := Kd.at_int (Kd.R_reads' HO_72.out).2.2 x74_1 p344 q344
              cases e344
              replace p344 := eq_true p344
              replace q344 := eq_true q344
              go_wp2_with (first | ((with_reducible refine Aa4 (f := 78) rfl ?_); refine Ab8 (some 81) rfl rfl Tryd.func78 (by kernel_rfl) rfl #[.pointer (some ad316), .int .i64 (rd t334 x74_1), .int .i64 a2] rfl el ?_; (with_reducible refine (impl_comparer_same.calls k1 _ l0 (rd t334 x74_1) a2 true _ ?side1 A31.out).mono ?_); (case side1 => repeat (first | exact (As1 HF0.out HB.out) | (with_reducible refine Kd.C_alloc ?_ _) | (with_reducible refine Kd.C_drewN ?_ _) | (with_reducible refine Kd.C_drew ?_))); rintro e w33 ⟨rfl, hb⟩; refine ⟨_, rfl, ?_⟩; have n0_ := am (Kd.R_below (rq HO_9.out) hb); have n1_ := am (Kd.R_below (rq HO_10.out) hb); have n2_ := am (Kd.R_below (rq HO_72.out) hb); have n3_ := am (Ai4 (by repeat (first | (with_reducible first | exact HB.out | apply Ac5 | apply Ac6 | apply Ac8) | exact HB.out)) hb); clear HO_9 HO_10 HO_72 HB; revert n0_ n1_ n2_ n3_; intro HO_9 HO_10 HO_72 HB; (try clear hb); (try clear hb2); (try clear hgw); (try clear hk); (try clear hi)))
              go_ret
              exact ⟨by first | rfl | (simp [Aa0, Aa1] <;> rfl) | (simp [*, Aa0, Aa1] <;> rfl), by repeat (first | (with_reducible first | exact HB.out | apply Ac5 | apply Ac6 | apply Ac8) | exact HB.out)⟩
             ·replace c32 := Bool.eq_false_iff.mpr c32
              subst c32
              have H1 : ((g (rd t334 x74_1) a2).bind fun t346 => (if t346 = true then (some true) else (impl_comparer_isGreater.l0 g k1 l0 a1 a2 (rd ((Aa3 l0 0).f2) a1) (rd ((Aa3 l0 0).f3) a2) t334 t341 t334 (t334.length : Int) (wrap64 (x74_1 + 1))))) = some r := by rw [if_neg (show ¬ (false = true) by decide)] at H; exact H
              clear H
              have H := H1
              clear H1
              replace H := Option.bind_eq_some_iff.mp H
              obtain ⟨t346, A340, H⟩ := H
              replace H : (if t346 = true then (some true) else (impl_comparer_isGreater.l0 g k1 l0 a1 a2 (rd ((Aa3 l0 0).f2) a1) (rd ((Aa3 l0 0).f3) a2) t334 t341 t334 (t334.length : Int) (wrap64 (x74_1 + 1)))) = some r := H
              have A34 := am A340
              clear A340
              by_cases c35 : t346 = true
              ·subst c35
               have H1 : (some true) = some r := by rw [if_pos rfl] at H; exact H
               clear H
               have H := H1
               clear H1
               obtain rfl := Option.some.inj H
               have p344 : 0 ≤ (x74_1 : Int) := of_decide_eq_true (by first | (with_reducible assumption) | assumption)
               have q344 : x74_1 < (t334.length : Int) := of_decide_eq_true (by first | (with_reducible assumption) | assumption)
               obtain ⟨ad344, e344, hx344_0⟩ := Kd.at_int (Kd.R_reads' HO_72.out).2.2 x74_1 p344 q344
               cases e344
               replace p344 := eq_true p344
               replace q344 := eq_true q344
               go_wp2_with (first | ((with_reducible refine Aa4 (f := 78) rfl ?_); refine Ab8 (some 81) rfl rfl Tryd.func78 (by kernel_rfl) rfl #[.pointer (some ad316), .int .i64 (rd t334 x74_1), .int .i64 a2] rfl el ?_; (with_reducible refine (impl_comparer_same.calls k1 _ l0 (rd t334 x74_1) a2 false _ ?side1 A31.out).mono ?_); (case side1 => repeat (first | exact (As1 HF0.out HB.out) | (with_reducible refine Kd.C_alloc ?_ _) | (with_reducible refine Kd.C_drewN ?_ _) | (with_reducible refine Kd.C_drew ?_))); rintro e w36 ⟨rfl, hb⟩; refine ⟨_, rfl, ?_⟩; have n0_ := am (Kd.R_below (rq HO_9.out) hb); have n1_ := am (Kd.R_below (rq HO_10.out) hb); have n2_ := am (Kd.R_below (rq HO_72.out) hb); have n3_ := am (Ai4 (by repeat (first | (with_reducible first | exact HB.out | apply Ac5 | apply Ac6 | apply Ac8) | exact HB.out)) hb); clear HO_9 HO_10 HO_72 HB; revert n0_ n1_ n2_ n3_; intro HO_9 HO_10 HO_72 HB; (try clear hb); (try clear hb2); (try clear hgw); (try clear hk); (try clear hi)) | (go_at_call 54; (with_reducible refine (HG.out _ (rd t334 x74_1) a2 true ?side1 ?side2 A34.out).mono ?_); (case side1 => exact As4 HF0.out (by repeat (first | (with_reducible first | exact HB.out | apply Ac5 | apply Ac6 | apply Ac8) | exact HB.out))); (case side2 => exact Bel.inv (by repeat (first | (with_reducible first | exact HB.out | apply Ac5 | apply Ac6 | apply Ac8) | exact HB.out))); rintro e w37 ⟨rfl, hb⟩; have n0_ := am (Am8 (rq HO_9.out) hb); have n1_ := am (Am8 (rq HO_10.out) hb); have n2_ := am (Am8 (rq HO_72.out) hb); have n3_ := am (Ak5 (by repeat (first | (with_reducible first | exact HB.out | apply Ac5 | apply Ac6 | apply Ac8) | exact HB.out)) hb); clear HO_9 HO_10 HO_72 HB; revert n0_ n1_ n2_ n3_; intro HO_9 HO_10 HO_72 HB; (try clear hb); (try clear hb2); (try clear hgw); (try clear hk); (try clear hi)))
               go_ret
               exact ⟨by first | rfl | (simp [Aa0, Aa1] <;> rfl) | (simp [*, Aa0, Aa1] <;> rfl), by repeat (first | (with_reducible first | exact HB.out | apply Ac5 | apply Ac6 | apply Ac8) | exact HB.out)⟩
              ·replace c35 := Bool.eq_false_iff.mpr c35
               subst c35
               have H1 : (impl_comparer_isGreater.l0 g k1 l0 a1 a2 (rd ((Aa3 l0 0).f2) a1) (rd ((Aa3 l0 0).f3) a2) t334 t341 t334 (t334.length : Int) (wrap64 (x74_1 + 1))) = some r := by rw [if_neg (show ¬ (false = true) by decide)] at H; exact H
               clear H
               have H := H1
               clear H1
               have H' := am H
               clear H
               have p344 : 0 ≤ (x74_1 : Int) := of_decide_eq_true (by first | (with_reducible assumption) | assumption)
               have q344 : x74_1 < (t334.length : Int) := of_decide_eq_true (by first | (with_reducible assumption) | assumption)
               obtain ⟨ad344, e344, hx344_0⟩ := Kd.at_int (Kd.R_reads' HO_72.out).2.2 x74_1 p344 q344
               cases e344
               replace p344 := eq_true p344
               replace q344 := eq_true q344
               go_wp2_with (first | ((with_reducible refine Aa4 (f := 78) rfl ?_); refine Ab8 (some 81) rfl rfl Tryd.func78 (by kernel_rfl) rfl #[.pointer (some ad316), .int .i64 (rd t334 x74_1), .int .i64 a2] rfl el ?_; (with_reducible refine (impl_comparer_same.calls k1 _ l0 (rd t334 x74_1) a2 false _ ?side1 A31.out).mono ?_); (case side1 => repeat (first | exact (As1 HF0.out HB.out) | (with_reducible refine Kd.C_alloc ?_ _) | (with_reducible refine Kd.C_drewN ?_ _) | (with_reducible refine Kd.C_drew ?_))); rintro e w38 ⟨rfl, hb⟩; refine ⟨_, rfl, ?_⟩; have n0_ := am (Kd.R_below (rq HO_9.out) hb); have n1_ := am (Kd.R_below (rq HO_10.out) hb); have n2_ := am (Kd.R_below (rq HO_72.out) hb); have n3_ := am (Ai4 (by repeat (first | (with_reducible first | exact HB.out | apply Ac5 | apply Ac6 | apply Ac8) | exact HB.out)) hb); clear HO_9 HO_10 HO_72 HB; revert n0_ n1_ n2_ n3_; intro HO_9 HO_10 HO_72 HB; (try clear hb); (try clear hb2); (try clear hgw); (try clear hk); (try clear hi)) | (go_at_call 54; (with_reducible refine (HG.out _ (rd t334 x74_1) a2 false ?side1 ?side2 A34.out).mono ?_); (case side1 => exact As4 HF0.out (by repeat (first | (with_reducible first | exact HB.out | apply Ac5 | apply Ac6 | apply Ac8) | exact HB.out))); (case side2 => exact Bel.inv (by repeat (first | (with_reducible first | exact HB.out | apply Ac5 | apply Ac6 | apply Ac8) | exact HB.out))); rintro e w39 ⟨rfl, hb⟩; have n0_ := am (Am8 (rq HO_9.out) hb); have n1_ := am (Am8 (rq HO_10.out) hb); have n2_ := am (Am8 (rq HO_72.out) hb); have n3_ := am (Ak5 (by repeat (first | (with_reducible first | exact HB.out | apply Ac5 | apply Ac6 | apply Ac8) | exact HB.out)) hb); clear HO_9 HO_10 HO_72 HB; revert n0_ n1_ n2_ n3_; intro HO_9 HO_10 HO_72 HB; (try clear hb); (try clear hb2); (try clear hgw); (try clear hk); (try clear hi)))
               go_roundg k1
               case measure => have := HK1.out; omega
               case rel => exact ⟨(wrap64 (x74_1 + 1)), (by first | rfl | (simp; done) | (simp [*]; done)), H', ⟨by have := HK1.out; omega⟩, ⟨by (with_reducible repeat (first | apply Kd.R_alloc | apply Kd.R_drewN | apply Kd.R_drew)); exact HO_9.out⟩, ⟨by (with_reducible repeat (first | apply Kd.R_alloc | apply Kd.R_drewN | apply Kd.R_drew)); exact HO_10.out⟩, ⟨by (with_reducible repeat (first | apply Kd.R_alloc | apply Kd.R_drewN | apply Kd.R_drew)); exact HO_72.out⟩, ⟨by repeat (first | (with_reducible first | exact HB.out | apply Ac5 | apply Ac6 | apply Ac8) | exact HB.out)⟩⟩
            ·rw [if_neg c30] at H
             exact absurd H (by simp)
           ·rw [if_neg c29] at H
            exact absurd H (by simp)
          ·rw [if_neg c28] at H
           have c28b0 : decide (x74_1 < (t334.length : Int)) = false := decide_eq_false c28
           clear c28
           by_cases c40 : 0 < (l0.length : Int)
           ·rw [if_pos c40] at H
            have c40b0 : decide (0 < (l0.length : Int)) = true := decide_eq_true c40
            have c40b1 : decide (0 < l0.length) = true := decide_eq_true (by omega)
            clear c40
            replace H := Option.bind_eq_some_iff.mp H
            obtain ⟨t349, A410, H⟩ := H
            replace H : ((slices_Index_int64_int64.f k1 ((Aa3 l0 0).f1) (rd ((Aa3 l0 0).f3) a2)).bind fun t352 => (if (wrap64 (t349 - t352)) < 0 then (some false) else (impl_comparer_isGreater.l1 g k1 l0 a1 t334 t341 (wrap64 (t349 - t352)) t341 (t341.length : Int) 0))) = some r := H
            have A41 := am A410
            clear A410
            replace H := Option.bind_eq_some_iff.mp H
            obtain ⟨t352, A420, H⟩ := H
            replace H : (if (wrap64 (t349 - t352)) < 0 then (some false) else (impl_comparer_isGreater.l1 g k1 l0 a1 t334 t341 (wrap64 (t349 - t352)) t341 (t341.length : Int) 0)) = some r := H
            have A42 := am A420
            clear A420
            by_cases c43 : (wrap64 (t349 - t352)) < 0
            ·rw [if_pos c43] at H
             have c43b0 : decide ((wrap64 (t349 - t352)) < 0) = true := decide_eq_true c43
             clear c43
             obtain rfl := Option.some.inj H
             try go_wp2
             have n0_ := am (Kd.R_drew HO_9.out)
             have n1_ := am (Kd.R_drew HO_10.out)
             have n2_ := am (Kd.R_drew HO_72.out)
             have n3_ := am (Ac8 HB.out)
             clear HO_9 HO_10 HO_72 HB; revert n0_ n1_ n2_ n3_; intro HO_9 HO_10 HO_72 HB
             have p347 : 0 ≤ (0 : Int) := (by omega)
             have q347 : 0 < (l0.length : Int) := of_decide_eq_true (by first | (with_reducible assumption) | assumption)
             obtain ⟨ad347, A347_0, c347_0, A347_1, c347_1, A347_2, c347_2, A347_3, c347_3, e347, hx347_0, hx347_1, hx347_2, hx347_3, hx347_4, hl347_0, hi347_0, hl347_1, hi347_1, hl347_2, hi347_2, hl347_3, hi347_3⟩ := Ak6 HR0.out q347
             have hw347_4 := hx347_4
             have hw347_3 := hx347_3
             have hw347_2 := hx347_2
             have hw347_1 := hx347_1
             have hw347_0 := hx347_0
             obtain rfl : ad316 = ad347 := (by injection e347)
             have qi347 : (0 < l0.length) = True := eq_true (by omega)
             replace hx347_0 := bcB HB.out hx347_0
             replace hx347_1 := bcB HB.out hx347_1
             replace hx347_2 := bcB HB.out hx347_2
             replace hx347_3 := bcB HB.out hx347_3
             replace hx347_4 := bcB HB.out hx347_4
             have HR347_0 := am hi347_0
             have HC347_0 := am hl347_0
             clear hi347_0 hl347_0
             have HR347_1 := am hi347_1
             have HC347_1 := am hl347_1
             clear hi347_1 hl347_1
             have HR347_2 := am hi347_2
             have HC347_2 := am hl347_2
             clear hi347_2 hl347_2
             have HR347_3 := am hi347_3
             have HC347_3 := am hl347_3
             clear hi347_3 hl347_3
             replace p347 := eq_true p347
             replace q347 := eq_true q347
             have p348 : 0 ≤ (0 : Int) := (by omega)
             have q348 : 0 < (l0.length : Int) := of_decide_eq_true (by first | (with_reducible assumption) | assumption)
             obtain ⟨ad348, A348_0, c348_0, A348_1, c348_1, A348_2, c348_2, A348_3, c348_3, e348, hx348_0, hx348_1, hx348_2, hx348_3, hx348_4, hl348_0, hi348_0, hl348_1, hi348_1, hl348_2, hi348_2, hl348_3, hi348_3⟩ := Ak6 HR0.out q348
             have hw348_4 := hx348_4
             have hw348_3 := hx348_3
             have hw348_2 := hx348_2
             have hw348_1 := hx348_1
             have hw348_0 := hx348_0
             obtain rfl : ad316 = ad348 := (by injection e348)
             have qi348 : (0 < l0.length) = True := eq_true (by omega)
             replace hx348_0 := bcB HB.out hx348_0
             replace hx348_1 := bcB HB.out hx348_1
             replace hx348_2 := bcB HB.out hx348_2
             replace hx348_3 := bcB HB.out hx348_3
             replace hx348_4 := bcB HB.out hx348_4
             have HR348_0 := am hi348_0
             have HC348_0 := am hl348_0
             clear hi348_0 hl348_0
             have HR348_1 := am hi348_1
             have HC348_1 := am hl348_1
             clear hi348_1 hl348_1
             have HR348_2 := am hi348_2
             have HC348_2 := am hl348_2
             clear hi348_2 hl348_2
             have HR348_3 := am hi348_3
             have HC348_3 := am hl348_3
             clear hi348_3 hl348_3
             replace p348 := eq_true p348
             replace q348 := eq_true q348
             have ea_ := Option.some.inj (hx347_0.symm.trans hx348_0)
             injection ea_ with ea_ en_ ec_
             subst ea_
             subst ec_
             clear en_
             have ea_ := Option.some.inj (hx347_1.symm.trans hx348_1)
             injection ea_ with ea_ en_ ec_
             subst ea_
             subst ec_
             clear en_
             have ea_ := Option.some.inj (hx347_2.symm.trans hx348_2)
             injection ea_ with ea_ en_ ec_
             subst ea_
             subst ec_
             clear en_
             have ea_ := Option.some.inj (hx347_3.symm.trans hx348_3)
             injection ea_ with ea_ en_ ec_
             subst ea_
             subst ec_
             clear en_
             have p350 : 0 ≤ (0 : Int) := (by omega)
             have q350 : 0 < (l0.length : Int) := of_decide_eq_true (by first | (with_reducible assumption) | assumption)
             obtain ⟨ad350, A350_0, c350_0, A350_1, c350_1, A350_2, c350_2, A350_3, c350_3, e350, hx350_0, hx350_1, hx350_2, hx350_3, hx350_4, hl350_0, hi350_0, hl350_1, hi350_1, hl350_2, hi350_2, hl350_3, hi350_3⟩ := Ak6 HR0.out q350
             have hw350_4 := hx350_4
             have hw350_3 := hx350_3
             have hw350_2 := hx350_2
             have hw350_1 := hx350_1
             have hw350_0 := hx350_0
             obtain rfl : ad316 = ad350 := (by injection e350)
             have qi350 : (0 < l0.length) = True := eq_true (by omega)
             replace hx350_0 := bcB HB.out hx350_0
             replace hx350_1 := bcB HB.out hx350_1
             replace hx350_2 := bcB HB.out hx350_2
             replace hx350_3 := bcB HB.out hx350_3
             replace hx350_4 := bcB HB.out hx350_4
             have HR350_0 := am hi350_0
             have HC350_0 := am hl350_0
             clear hi350_0 hl350_0
             have HR350_1 := am hi350_1
             have HC350_1 := am hl350_1
             clear hi350_1 hl350_1
             have HR350_2 := am hi350_2
             have HC350_2 := am hl350_2
             clear hi350_2 hl350_2
             have HR350_3 := am hi350_3
             have HC350_3 := am hl350_3
             clear hi350_3 hl350_3
             replace p350 := eq_true p350
             replace q350 := eq_true q350
             have ea_ := Option.some.inj (hx347_0.symm.trans hx350_0)
             injection ea_ with ea_ en_ ec_
             subst ea_
             subst ec_
             clear en_
             have ea_ := Option.some.inj (hx347_1.symm.trans hx350_1)
             injection ea_ with ea_ en_ ec_
             subst ea_
             subst ec_
             clear en_
             have ea_ := Option.some.inj (hx347_2.symm.trans hx350_2)
             injection ea_ with ea_ en_ ec_
             subst ea_
             subst ec_
             clear en_
             have ea_ := Option.some.inj (hx347_3.symm.trans hx350_3)
             injection ea_ with ea_ en_ ec_
             subst ea_
             subst ec_
             clear en_
             have p351 : 0 ≤ (0 : Int) := (by omega)
             have q351 : 0 < (l0.length : Int) := of_decide_eq_true (by first | (with_reducible assumption) | assumption)
             obtain ⟨ad351, A351_0, c351_0, A351_1, c351_1, A351_2, c351_2, A351_3, c351_3, e351, hx351_0, hx351_1, hx351_2, hx351_3, hx351_4, hl351_0, hi351_0, hl351_1, hi351_1, hl351_2, hi351_2, hl351_3, hi351_3⟩ := Ak6 HR0.out q351
             have hw351_4 := hx351_4
             have hw351_3 := hx351_3
             have hw351_2 := hx351_2
             have hw351_1 := hx351_1
             have hw351_0 := hx351_0
             obtain rfl : ad316 = ad351 := (by injection e351)
             have qi351 : (0 < l0.length) = True := eq_true (by omega)
             replace hx351_0 := bcB HB.out hx351_0
             replace hx351_1 := bcB HB.out hx351_1
             replace hx351_2 := bcB HB.out hx351_2
             replace hx351_3 := bcB HB.out hx351_3
             replace hx351_4 := bcB HB.out hx351_4
             have HR351_0 := am hi351_0
             have HC351_0 := am hl351_0
             clear hi351_0 hl351_0
             have HR351_1 := am hi351_1
             have HC351_1 := am hl351_1
             clear hi351_1 hl351_1
             have HR351_2 := am hi351_2
             have HC351_2 := am hl351_2
             clear hi351_2 hl351_2
             have HR351_3 := am hi351_3
             have HC351_3 := am hl351_3
             clear hi351_3 hl351_3
             replace p351 := eq_true p351
             replace q351 := eq_true q351
             have ea_ := Option.some.inj (hx347_0.symm.trans hx351_0)
             injection ea_ with ea_ en_ ec_
             subst ea_
             subst ec_
             clear en_
             have ea_ := Option.some.inj (hx347_1.symm.trans hx351_1)
             injection ea_ with ea_ en_ ec_
             subst ea_
             subst ec_
             clear en_
             have ea_ := Option.some.inj (hx347_2.symm.trans hx351_2)
             injection ea_ with ea_ en_ ec_
             subst ea_
             subst ec_
             clear en_
             have ea_ := Option.some.inj (hx347_3.symm.trans hx351_3)
             injection ea_ with ea_ en_ ec_
             subst ea_
             subst ec_
             clear en_
             refine Ae9 (n := 14) (S := fun w' => w'.cell? ad316 = some (.slice A347_0 ((Aa3 l0 0).f0.f0).length c347_0) ∧ w'.cell? ⟨ad316.block, ad316.off + 1, none⟩ = some (.slice A347_1 ((Aa3 l0 0).f1).length c347_1) ∧ w'.cell? ⟨ad316.block, ad316.off + 2, none⟩ = some (.slice A347_2 ((Aa3 l0 0).f2).length c347_2) ∧ w'.cell? ⟨ad316.block, ad316.off + 3, none⟩ = some (.slice A347_3 ((Aa3 l0 0).f3).length c347_3) ∧ w'.cell? ⟨ad316.block, ad316.off + 4, none⟩ = some (.map (some ((Aa3 l0 0).f4).toNat)) ∧ w'.cell? ad316 = some (.slice A347_0 ((Aa3 l0 0).f0.f0).length c347_0) ∧ w'.cell? ⟨ad316.block, ad316.off + 1, none⟩ = some (.slice A347_1 ((Aa3 l0 0).f1).length c347_1) ∧ w'.cell? ⟨ad316.block, ad316.off + 2, none⟩ = some (.slice A347_2 ((Aa3 l0 0).f2).length c347_2) ∧ w'.cell? ⟨ad316.block, ad316.off + 3, none⟩ = some (.slice A347_3 ((Aa3 l0 0).f3).length c347_3) ∧ w'.cell? ⟨ad316.block, ad316.off + 4, none⟩ = some (.map (some ((Aa3 l0 0).f4).toNat)) ∧ w'.cell? ad316 = some (.slice A347_0 ((Aa3 l0 0).f0.f0).length c347_0) ∧ w'.cell? ⟨ad316.block, ad316.off + 1, none⟩ = some (.slice A347_1 ((Aa3 l0 0).f1).length c347_1) ∧ w'.cell? ⟨ad316.block, ad316.off + 2, none⟩ = some (.slice A347_2 ((Aa3 l0 0).f2).length c347_2) ∧ w'.cell? ⟨ad316.block, ad316.off + 3, none⟩ = some (.slice A347_3 ((Aa3 l0 0).f3).length c347_3) ∧ w'.cell? ⟨ad316.block, ad316.off + 4, none⟩ = some (.map (some ((Aa3 l0 0).f4).toNat)) ∧ w'.cell? ad316 = some (.slice A347_0 ((Aa3 l0 0).f0.f0).length c347_0) ∧ w'.cell? ⟨ad316.block, ad316.off + 1, none⟩ = some (.slice A347_1 ((Aa3 l0 0).f1).length c347_1) ∧ w'.cell? ⟨ad316.block, ad316.off + 2, none⟩ = some (.slice A347_2 ((Aa3 l0 0).f2).length c347_2) ∧ w'.cell? ⟨ad316.block, ad316.off + 3, none⟩ = some (.slice A347_3 ((Aa3 l0 0).f3).length c347_3) ∧ w'.cell? ⟨ad316.block, ad316.off + 4, none⟩ = some (.map (some ((Aa3 l0 0).f4).toNat))) (ds := []) #[false, false, false, false, false, false, false, false, false, false, false, false, false, false] (by kernel_rfl) rfl rfl ⟨(bcB HB.out hw347_0), (bcB HB.out hw347_1), (bcB HB.out hw347_2), (bcB HB.out hw347_3), (bcB HB.out hw347_4), (bcB HB.out hw348_0), (bcB HB.out hw348_1), (bcB HB.out hw348_2), (bcB HB.out hw348_3), (bcB HB.out hw348_4), (bcB HB.out hw350_0), (bcB HB.out hw350_1), (bcB HB.out hw350_2), (bcB HB.out hw350_3), (bcB HB.out hw350_4), (bcB HB.out hw351_0), (bcB HB.out hw351_1), (bcB HB.out hw351_2), (bcB HB.out hw351_3), (bcB HB.out hw351_4)⟩ (fun hHeld => ?_); refine Ad1 impl_comparer_isGreater.tab13 impl_comparer_isGreater.bits13 (fun HT_ HW_ => ?_)
             generalize wr.drew = w44 at HO_9 HO_10 HO_72 HB HR347_0 HR347_1 HR347_2 HR347_3 HR348_0 HR348_1 HR348_2 HR348_3 HR350_0 HR350_1 HR350_2 HR350_3 HR351_0 HR351_1 HR351_2 HR351_3 hx347_0 hx347_1 hx347_2 hx347_3 hx347_4 hx348_0 hx348_1 hx348_2 hx348_3 hx348_4 hx350_0 hx350_1 hx350_2 hx350_3 hx350_4 hx351_0 hx351_1 hx351_2 hx351_3 hx351_4 hHeld ⊢
             refine Ab2 (i := 0) (N := some 89) (v := ?_) (a' := ?_) #[true, false, false, false, false, false, false, false, false, false, false, false, false, false] rfl rfl (Aa9 HT_.out (by kernel_rfl)) (fun _ _ _ h => h) (Or.inl ⟨by rfl, ?_⟩) ?_ ?_
             rotate_left
             ·intro w'
              go_simp
              with_reducible rfl
             rotate_left
             ·simp only [Act.put, lsp, Aa8, Ab0]
              rfl
             refine Ab2 (i := 1) (N := some 90) (v := ?_) (a' := ?_) #[true, true, false, false, false, false, false, false, false, false, false, false, false, false] rfl rfl (Aa9 HT_.out (by kernel_rfl)) (fun _ _ _ h => h) (Or.inl ⟨by rfl, ?_⟩) ?_ ?_
             rotate_left
             ·intro w'
              go_simp
              with_reducible rfl
             rotate_left
             ·simp only [Act.put, lsp, Aa8, Ab0]
              rfl
             refine Ab2 (i := 2) (N := some 91) (v := ?_) (a' := ?_) #[true, true, true, false, false, false, false, false, false, false, false, false, false, false] rfl rfl (Aa9 HT_.out (by kernel_rfl)) (fun _ _ _ h => h) (Or.inl ⟨by rfl, ?_⟩) ?_ ?_
             rotate_left
             ·intro w'
              go_simp
              with_reducible rfl
             rotate_left
             ·simp only [Act.put, lsp, Aa8, Ab0]
              rfl
             refine Ab2 (i := 4) (N := some 93) (v := ?_) (a' := ?_) #[true, true, true, false, true, false, false, false, false, false, false, false, false, false] rfl rfl (Aa9 HT_.out (by kernel_rfl)) (fun _ _ _ h => h) (Or.inl ⟨by rfl, ?_⟩) ?_ ?_
             rotate_left
             ·intro w'
              go_simp
              with_reducible rfl
             rotate_left
             ·simp only [Act.put, lsp, Aa8, Ab0]
              rfl
             refine Ab2 (i := 6) (N := some 95) (v := ?_) (a' := ?_) #[true, true, true, false, true, false, true, false, false, false, false, false, false, false] rfl rfl (Aa9 HT_.out (by kernel_rfl)) (fun _ _ _ h => h) (Or.inl ⟨by rfl, ?_⟩) ?_ ?_
             rotate_left
             ·intro w'
              go_simp
              with_reducible rfl
             rotate_left
             ·simp only [Act.put, lsp, Aa8, Ab0]
              rfl
             refine Ab2 (i := 7) (N := some 96) (v := ?_) (a' := ?_) #[true, true, true, false, true, false, true, true, false, false, false, false, false, false] rfl rfl (Aa9 HT_.out (by kernel_rfl)) (fun _ _ _ h => h) (Or.inl ⟨by rfl, ?_⟩) ?_ ?_
             rotate_left
             ·intro w'
              go_simp
              with_reducible rfl
             rotate_left
             ·simp only [Act.put, lsp, Aa8, Ab0]
              rfl
             refine Ab2 (i := 8) (N := some 97) (v := ?_) (a' := ?_) #[true, true, true, false, true, false, true, true, true, false, false, false, false, false] rfl rfl (Aa9 HT_.out (by kernel_rfl)) (fun _ _ _ h => h) (Or.inl ⟨by rfl, ?_⟩) ?_ ?_
             rotate_left
             ·intro w'
              go_simp
              with_reducible rfl
             rotate_left
             ·simp only [Act.put, lsp, Aa8, Ab0]
              rfl
             refine Ab2 (i := 10) (N := some 99) (v := ?_) (a' := ?_) #[true, true, true, false, true, false, true, true, true, false, true, false, false, false] rfl rfl (Aa9 HT_.out (by kernel_rfl)) (fun _ _ _ h => h) (Or.inl ⟨by rfl, ?_⟩) ?_ ?_
             rotate_left
             ·intro w'
              go_simp
              with_reducible rfl
             rotate_left
             ·simp only [Act.put, lsp, Aa8, Ab0]
              rfl
             refine take_ (i := 3) (N := some 92) (v := ?_) (a' := ?_) #[true, true, true, true, true, false, true, true, true, false, true, false, false, false] rfl rfl (Ac0 HT_.out HW_.out (by kernel_rfl)) (fun _ _ _ h => h) (Or.inl ⟨by rfl, ?_⟩) hHeld ?_ ?_
             rotate_left
             ·rintro w' ⟨s0, s1, s2, s3, s4, s5, s6, s7, s8, s9, s10, s11, s12, s13, s14, s15, s16, s17, s18, s19⟩
              go_simp
              with_reducible rfl
             rotate_left
             ·simp only [Act.put, lsp, Aa8, Ab0]
              rfl
             refine take_ (i := 9) (N := some 98) (v := ?_) (a' := ?_) #[true, true, true, true, true, false, true, true, true, true, true, false, false, false] rfl rfl (Ac0 HT_.out HW_.out (by kernel_rfl)) (fun _ _ _ h => h) (Or.inl ⟨by rfl, ?_⟩) hHeld ?_ ?_
             rotate_left
             ·rintro w' ⟨s0, s1, s2, s3, s4, s5, s6, s7, s8, s9, s10, s11, s12, s13, s14, s15, s16, s17, s18, s19⟩
              go_simp
              with_reducible rfl
             rotate_left
             ·simp only [Act.put, lsp, Aa8, Ab0]
              rfl
             refine Al7 (i := 5) (N := some 94) #[true, true, true, true, true, true, true, true, true, true, true, false, false, false] rfl rfl (Af4 HT_.out (by kernel_rfl)) (by decide) (fun K hK => ?_)
             refine Ah1 Tryd.func64 (by kernel_rfl) rfl #[.slice A347_1 ((Aa3 l0 0).f1).length c347_1, .int .i64 (rd ((Aa3 l0 0).f2) a1)] (by rfl) rfl rfl el ?_
             with_reducible refine (slices_Index_int64_int64.calls k1 _ _ ((Aa3 l0 0).f1) (rd ((Aa3 l0 0).f2) a1) t349 _ ?side1 ?side2 A41.out).mono ?_
             (case side1 => repeat (first | exact (Au1 HR348_1.out HB.out) | (with_reducible refine Kd.C_alloc ?_ _) | (with_reducible refine Kd.C_drewN ?_ _) | (with_reducible refine Kd.C_drew ?_)))
             (case side2 => exact HC348_1.out)
             rintro e w' ⟨rfl, ⟨nd, rfl⟩⟩
             refine ⟨_, rfl, ?_⟩
             refine hK.out _ _ ⟨(bcB HB.out hw347_0), (bcB HB.out hw347_1), (bcB HB.out hw347_2), (bcB HB.out hw347_3), (bcB HB.out hw347_4), (bcB HB.out hw348_0), (bcB HB.out hw348_1), (bcB HB.out hw348_2), (bcB HB.out hw348_3), (bcB HB.out hw348_4), (bcB HB.out hw350_0), (bcB HB.out hw350_1), (bcB HB.out hw350_2), (bcB HB.out hw350_3), (bcB HB.out hw350_4), (bcB HB.out hw351_0), (bcB HB.out hw351_1), (bcB HB.out hw351_2), (bcB HB.out hw351_3), (bcB HB.out hw351_4)⟩ (fun hHeld => ?_)
             clear hK K
             refine Ah0 (a' := ?_) ?_ ?_
             rotate_left
             ·show Act.put _ (some 94) _ = _
              simp only [Act.put, lsp, Aa8, Ab0]
              rfl
             refine Al7 (i := 11) (N := some 100) #[true, true, true, true, true, true, true, true, true, true, true, true, false, false] rfl rfl (Af4 HT_.out (by kernel_rfl)) (by decide) (fun K hK => ?_)
             refine Ah1 Tryd.func64 (by kernel_rfl) rfl #[.slice A347_1 ((Aa3 l0 0).f1).length c347_1, .int .i64 (rd ((Aa3 l0 0).f3) a2)] (by rfl) rfl rfl el ?_
             with_reducible refine (slices_Index_int64_int64.calls k1 _ _ ((Aa3 l0 0).f1) (rd ((Aa3 l0 0).f3) a2) t352 _ ?side1 ?side2 A42.out).mono ?_
             (case side1 => repeat (first | exact (Au1 HR351_1.out (by repeat (first | (with_reducible first | exact HB.out | apply Ac5 | apply Ac6 | apply Ac8) | exact HB.out))) | (with_reducible refine Kd.C_alloc ?_ _) | (with_reducible refine Kd.C_drewN ?_ _) | (with_reducible refine Kd.C_drew ?_)))
             (case side2 => exact HC351_1.out)
             rintro e w' ⟨rfl, ⟨nd, rfl⟩⟩
             refine ⟨_, rfl, ?_⟩
             refine hK.out _ _ ⟨(bcB HB.out hw347_0), (bcB HB.out hw347_1), (bcB HB.out hw347_2), (bcB HB.out hw347_3), (bcB HB.out hw347_4), (bcB HB.out hw348_0), (bcB HB.out hw348_1), (bcB HB.out hw348_2), (bcB HB.out hw348_3), (bcB HB.out hw348_4), (bcB HB.out hw350_0), (bcB HB.out hw350_1), (bcB HB.out hw350_2), (bcB HB.out hw350_3), (bcB HB.out hw350_4), (bcB HB.out hw351_0), (bcB HB.out hw351_1), (bcB HB.out hw351_2), (bcB HB.out hw351_3), (bcB HB.out hw351_4)⟩ (fun hHeld => ?_)
             clear hK K
             refine Ah0 (a' := ?_) ?_ ?_
             rotate_left
             ·show Act.put _ (some 100) _ = _
              simp only [Act.put, lsp, Aa8, Ab0]
              rfl
             refine Ab2 (i := 12) (N := some 101) (v := ?_) (a' := ?_) #[true, true, true, true, true, true, true, true, true, true, true, true, true, false] rfl rfl (Aa9 HT_.out (by kernel_rfl)) (fun _ _ _ h => h) (Or.inl ⟨by rfl, ?_⟩) ?_ ?_
             rotate_left
             ·intro w'
              go_simp
              with_reducible rfl
             rotate_left
             ·simp only [Act.put, lsp, Aa8, Ab0]
              rfl
             refine Ab2 (i := 13) (N := some 13) (v := ?_) (a' := ?_) #[true, true, true, true, true, true, true, true, true, true, true, true, true, true] rfl rfl (Aa9 HT_.out (by kernel_rfl)) (fun _ _ _ h => h) (Or.inl ⟨by rfl, ?_⟩) ?_ ?_
             rotate_left
             ·intro w'
              go_simp
              with_reducible rfl
             rotate_left
             ·simp only [Act.put, lsp, Aa8, Ab0]
              rfl
             refine Ah2 (Ae1 HT_.out (by kernel_rfl)) ?_
             try go_wp2
             go_ret
             exact ⟨by first | rfl | (simp [Aa0, Aa1] <;> rfl) | (simp [*, Aa0, Aa1] <;> rfl), by repeat (first | (with_reducible first | exact HB.out | apply Ac5 | apply Ac6 | apply Ac8) | exact HB.out)⟩
            ·rw [if_neg c43] at H
             have c43b0 : decide ((wrap64 (t349 - t352)) < 0) = false := decide_eq_false c43
             clear c43
             have H' := am H
             clear H
             try go_wp2
             have n0_ := am (Kd.R_drew HO_9.out)
             have n1_ := am (Kd.R_drew HO_10.out)
             have n2_ := am (Kd.R_drew HO_72.out)
             have n3_ := am (Ac8 HB.out)
             clear HO_9 HO_10 HO_72 HB; revert n0_ n1_ n2_ n3_; intro HO_9 HO_10 HO_72 HB
             have p347 : 0 ≤ (0 : Int) := (by omega)
             have q347 : 0 < (l0.length : Int) := of_decide_eq_true (by first | (with_reducible assumption) | assumption)
             obtain ⟨ad347, A347_0, c347_0, A347_1, c347_1, A347_2, c347_2, A347_3, c347_3, e347, hx347_0, hx347_1, hx347_2, hx347_3, hx347_4, hl347_0, hi347_0, hl347_1, hi347_1, hl347_2, hi347_2, hl347_3, hi347_3⟩ := Ak6 HR0.out q347
             have hw347_4 := hx347_4
             have hw347_3 := hx347_3
             have hw347_2 := hx347_2
             have hw347_1 := hx347_1
             have hw347_0 := hx347_0
             obtain rfl : ad316 = ad347 := (by injection e347)
             have qi347 : (0 < l0.length) = True := eq_true (by omega)
             replace hx347_0 := bcB HB.out hx347_0
             replace hx347_1 := bcB HB.out hx347_1
             replace hx347_2 := bcB HB.out hx347_2
             replace hx347_3 := bcB HB.out hx347_3
             replace hx347_4 := bcB HB.out hx347_4
             have HR347_0 := am hi347_0
             have HC347_0 := am hl347_0
             clear hi347_0 hl347_0
             have HR347_1 := am hi347_1
             have HC347_1 := am hl347_1
             clear hi347_1 hl347_1
             have HR347_2 := am hi347_2
             have HC347_2 := am hl347_2
             clear hi347_2 hl347_2
             have HR347_3 := am hi347_3
             have HC347_3 := am hl347_3
             clear hi347_3 hl347_3
             replace p347 := eq_true p347
             replace q347 := eq_true q347
             have p348 : 0 ≤ (0 : Int) := (by omega)
             have q348 : 0 < (l0.length : Int) := of_decide_eq_true (by first | (with_reducible assumption) | assumption)
             obtain ⟨ad348, A348_0, c348_0, A348_1, c348_1, A348_2, c348_2, A348_3, c348_3, e348, hx348_0, hx348_1, hx348_2, hx348_3, hx348_4, hl348_0, hi348_0, hl348_1, hi348_1, hl348_2, hi348_2, hl348_3, hi348_3⟩ := Ak6 HR0.out q348
             have hw348_4 := hx348_4
             have hw348_3 := hx348_3
             have hw348_2 := hx348_2
             have hw348_1 := hx348_1
             have hw348_0 := hx348_0
             obtain rfl : ad316 = ad348 := (by injection e348)
             have qi348 : (0 < l0.length) = True := eq_true (by omega)
             replace hx348_0 := bcB HB.out hx348_0
             replace hx348_1 := bcB HB.out hx348_1
             replace hx348_2 := bcB HB.out hx348_2
             replace hx348_3 := bcB HB.out hx348_3
             replace hx348_4 := bcB HB.out hx348_4
             have HR348_0 := am hi348_0
             have HC348_0 := am hl348_0
             clear hi348_0 hl348_0
             have HR348_1 := am hi348_1
             have HC348_1 := am hl348_1
             clear hi348_1 hl348_1
             have HR348_2 := am hi348_2
             have HC348_2 := am hl348_2
             clear hi348_2 hl348_2
             have HR348_3 := am hi348_3
             have HC348_3 := am hl348_3
             clear hi348_3 hl348_3
             replace p348 := eq_true p348
             replace q348 := eq_true q348
             have ea_ := Option.some.inj (hx347_0.symm.trans hx348_0)
             injection ea_ with ea_ en_ ec_
             subst ea_
             subst ec_
             clear en_
             have ea_ := Option.some.inj (hx347_1.symm.trans hx348_1)
             injection ea_ with ea_ en_ ec_
             subst ea_
             subst ec_
             clear en_
             have ea_ := Option.some.inj (hx347_2.symm.trans hx348_2)
             injection ea_ with ea_ en_ ec_
             subst ea_
             subst ec_
             clear en_
             have ea_ := Option.some.inj (hx347_3.symm.trans hx348_3)
             injection ea_ with ea_ en_ ec_
             subst ea_
             subst ec_
             clear en_
             have p350 : 0 ≤ (0 : Int) := (by omega)
             have q350 : 0 < (l0.length : Int) := of_decide_eq_true (by first | (with_reducible assumption) | assumption)
             obtain ⟨ad350, A350_0, c350_0, A350_1, c350_1, A350_2, c350_2, A350_3, c350_3, e350, hx350_0, hx350_1, hx350_2, hx350_3, hx350_4, hl350_0, hi350_0, hl350_1, hi350_1, hl350_2, hi350_2, hl350_3, hi350_3⟩ := Ak6 HR0.out q350
             have hw350_4 := hx350_4
             have hw350_3 := hx350_3
             have hw350_2 := hx350_2
             have hw350_1 := hx350_1
             have hw350_0 := hx350_0
             obtain rfl : ad316 = ad350 := (by injection e350)
             have qi350 : (0 < l0.length) = True := eq_true (by omega)
             replace hx350_0 := bcB HB.out hx350_0
             replace hx350_1 := bcB HB.out hx350_1
             replace hx350_2 := bcB HB.out hx350_2
             replace hx350_3 := bcB HB.out hx350_3
             replace hx350_4 := bcB HB.out hx350_4
             have HR350_0 := am hi350_0
             have HC350_0 := am hl350_0
             clear hi350_0 hl350_0
             have HR350_1 := am hi350_1
             have HC350_1 := am hl350_1
             clear hi350_1 hl350_1
             have HR350_2 := am hi350_2
             have HC350_2 := am hl350_2
             clear hi350_2 hl350_2
             have HR350_3 := am hi350_3
             have HC350_3 := am hl350_3
             clear hi350_3 hl350_3
             replace p350 := eq_true p350
             replace q350 := eq_true q350
             have ea_ := Option.some.inj (hx347_0.symm.trans hx350_0)
             injection ea_ with ea_ en_ ec_
             subst ea_
             subst ec_
             clear en_
             have ea_ := Option.some.inj (hx347_1.symm.trans hx350_1)
             injection ea_ with ea_ en_ ec_
             subst ea_
             subst ec_
             clear en_
             have ea_ := Option.some.inj (hx347_2.symm.trans hx350_2)
             injection ea_ with ea_ en_ ec_
             subst ea_
             subst ec_
             clear en_
             have ea_ := Option.some.inj (hx347_3.symm.trans hx350_3)
             injection ea_ with ea_ en_ ec_
             subst ea_
             subst ec_
             clear en_
             have p351 : 0 ≤ (0 : Int) := (by omega)
             have q351 : 0 < (l0.length : Int) := of_decide_eq_true (by first | (with_reducible assumption) | assumption)
             obtain ⟨ad351, A351_0, c351_0, A351_1, c351_1, A351_2, c351_2, A351_3, c351_3, e351, hx351_0, hx351_1, hx351_2, hx351_3, hx351_4, hl351_0, hi351_0, hl351_1, hi351_1, hl351_2, hi351_2, hl351_3, hi351_3⟩ := Ak6 HR0.out q351
             have hw351_4 := hx351_4
             have hw351_3 := hx351_3
             have hw351_2 := hx351_2
             have hw351_1 := hx351_1
             have hw351_0 := hx351_0
             obtain rfl : ad316 = ad351 := (by injection e351)
             have qi351 : (0 < l0.length) = True := eq_true (by omega)
             replace hx351_0 := bcB HB.out hx351_0
             replace hx351_1 := bcB HB.out hx351_1
             replace hx351_2 := bcB HB.out hx351_2
             replace hx351_3 := bcB HB.out hx351_3
             replace hx351_4 := bcB HB.out hx351_4
             have HR351_0 := am hi351_0
             have HC351_0 := am hl351_0
             clear hi351_0 hl351_0
             have HR351_1 := am hi351_1
             have HC351_1 := am hl351_1
             clear hi351_1 hl351_1
             have HR351_2 := am hi351_2
             have HC351_2 := am hl351_2
             clear hi351_2 hl351_2
             have HR351_3 := am hi351_3
             have HC351_3 := am hl351_3
             clear hi351_3 hl351_3
             replace p351 := eq_true p351
             replace q351 := eq_true q351
             have ea_ := Option.some.inj (hx347_0.symm.trans hx351_0)
             injection ea_ with ea_ en_ ec_
             subst ea_
             subst ec_
             clear en_
             have ea_ := Option.some.inj (hx347_1.symm.trans hx351_1)
             injection ea_ with ea_ en_ ec_
             subst ea_
             subst ec_
             clear en_
             have ea_ := Option.some.inj (hx347_2.symm.trans hx351_2)
             injection ea_ with ea_ en_ ec_
             subst ea_
             subst ec_
             clear en_
             have ea_ := Option.some.inj (hx347_3.symm.trans hx351_3)
             injection ea_ with ea_ en_ ec_
             subst ea_
             subst ec_
             clear en_
             refine Ae9 (n := 14) (S := fun w' => w'.cell? ad316 = some (.slice A347_0 ((Aa3 l0 0).f0.f0).length c347_0) ∧ w'.cell? ⟨ad316.block, ad316.off + 1, none⟩ = some (.slice A347_1 ((Aa3 l0 0).f1).length c347_1) ∧ w'.cell? ⟨ad316.block, ad316.off + 2, none⟩ = some (.slice A347_2 ((Aa3 l0 0).f2).length c347_2) ∧ w'.cell? ⟨ad316.block, ad316.off + 3, none⟩ = some (.slice A347_3 ((Aa3 l0 0).f3).length c347_3) ∧ w'.cell? ⟨ad316.block, ad316.off + 4, none⟩ = some (.map (some ((Aa3 l0 0).f4).toNat)) ∧ w'.cell? ad316 = some (.slice A347_0 ((Aa3 l0 0).f0.f0).length c347_0) ∧ w'.cell? ⟨ad316.block, ad316.off + 1, none⟩ = some (.slice A347_1 ((Aa3 l0 0).f1).length c347_1) ∧ w'.cell? ⟨ad316.block, ad316.off + 2, none⟩ = some (.slice A347_2 ((Aa3 l0 0).f2).length c347_2) ∧ w'.cell? ⟨ad316.block, ad316.off + 3, none⟩ = some (.slice A347_3 ((Aa3 l0 0).f3).length c347_3) ∧ w'.cell? ⟨ad316.block, ad316.off + 4, none⟩ = some (.map (some ((Aa3 l0 0).f4).toNat)) ∧ w'.cell? ad316 = some (.slice A347_0 ((Aa3 l0 0).f0.f0).length c347_0) ∧ w'.cell? ⟨ad316.block, ad316.off + 1, none⟩ = some (.slice A347_1 ((Aa3 l0 0).f1).length c347_1) ∧ w'.cell? ⟨ad316.block, ad316.off + 2, none⟩ = some (.slice A347_2 ((Aa3 l0 0).f2).length c347_2) ∧ w'.cell? ⟨ad316.block, ad316.off + 3, none⟩ = some (.slice A347_3 ((Aa3 l0 0).f3).length c347_3) ∧ w'.cell? ⟨ad316.block, ad316.off + 4, none⟩ = some (.map (some ((Aa3 l0 0).f4).toNat)) ∧ w'.cell? ad316 = some (.slice A347_0 ((Aa3 l0 0).f0.f0).length c347_0) ∧ w'.cell? ⟨ad316.block, ad316.off + 1, none⟩ = some (.slice A347_1 ((Aa3 l0 0).f1).length c347_1) ∧ w'.cell? ⟨ad316.block, ad316.off + 2, none⟩ = some (.slice A347_2 ((Aa3 l0 0).f2).length c347_2) ∧ w'.cell? ⟨ad316.block, ad316.off + 3, none⟩ = some (.slice A347_3 ((Aa3 l0 0).f3).length c347_3) ∧ w'.cell? ⟨ad316.block, ad316.off + 4, none⟩ = some (.map (some ((Aa3 l0 0).f4).toNat))) (ds := []) #[false, false, false, false, false, false, false, false, false, false, false, false, false, false] (by kernel_rfl) rfl rfl ⟨(bcB HB.out hw347_0), (bcB HB.out hw347_1), (bcB HB.out hw347_2), (bcB HB.out hw347_3), (bcB HB.out hw347_4), (bcB HB.out hw348_0), (bcB HB.out hw348_1), (bcB HB.out hw348_2), (bcB HB.out hw348_3), (bcB HB.out hw348_4), (bcB HB.out hw350_0), (bcB HB.out hw350_1), (bcB HB.out hw350_2), (bcB HB.out hw350_3), (bcB HB.out hw350_4), (bcB HB.out hw351_0), (bcB HB.out hw351_1), (bcB HB.out hw351_2), (bcB HB.out hw351_3), (bcB HB.out hw351_4)⟩ (fun hHeld => ?_); refine Ad1 impl_comparer_isGreater.tab13 impl_comparer_isGreater.bits13 (fun HT_ HW_ => ?_)
             generalize wr.drew = w45 at HO_9 HO_10 HO_72 HB HR347_0 HR347_1 HR347_2 HR347_3 HR348_0 HR348_1 HR348_2 HR348_3 HR350_0 HR350_1 HR350_2 HR350_3 HR351_0 HR351_1 HR351_2 HR351_3 hx347_0 hx347_1 hx347_2 hx347_3 hx347_4 hx348_0 hx348_1 hx348_2 hx348_3 hx348_4 hx350_0 hx350_1 hx350_2 hx350_3 hx350_4 hx351_0 hx351_1 hx351_2 hx351_3 hx351_4 hHeld ⊢
             refine Ab2 (i := 0) (N := some 89) (v := ?_) (a' := ?_) #[true, false, false, false, false, false, false, false, false, false, false, false, false, false] rfl rfl (Aa9 HT_.out (by kernel_rfl)) (fun _ _ _ h => h) (Or.inl ⟨by rfl, ?_⟩) ?_ ?_
             rotate_left
             ·intro w'
              go_simp
              with_reducible rfl
             rotate_left
             ·simp only [Act.put, lsp, Aa8, Ab0]
              rfl
             refine Ab2 (i := 1) (N := some 90) (v := ?_) (a' := ?_) #[true, true, false, false, false, false, false, false, false, false, false, false, false, false] rfl rfl (Aa9 HT_.out (by kernel_rfl)) (fun _ _ _ h => h) (Or.inl ⟨by rfl, ?_⟩) ?_ ?_
             rotate_left
             ·intro w'
              go_simp
              with_reducible rfl
             rotate_left
             ·simp only [Act.put, lsp, Aa8, Ab0]
              rfl
             refine Ab2 (i := 2) (N := some 91) (v := ?_) (a' := ?_) #[true, true, true, false, false, false, false, false, false, false, false, false, false, false] rfl rfl (Aa9 HT_.out (by kernel_rfl)) (fun _ _ _ h => h) (Or.inl ⟨by rfl, ?_⟩) ?_ ?_
             rotate_left
             ·intro w'
              go_simp
              with_reducible rfl
             rotate_left
             ·simp only [Act.put, lsp, Aa8, Ab0]
              rfl
             refine Ab2 (i := 4) (N := some 93) (v := ?_) (a' := ?_) #[true, true, true, false, true, false, false, false, false, false, false, false, false, false] rfl rfl (Aa9 HT_.out (by kernel_rfl)) (fun _ _ _ h => h) (Or.inl ⟨by rfl, ?_⟩) ?_ ?_
             rotate_left
             ·intro w'
              go_simp
              with_reducible rfl
             rotate_left
             ·simp only [Act.put, lsp, Aa8, Ab0]
              rfl
             refine Ab2 (i := 6) (N := some 95) (v := ?_) (a' := ?_) #[true, true, true, false, true, false, true, false, false, false, false, false, false, false] rfl rfl (Aa9 HT_.out (by kernel_rfl)) (fun _ _ _ h => h) (Or.inl ⟨by rfl, ?_⟩) ?_ ?_
             rotate_left
             ·intro w'
              go_simp
              with_reducible rfl
             rotate_left
             ·simp only [Act.put, lsp, Aa8, Ab0]
              rfl
             refine Ab2 (i := 7) (N := some 96) (v := ?_) (a' := ?_) #[true, true, true, false, true, false, true, true, false, false, false, false, false, false] rfl rfl (Aa9 HT_.out (by kernel_rfl)) (fun _ _ _ h => h) (Or.inl ⟨by rfl, ?_⟩) ?_ ?_
             rotate_left
             ·intro w'
              go_simp
              with_reducible rfl
             rotate_left
             ·simp only [Act.put, lsp, Aa8, Ab0]
              rfl
             refine Ab2 (i := 8) (N := some 97) (v := ?_) (a' := ?_) #[true, true, true, false, true, false, true, true, true, false, false, false, false, false] rfl rfl (Aa9 HT_.out (by kernel_rfl)) (fun _ _ _ h => h) (Or.inl ⟨by rfl, ?_⟩) ?_ ?_
             rotate_left
             ·intro w'
              go_simp
              with_reducible rfl
             rotate_left
             ·simp only [Act.put, lsp, Aa8, Ab0]
              rfl
             refine Ab2 (i := 10) (N := some 99) (v := ?_) (a' := ?_) #[true, true, true, false, true, false, true, true, true, false, true, false, false, false] rfl rfl (Aa9 HT_.out (by kernel_rfl)) (fun _ _ _ h => h) (Or.inl ⟨by rfl, ?_⟩) ?_ ?_
             rotate_left
             ·intro w'
              go_simp
              with_reducible rfl
             rotate_left
             ·simp only [Act.put, lsp, Aa8, Ab0]
              rfl
             refine take_ (i := 3) (N := some 92) (v := ?_) (a' := ?_) #[true, true, true, true, true, false, true, true, true, false, true, false, false, false] rfl rfl (Ac0 HT_.out HW_.out (by kernel_rfl)) (fun _ _ _ h => h) (Or.inl ⟨by rfl, ?_⟩) hHeld ?_ ?_
             rotate_left
             ·rintro w' ⟨s0, s1, s2, s3, s4, s5, s6, s7, s8, s9, s10, s11, s12, s13, s14, s15, s16, s17, s18, s19⟩
              go_simp
              with_reducible rfl
             rotate_left
             ·simp only [Act.put, lsp, Aa8, Ab0]
              rfl
             refine take_ (i := 9) (N := some 98) (v := ?_) (a' := ?_) #[true, true, true, true, true, false, true, true, true, true, true, false, false, false] rfl rfl (Ac0 HT_.out HW_.out (by kernel_rfl)) (fun _ _ _ h => h) (Or.inl ⟨by rfl, ?_⟩) hHeld ?_ ?_
             rotate_left
             ·rintro w' ⟨s0, s1, s2, s3, s4, s5, s6, s7, s8, s9, s10, s11, s12, s13, s14, s15, s16, s17, s18, s19⟩
              go_simp
              with_reducible rfl
             rotate_left
             ·simp only [Act.put, lsp, Aa8, Ab0]
              rfl
             refine Al7 (i := 5) (N := some 94) #[true, true, true, true, true, true, true, true, true, true, true, false, false, false] rfl rfl (Af4 HT_.out (by kernel_rfl)) (by decide) (fun K hK => ?_)
             refine Ah1 Tryd.func64 (by kernel_rfl) rfl #[.slice A347_1 ((Aa3 l0 0).f1).length c347_1, .int .i64 (rd ((Aa3 l0 0).f2) a1)] (by rfl) rfl rfl el ?_
             with_reducible refine (slices_Index_int64_int64.calls k1 _ _ ((Aa3 l0 0).f1) (rd ((Aa3 l0 0).f2) a1) t349 _ ?side1 ?side2 A41.out).mono ?_
             (case side1 => repeat (first | exact (Au1 HR348_1.out HB.out) | (with_reducible refine Kd.C_alloc ?_ _) | (with_reducible refine Kd.C_drewN ?_ _) | (with_reducible refine Kd.C_drew ?_)))
             (case side2 => exact HC348_1.out)
             rintro e w' ⟨rfl, ⟨nd, rfl⟩⟩
             refine ⟨_, rfl, ?_⟩
             refine hK.out _ _ ⟨(bcB HB.out hw347_0), (bcB HB.out hw347_1), (bcB HB.out hw347_2), (bcB HB.out hw347_3), (bcB HB.out hw347_4), (bcB HB.out hw348_0), (bcB HB.out hw348_1), (bcB HB.out hw348_2), (bcB HB.out hw348_3), (bcB HB.out hw348_4), (bcB HB.out hw350_0), (bcB HB.out hw350_1), (bcB HB.out hw350_2), (bcB HB.out hw350_3), (bcB HB.out hw350_4), (bcB HB.out hw351_0), (bcB HB.out hw351_1), (bcB HB.out hw351_2), (bcB HB.out hw351_3), (bcB HB.out hw351_4)⟩ (fun hHeld => ?_)
             clear hK K
             refine Ah0 (a' := ?_) ?_ ?_
             rotate_left
             ·show Act.put _ (some 94) _ = _
              simp only [Act.put, lsp, Aa8, Ab0]
              rfl
             refine Al7 (i := 11) (N := some 100) #[true, true, true, true, true, true, true, true, true, true, true, true, false, false] rfl rfl (Af4 HT_.out (by kernel_rfl)) (by decide) (fun K hK => ?_)
             refine Ah1 Tryd.func64 (by kernel_rfl) rfl #[.slice A347_1 ((Aa3 l0 0).f1).length c347_1, .int .i64 (rd ((Aa3 l0 0).f3) a2)] (by rfl) rfl rfl el ?_
             with_reducible refine (slices_Index_int64_int64.calls k1 _ _ ((Aa3 l0 0).f1) (rd ((Aa3 l0 0).f3) a2) t352 _ ?side1 ?side2 A42.out).mono ?_
             (case side1 => repeat (first | exact (Au1 HR351_1.out (by repeat (first | (with_reducible first | exact HB.out | apply Ac5 | apply Ac6 | apply Ac8) | exact HB.out))) | (with_reducible refine Kd.C_alloc ?_ _) | (with_reducible refine Kd.C_drewN ?_ _) | (with_reducible refine Kd.C_drew ?_)))
             (case side2 => exact HC351_1.out)
             rintro e w' ⟨rfl, ⟨nd, rfl⟩⟩
             refine ⟨_, rfl, ?_⟩
             refine hK.out _ _ ⟨(bcB HB.out hw347_0), (bcB HB.out hw347_1), (bcB HB.out hw347_2), (bcB HB.out hw347_3), (bcB HB.out hw347_4), (bcB HB.out hw348_0), (bcB HB.out hw348_1), (bcB HB.out hw348_2), (bcB HB.out hw348_3), (bcB HB.out hw348_4), (bcB HB.out hw350_0), (bcB HB.out hw350_1), (bcB HB.out hw350_2), (bcB HB.out hw350_3), (bcB HB.out hw350_4), (bcB HB.out hw351_0), (bcB HB.out hw351_1), (bcB HB.out hw351_2), (bcB HB.out hw351_3), (bcB HB.out hw351_4)⟩ (fun hHeld => ?_)
             clear hK K
             refine Ah0 (a' := ?_) ?_ ?_
             rotate_left
             ·show Act.put _ (some 100) _ = _
              simp only [Act.put, lsp, Aa8, Ab0]
              rfl
             refine Ab2 (i := 12) (N := some 101) (v := ?_) (a' := ?_) #[true, true, true, true, true, true, true, true, true, true, true, true, true, false] rfl rfl (Aa9 HT_.out (by kernel_rfl)) (fun _ _ _ h => h) (Or.inl ⟨by rfl, ?_⟩) ?_ ?_
             rotate_left
             ·intro w'
              go_simp
              with_reducible rfl
             rotate_left
             ·simp only [Act.put, lsp, Aa8, Ab0]
              rfl
             refine Ab2 (i := 13) (N := some 13) (v := ?_) (a' := ?_) #[true, true, true, true, true, true, true, true, true, true, true, true, true, true] rfl rfl (Aa9 HT_.out (by kernel_rfl)) (fun _ _ _ h => h) (Or.inl ⟨by rfl, ?_⟩) ?_ ?_
             rotate_left
             ·intro w'
              go_simp
              with_reducible rfl
             rotate_left
             ·simp only [Act.put, lsp, Aa8, Ab0]
              rfl
             refine Ah2 (Ae1 HT_.out (by kernel_rfl)) ?_
             obtain ⟨Ao46, co46, eo46⟩ := Kd.R_slice HO_10.out
             subst eo46
             try go_wp2
             go_loopg [106] k1 (fun kq v106 w' => ∃ (x106_2 : Int), v106 = .int .i64 x106_2 ∧ Aside0 (impl_comparer_isGreater.l1 g kq l0 a1 t334 t341 (wrap64 (t349 - t352)) t341 (t341.length : Int) x106_2 = some r) ∧ Aside0 (kq ≤ k1) ∧ Aside0 (Kd.R (Kd.int .i64) 3 w' w.heap.size (fun k_ => some k_ ≠ ((.slice Ao46 t341.length co46) : Value).ownBlock ∧ some k_ ≠ ((.slice Ao46 t341.length co46) : Value).ownBlock) (.slice Ao27 t334.length co27) t334) ∧ Aside0 (Kd.R (Kd.int .i64) 3 w' w.heap.size (fun k_ => some k_ ≠ ((.slice Ao27 t334.length co27) : Value).ownBlock) (.slice Ao46 t341.length co46) t341) ∧ Aside0 (Kd.R (Kd.int .i64) 3 w' w.heap.size (fun k_ => some k_ ≠ ((.slice Ao27 t334.length co27) : Value).ownBlock) (.slice Ao46 t341.length co46) t341) ∧ Aside0 (Bel G mb w.heap.size w w'))
             case atStart => exact ⟨(0), (by first | rfl | (simp; done) | (simp [*]; done)), H', ⟨Nat.le_refl _⟩, ⟨by (with_reducible repeat (first | apply Kd.R_alloc | apply Kd.R_drewN | apply Kd.R_drew)); exact Kd.R_mono HO_9.out (fun _ hk => ⟨hk, hk⟩)⟩, ⟨by (with_reducible repeat (first | apply Kd.R_alloc | apply Kd.R_drewN | apply Kd.R_drew)); exact Kd.R_mono HO_10.out (fun _ hk => hk.1)⟩, ⟨by (with_reducible repeat (first | apply Kd.R_alloc | apply Kd.R_drewN | apply Kd.R_drew)); exact Kd.R_mono HO_10.out (fun _ hk => hk.1)⟩, ⟨by repeat (first | (with_reducible first | exact HB.out | apply Ac5 | apply Ac6 | apply Ac8) | exact HB.out)⟩⟩
             case round =>
              clear H'
              try clear p2; try clear c3; try clear p3; try clear q3; try clear hx3; try clear qi3; try clear c4; try clear c6; try clear p6; try clear c34; try clear p34; try clear q34; try clear hx34; try clear qi34; try clear c35; try clear p35; try clear q35; try clear hx35; try clear qi35; try clear c43; try clear c43b0; try clear hx347_0; try clear hx347_1; try clear hx347_2; try clear hx347_3; try clear hx347_4; try clear hx348_0; try clear hx348_1; try clear hx348_2; try clear hx348_3; try clear hx348_4; try clear hx350_0; try clear hx350_1; try clear hx350_2; try clear hx350_3; try clear hx350_4; try clear hx351_0; try clear hx351_1; try clear hx351_2; try clear hx351_3; try clear hx351_4; try clear p347; try clear p348; try clear p350; try clear p351; try clear q347; try clear q348; try clear q350; try clear q351
              obtain ⟨x106_2, rfl, HA, HK2, HO_9, HO_10, HO_104, HB⟩ := hrel
              cases gk with
              | zero => exact absurd HA.out (by simp [impl_comparer_isGreater.l1])
              | succ k2 =>
               have H := HA.out
               clear HA
               simp only [impl_comparer_isGreater.l1] at H
               by_cases c47 : x106_2 < (t341.length : Int)
               ·rw [if_pos c47] at H
                have c47b0 : decide (x106_2 < (t341.length : Int)) = true := decide_eq_true c47
                clear c47
                by_cases c48 : 0 ≤ x106_2
                ·rw [if_pos c48] at H
                 have c48b0 : decide (0 ≤ x106_2) = true := decide_eq_true c48
                 clear c48
                 by_cases c49 : x106_2 < (t341.length : Int)
                 ·rw [if_pos c49] at H
                  have c49b0 : decide (x106_2 < (t341.length : Int)) = true := decide_eq_true c49
                  clear c49
                  replace H := Option.bind_eq_some_iff.mp H
                  obtain ⟨t354, A500, H⟩ := H
                  replace H : (if t354 = true then (impl_comparer_isGreater.l1 g k2 l0 a1 t334 t341 (wrap64 (t349 - t352)) t341 (t341.length : Int) (wrap64 (x106_2 + 1))) else (some false)) = some r := H
                  have A50 := am A500
                  clear A500
                  by_cases c51 : t354 = true
                  ·subst c51
                   have H1 : (impl_comparer_isGreater.l1 g k2 l0 a1 t334 t341 (wrap64 (t349 - t352)) t341 (t341.length : Int) (wrap64 (x106_2 + 1))) = some r := by rw [if_pos rfl] at H; exact H
                   clear H
                   have H := H1
                   clear H1
                   have H' := am H
                   clear H
                   have p353 : 0 ≤ (x106_2 : Int) := of_decide_eq_true (by first | (with_reducible assumption) | assumption)
                   have q353 : x106_2 < (t341.length : Int) := of_decide_eq_true (by first | (with_reducible assumption) | assumption)
                   obtain ⟨ad353, e353, hx353_0⟩ := Kd.at_int (Kd.R_reads' HO_104.out).2.2 x106_2 p353 q353
                   cases e353
                   replace p353 := eq_true p353
                   replace q353 := eq_true q353
                   go_wp2_with (first | ((with_reducible refine Aa4 (f := 54) rfl ?_); refine Ab8 (some 113) rfl rfl Tryd.func54 (by kernel_rfl) rfl #[.pointer (some ad316), .int .i64 a1, .int .i64 (rd t341 x106_2)] rfl el ?_; (with_reducible refine (HG.out _ a1 (rd t341 x106_2) true ?side1 ?side2 A50.out).mono ?_); (case side1 => exact As4 HF0.out (by repeat (first | (with_reducible first | exact HB.out | apply Ac5 | apply Ac6 | apply Ac8) | exact HB.out))); (case side2 => exact Bel.inv (by repeat (first | (with_reducible first | exact HB.out | apply Ac5 | apply Ac6 | apply Ac8) | exact HB.out))); rintro e w52 ⟨rfl, hb⟩; refine ⟨_, rfl, ?_⟩; have n0_ := am (Am8 (rq HO_9.out) hb); have n1_ := am (Am8 (rq HO_10.out) hb); have n2_ := am (Am8 (rq HO_104.out) hb); have n3_ := am (Ak5 (by repeat (first | (with_reducible first | exact HB.out | apply Ac5 | apply Ac6 | apply Ac8) | exact HB.out)) hb); clear HO_9 HO_10 HO_104 HB; revert n0_ n1_ n2_ n3_; intro HO_9 HO_10 HO_104 HB; (try clear hb); (try clear hb2); (try clear hgw); (try clear hk); (try clear hi)))
                   go_roundg k2
                   case measure => have := HK1.out; have := HK2.out; omega
                   case rel => exact ⟨(wrap64 (x106_2 + 1)), (by first | rfl | (simp; done) | (simp [*]; done)), H', ⟨by have := HK1.out; have := HK2.out; omega⟩, ⟨by (with_reducible repeat (first | apply Kd.R_alloc | apply Kd.R_drewN | apply Kd.R_drew)); exact HO_9.out⟩, ⟨by (with_reducible repeat (first | apply Kd.R_alloc | apply Kd.R_drewN | apply Kd.R_drew)); exact HO_10.out⟩, ⟨by (with_reducible repeat (first | apply Kd.R_alloc | apply Kd.R_drewN | apply Kd.R_drew)); exact HO_104.out⟩, ⟨by repeat (first | (with_reducible first | exact HB.out | apply Ac5 | apply Ac6 | apply Ac8) | exact HB.out)⟩⟩
                  ·replace c51 := Bool.eq_false_iff.mpr c51
                   subst c51
                   have H1 : (some false) = some r := by rw [if_neg (show ¬ (false = true) by decide)] at H; exact H
                   clear H
                   have H := H1
                   clear H1
                   obtain rfl := Option.some.inj H
                   have p353 : 0 ≤ (x106_2 : Int) := of_decide_eq_true (by first | (with_reducible assumption) | assumption)
                   have q353 : x106_2 < (t341.length : Int) := of_decide_eq_true (by first | (with_reducible assumption) | assumption)
                   obtain ⟨ad353, e353, hx353_0⟩ := Kd.at_int (Kd.R_reads' HO_104.out).2.2 x106_2 p353 q353
                   cases e353
                   replace p353 := eq_true p353
                   replace q353 := eq_true q353
                   go_wp2_with (first | ((with_reducible refine Aa4 (f := 54) rfl ?_); refine Ab8 (some 113) rfl rfl Tryd.func54 (by kernel_rfl) rfl #[.pointer (some ad316), .int .i64 a1, .int .i64 (rd t341 x106_2)] rfl el ?_; (with_reducible refine (HG.out _ a1 (rd t341 x106_2) false ?side1 ?side2 A50.out).mono ?_); (case side1 => exact As4 HF0.out (by repeat (first | (with_reducible first | exact HB.out | apply Ac5 | apply Ac6 | apply Ac8) | exact HB.out))); (case side2 => exact Bel.inv (by repeat (first | (with_reducible first | exact HB.out | apply Ac5 | apply Ac6 | apply Ac8) | exact HB.out))); rintro e w53 ⟨rfl, hb⟩; refine ⟨_, rfl, ?_⟩; have n0_ := am (Am8 (rq HO_9.out) hb); have n1_ := am (Am8 (rq HO_10.out) hb); have n2_ := am (Am8 (rq HO_104.out) hb); have n3_ := am (Ak5 (by repeat (first | (with_reducible first | exact HB.out | apply Ac5 | apply Ac6 | apply Ac8) | exact HB.out)) hb); clear HO_9 HO_10 HO_104 HB; revert n0_ n1_ n2_ n3_; intro HO_9 HO_10 HO_104 HB; (try clear hb); (try clear hb2); (try clear hgw); (try clear hk); (try clear hi)))
                   go_ret
                   exact ⟨by first | rfl | (simp [Aa0, Aa1] <;> rfl) | (simp [*, Aa0, Aa1] <;> rfl), by repeat (first | (with_reducible first | exact HB.out | apply Ac5 | apply Ac6 | apply Ac8) | exact HB.out)⟩
                 ·rw [if_neg c49] at H
                  exact absurd H (by simp)
                ·rw [if_neg c48] at H
                 exact absurd H (by simp)
               ·rw [if_neg c47] at H
                have c47b0 : decide (x106_2 < (t341.length : Int)) = false := decide_eq_false c47
                clear c47
                by_cases c54 : (wrap64 (t349 - t352)) > 0
                ·rw [if_pos c54] at H
                 have c54b0 : decide (0 < (wrap64 (t349 - t352))) = true := decide_eq_true c54
                 clear c54
                 obtain rfl := Option.some.inj H
                 go_wp2
                 go_ret
                 exact ⟨by first | rfl | (simp [Aa0, Aa1] <;> rfl) | (simp [*, Aa0, Aa1] <;> rfl), by repeat (first | (with_reducible first | exact HB.out | apply Ac5 | apply Ac6 | apply Ac8) | exact HB.out)⟩
                ·rw [if_neg c54] at H
                 have c54b0 : decide (0 < (wrap64 (t349 - t352))) = false := decide_eq_false c54
                 clear c54
                 have H' := am H
                 clear H
                 go_wp2
                 go_loopg [120] k2 (fun kq v120 w' => ∃ (x120_3 : Int), v120 = .int .i64 x120_3 ∧ Aside0 (impl_comparer_isGreater.l2 g kq l0 t341 t334 (t334.length : Int) x120_3 = some r) ∧ Aside0 (kq ≤ k2) ∧ Aside0 (Kd.R (Kd.int .i64) 3 w' w.heap.size (fun k_ => some k_ ≠ ((.slice Ao27 t334.length co27) : Value).ownBlock) (.slice Ao46 t341.length co46) t341) ∧ Aside0 (Kd.R (Kd.int .i64) 3 w' w.heap.size (fun k_ => some k_ ≠ ((.slice Ao46 t341.length co46) : Value).ownBlock) (.slice Ao27 t334.length co27) t334) ∧ Aside0 (Bel G mb w.heap.size w w'))
                 case atStart => exact ⟨(0), (by first | rfl | (simp; done) | (simp [*]; done)), H', ⟨Nat.le_refl _⟩, ⟨by (with_reducible repeat (first | apply Kd.R_alloc | apply Kd.R_drewN | apply Kd.R_drew)); exact HO_10.out⟩, ⟨by (with_reducible repeat (first | apply Kd.R_alloc | apply Kd.R_drewN | apply Kd.R_drew)); exact Kd.R_mono HO_9.out (fun _ hk => hk.1)⟩, ⟨by repeat (first | (with_reducible first | exact HB.out | apply Ac5 | apply Ac6 | apply Ac8) | exact HB.out)⟩⟩
                 case round =>
                  clear H'
                  try clear p2; try clear c3; try clear p3; try clear q3; try clear hx3; try clear qi3; try clear c4; try clear c5; try clear c6; try clear p6; try clear c34; try clear p34; try clear q34; try clear hx34; try clear qi34; try clear c35; try clear p35; try clear q35; try clear hx35; try clear qi35; try clear c43; try clear c43b0; try clear c47; try clear c47b0; try clear c48; try clear c48b0; try clear c49; try clear c49b0; try clear c51; try clear c54; try clear c54b0; try clear hx347_0; try clear hx347_1; try clear hx347_2; try clear hx347_3; try clear hx347_4; try clear hx348_0; try clear hx348_1; try clear hx348_2; try clear hx348_3; try clear hx348_4; try clear hx350_0; try clear hx350_1; try clear hx350_2; try clear hx350_3; try clear hx350_4; try clear hx351_0; try clear hx351_1; try clear hx351_2; try clear hx351_3; try clear hx351_4; try clear hx353_0; try clear p2; try clear p3; try clear p34; try clear p347; try clear p348; try clear p35; try clear p350; try clear p351; try clear p353; try clear p6; try clear q3; try clear q34; try clear q347; try clear q348; try clear q35; try clear q350; try clear q351; try clear q353
                  obtain ⟨x120_3, rfl, HA, HK3, HO_10, HO_118, HB⟩ := hrel
                  cases gk with
                  | zero => exact absurd HA.out (by simp [impl_comparer_isGreater.l2])
                  | succ k3 =>
                   have H := HA.out
                   clear HA
                   simp only [impl_comparer_isGreater.l2] at H
                   by_cases c55 : x120_3 < (t334.length : Int)
                   ·rw [if_pos c55] at H
                    have c55b0 : decide (x120_3 < (t334.length : Int)) = true := decide_eq_true c55
                    clear c55
                    by_cases c56 : 0 ≤ x120_3
                    ·rw [if_pos c56] at H
                     have c56b0 : decide (0 ≤ x120_3) = true := decide_eq_true c56
                     clear c56
                     by_cases c57 : x120_3 < (t334.length : Int)
                     ·rw [if_pos c57] at H
                      have c57b0 : decide (x120_3 < (t334.length : Int)) = true := decide_eq_true c57
                      clear c57
                      by_cases c58 : x120_3 < (t341.length : Int)
                      ·rw [if_pos c58] at H
                       have c58b0 : decide (x120_3 < (t341.length : Int)) = true := decide_eq_true c58
                       clear c58
                       replace H := Option.bind_eq_some_iff.mp H
                       obtain ⟨t357, A590, H⟩ := H
                       replace H : (if t357 = true then (impl_comparer_isGreater.l2 g k3 l0 t341 t334 (t334.length : Int) (wrap64 (x120_3 + 1))) else ((g (rd t334 x120_3) (rd t341 x120_3)).bind fun t359 => (some t359))) = some r := H
                       have A59 := am A590
                       clear A590
                       by_cases c60 : t357 = true
                       ·subst c60
                        have H1 : (impl_comparer_isGreater.l2 g k3 l0 t341 t334 (t334.length : Int) (wrap64 (x120_3 + 1))) = some r := by rw [if_pos rfl] at H; exact H
                        clear H
                        have H := H1
                        clear H1
                        have H' := am H
                        clear H
                        have p355 : 0 ≤ (x120_3 : Int) := of_decide_eq_true (by first | (with_reducible assumption) | assumption)
                        have q355 : x120_3 < (t334.length : Int) := of_decide_eq_true (by first | (with_reducible assumption) | assumption)
                        obtain ⟨ad355, e355, hx355_0⟩ := Kd.at_int (Kd.R_reads' HO_118.out).2.2 x120_3 p355 q355
                        cases e355
                        replace p355 := eq_true p355
                        replace q355 := eq_true q355
                        have p356 : 0 ≤ (x120_3 : Int) := of_decide_eq_true (by first | (with_reducible assumption) | assumption)
                        have q356 : x120_3 < (t341.length : Int) := of_decide_eq_true (by first | (with_reducible assumption) | assumption)
                        obtain ⟨ad356, e356, hx356_0⟩ := Kd.at_int (Kd.R_reads' HO_10.out).2.2 x120_3 p356 q356
                        cases e356
                        replace p356 := eq_true p356
                        replace q356 := eq_true q356
                        go_wp2_with (first | ((with_reducible refine Aa4 (f := 78) rfl ?_); refine Ab8 (some 131) rfl rfl Tryd.func78 (by kernel_rfl) rfl #[.pointer (some ad316), .int .i64 (rd t334 x120_3), .int .i64 (rd t341 x120_3)] rfl el ?_; (with_reducible refine (impl_comparer_same.calls k3 _ l0 (rd t334 x120_3) (rd t341 x120_3) true _ ?side1 A59.out).mono ?_); (case side1 => repeat (first | exact (As1 HF0.out HB.out) | (with_reducible refine Kd.C_alloc ?_ _) | (with_reducible refine Kd.C_drewN ?_ _) | (with_reducible refine Kd.C_drew ?_))); rintro e w61 ⟨rfl, hb⟩; refine ⟨_, rfl, ?_⟩; have n0_ := am (Kd.R_below (rq HO_10.out) hb); have n1_ := am (Kd.R_below (rq HO_118.out) hb); have n2_ := am (Ai4 (by repeat (first | (with_reducible first | exact HB.out | apply Ac5 | apply Ac6 | apply Ac8) | exact HB.out)) hb); clear HO_10 HO_118 HB; revert n0_ n1_ n2_; intro HO_10 HO_118 HB; (try clear hb); (try clear hb2); (try clear hgw); (try clear hk); (try clear hi)))
                        go_roundg k3
                        case measure => have := HK1.out; have := HK2.out; have := HK3.out; omega
                        case rel => exact ⟨(wrap64 (x120_3 + 1)), (by first | rfl | (simp; done) | (simp [*]; done)), H', ⟨by have := HK1.out; have := HK2.out; have := HK3.out; omega⟩, ⟨by (with_reducible repeat (first | apply Kd.R_alloc | apply Kd.R_drewN | apply Kd.R_drew)); exact HO_10.out⟩, ⟨by (with_reducible repeat (first | apply Kd.R_alloc | apply Kd.R_drewN | apply Kd.R_drew)); exact HO_118.out⟩, ⟨by repeat (first | (with_reducible first | exact HB.out | apply Ac5 | apply Ac6 | apply Ac8) | exact HB.out)⟩⟩
                       ·replace c60 := Bool.eq_false_iff.mpr c60
                        subst c60
                        have H1 : ((g (rd t334 x120_3) (rd t341 x120_3)).bind fun t359 => (some t359)) = some r := by rw [if_neg (show ¬ (false = true) by decide)] at H; exact H
                        clear H
                        have H := H1
                        clear H1
                        replace H := Option.bind_eq_some_iff.mp H
                        obtain ⟨t359, A620, H⟩ := H
                        replace H : (some t359) = some r := H
                        have A62 := am A620
                        clear A620
                        obtain rfl := Option.some.inj H
                        have p355 : 0 ≤ (x120_3 : Int) := of_decide_eq_true (by first | (with_reducible assumption) | assumption)
                        have q355 : x120_3 < (t334.length : Int) := of_decide_eq_true (by first | (with_reducible assumption) | assumption)
                        obtain ⟨ad355, e355, hx355_0⟩ := Kd.at_int (Kd.R_reads' HO_118.out).2.2 x120_3 p355 q355
                        cases e355
                        replace p355 := eq_true p355
                        replace q355 := eq_true q355
                        have p356 : 0 ≤ (x120_3 : Int) := of_decide_eq_true (by first | (with_reducible assumption) | assumption)
                        have q356 : x120_3 < (t341.length : Int) := of_decide_eq_true (by first | (with_reducible assumption) | assumption)
                        obtain ⟨ad356, e356, hx356_0⟩ := Kd.at_int (Kd.R_reads' HO_10.out).2.2 x120_3 p356 q356
                        cases e356
                        replace p356 := eq_true p356
                        replace q356 := eq_true q356
                        go_wp2_with (first | ((with_reducible refine Aa4 (f := 78) rfl ?_); refine Ab8 (some 131) rfl rfl Tryd.func78 (by kernel_rfl) rfl #[.pointer (some ad316), .int .i64 (rd t334 x120_3), .int .i64 (rd t341 x120_3)] rfl el ?_; (with_reducible refine (impl_comparer_same.calls k3 _ l0 (rd t334 x120_3) (rd t341 x120_3) false _ ?side1 A59.out).mono ?_); (case side1 => repeat (first | exact (As1 HF0.out HB.out) | (with_reducible refine Kd.C_alloc ?_ _) | (with_reducible refine Kd.C_drewN ?_ _) | (with_reducible refine Kd.C_drew ?_))); rintro e w63 ⟨rfl, hb⟩; refine ⟨_, rfl, ?_⟩; have n0_ := am (Kd.R_below (rq HO_10.out) hb); have n1_ := am (Kd.R_below (rq HO_118.out) hb); have n2_ := am (Ai4 (by repeat (first | (with_reducible first | exact HB.out | apply Ac5 | apply Ac6 | apply Ac8) | exact HB.out)) hb); clear HO_10 HO_118 HB; revert n0_ n1_ n2_; intro HO_10 HO_118 HB; (try clear hb); (try clear hb2); (try clear hgw); (try clear hk); (try clear hi); have p358 : 0 ≤ (x120_3 : Int) := of_decide_eq_true (by first | (with_reducible assumption) | assumption); have q358 : x120_3 < (t341.length : Int) := of_decide_eq_true (by first | (with_reducible assumption) | assumption); obtain ⟨ad358, e358, hx358_0⟩ := Kd.at_int (Kd.R_reads' HO_10.out).2.2 x120_3 p358 q358; obtain rfl : ad356 = ad358 := (by injection e358); replace p358 := eq_true p358; replace q358 := eq_true q358) | ((with_reducible refine Aa4 (f := 54) rfl ?_); refine Ab8 (some 139) rfl rfl Tryd.func54 (by kernel_rfl) rfl #[.pointer (some ad316), .int .i64 (rd t334 x120_3), .int .i64 (rd t341 x120_3)] rfl el ?_; (with_reducible refine (HG.out _ (rd t334 x120_3) (rd t341 x120_3) t359 ?side1 ?side2 A62.out).mono ?_); (case side1 => exact As4 HF0.out (by repeat (first | (with_reducible first | exact HB.out | apply Ac5 | apply Ac6 | apply Ac8) | exact HB.out))); (case side2 => exact Bel.inv (by repeat (first | (with_reducible first | exact HB.out | apply Ac5 | apply Ac6 | apply Ac8) | exact HB.out))); rintro e w64 ⟨rfl, hb⟩; refine ⟨_, rfl, ?_⟩; have n0_ := am (Am8 (rq HO_10.out) hb); have n1_ := am (Am8 (rq HO_118.out) hb); have n2_ := am (Ak5 (by repeat (first | (with_reducible first | exact HB.out | apply Ac5 | apply Ac6 | apply Ac8) | exact HB.out)) hb); clear HO_10 HO_118 HB; revert n0_ n1_ n2_; intro HO_10 HO_118 HB; (try clear hb); (try clear hb2); (try clear hgw); (try clear hk); (try clear hi)))
                        go_ret
                        exact ⟨by first | rfl | (simp [Aa0, Aa1] <;> rfl) | (simp [*, Aa0, Aa1] <;> rfl), by repeat (first | (with_reducible first | exact HB.out | apply Ac5 | apply Ac6 | apply Ac8) | exact HB.out)⟩
                      ·rw [if_neg c58] at H
                       exact absurd H (by simp)
                     ·rw [if_neg c57] at H
                      exact absurd H (by simp)
                    ·rw [if_neg c56] at H
                     exact absurd H (by simp)
                   ·rw [if_neg c55] at H
                    have c55b0 : decide (x120_3 < (t334.length : Int)) = false := decide_eq_false c55
                    clear c55
                    obtain rfl := Option.some.inj H
                    go_wp2
                    go_ret
                    exact ⟨by first | rfl | (simp [Aa0, Aa1] <;> rfl) | (simp [*, Aa0, Aa1] <;> rfl), by repeat (first | (with_reducible first | exact HB.out | apply Ac5 | apply Ac6 | apply Ac8) | exact HB.out)⟩
           ·rw [if_neg c40] at H
            exact absurd H (by simp)
     ·rw [if_neg c8] at H
      exact absurd H (by simp)
    ·rw [if_neg c7] at H
     exact absurd H (by simp)
   ·rw [if_neg c6] at H
    exact absurd H (by simp)
  ·rw [if_neg c5] at H
   exact absurd H (by simp)
 ·rw [if_neg c4] at H
  exact absurd H (by simp)
set_option maxHeartbeats 8000000 in
set_option maxRecDepth 100000 in
theorem impl_comparer_greater.walk (G : Int → Int → Bool → Prop) (mb : Nat) (A0 : Option Addr) (l0 : List S79) (i j : Nat) (w : World) (hr0 : Kd.F k79 w (fun k_ => k_ ≠ mb) A0 l0.length l0) (hl : 0 < l0.length) (hm : (Aa3 l0 0).f4.toNat = mb) (hI : Ai7 G mb w) (hi : i < 1000000) (hj : j < 1000000) (r : Bool)
  (hold : ∀ b, G i j b → b = r) (hnew : G i j r)
  (hcall : ∀ W : World, Kd.F k79 W (fun k_ => k_ ≠ mb) A0 l0.length l0 → Ai7 G mb W → Calls Tryd.prog 68 #[.pointer A0, .int .i64 i, .int .i64 j] W fun e w' => e = .returned (.bool r) ∧ Bel G mb W.heap.size W w') :
  Calls Tryd.prog 54 #[.pointer A0, .int .i64 i, .int .i64 j] w fun e w' => e = .returned (.bool r) ∧ Bel G mb w.heap.size w w' := by
 have hu_ := Tryd.underlying90
 obtain ⟨ad_, _, _, _, _, _, _, _, _, eA, _, _, _, _, hc_, _, _, _, _, _, _, _, _⟩ := Al8 (Kd.F_now hr0) 0 (by omega) (by omega)
 rw [show ((0 : Int)).toNat = 0 from rfl, show 0 * 5 = 0 from rfl, Addr.add_zero', hm] at hc_
 subst eA
 go_enter Tryd.func54, Tryd.ntmps54
 try go_wp2
 have hb_ : Below w.heap.size w (w.alloc (.cells #[.int .i64 i, .int .i64 j] 90)) := Ad7 (Below.refl _ _) _
 have hk_ : (w.alloc (.cells #[.int .i64 i, .int .i64 j] 90)).heap[w.heap.size]? = some (.cells #[.int .i64 i, .int .i64 j] 90 (0, 0)) := (Go.MapKept.heap_alloc w _).1
 generalize w.alloc (.cells #[.int .i64 i, .int .i64 j] 90) = W1_ at hb_ hk_ ⊢
 have hI1_ := hI.below hb_
 have hF1_ := As4 hr0 (Bel.of hI hb_)
 replace hc_ : W1_.drew.cell? ⟨ad_.block, ad_.off + 4, none⟩ = some (.map (some mb)) := ((hb_.cell (World.block_lt_of_cell? w ⟨ad_.block, ad_.off + 4, none⟩ hc_)).trans hc_)
 have hk0_ : W1_.drew.cell? ⟨w.heap.size, 0, none⟩ = some (.int .i64 i) := (Ab1 hk_ 0).trans rfl
 have hk1_ : W1_.drew.cell? ⟨w.heap.size, 1, none⟩ = some (.int .i64 j) := (Ab1 hk_ 1).trans rfl
 have hB1_ : Bel G mb w.heap.size w W1_.drew := Ac8 (Bel.of hI hb_)
 have hF1_ : Kd.F k79 W1_.drew (fun k_ => k_ ≠ mb) (some ad_) l0.length l0 := As4 hr0 hB1_
 have hlt_ : w.heap.size < W1_.drew.heap.size := (Array.getElem?_eq_some_iff.1 hk_).1
 have hbt_ : ad_.block < W1_.drew.heap.size := World.block_lt_of_cell? W1_.drew ⟨ad_.block, ad_.off + 4, none⟩ hc_
 obtain ⟨es_, clock_, hm_, F_, hG_⟩ := hB1_.inv
 obtain ⟨kl_, hkl_⟩ := cmpKey_of i j hi hj
 rcases Go.Maps.fit_look true Ar0 Tryd.underlying77 (show (zeroValue 4).run Tryd.prog W1_.drew = .ok (.bool false) W1_.drew by kernel_rfl) hm_ F_ hkl_ with ⟨hrun_, hno_, _⟩ | ⟨e0_, _, hin_, hkey_, hrun_, _⟩
 ·replace hrun_ : (Instr.lookup 77 (.map (some mb)) (.agg #[.int .i64 i, .int .i64 j]) true).run Tryd.prog W1_.drew = .ok (.tuple #[.bool false, .bool false]) W1_.drew := hrun_
  clear hm_ F_ hG_ hno_
  refine Ae9 (n := 11) (S := fun w' => w'.cell? ⟨ad_.block, ad_.off + 4, none⟩ = some (.map (some mb)) ∧ w'.cell? ⟨w.heap.size, 0, none⟩ = some (.int .i64 i) ∧ w'.cell? ⟨w.heap.size, 1, none⟩ = some (.int .i64 j) ∧ (Instr.lookup 77 (.map (some mb)) (.agg #[.int .i64 i, .int .i64 j]) true).run Tryd.prog w' = .ok (.tuple #[.bool false, .bool false]) w') (ds := []) #[false, false, false, false, false, false, false, false, false, false, false] (by kernel_rfl) rfl rfl ⟨hc_, hk0_, hk1_, hrun_⟩ (fun hHeld => ?_)
  refine Ab2 (i := 0) (N := some 15) (v := ?_) (a' := ?_) #[true, false, false, false, false, false, false, false, false, false, false] rfl rfl (by kernel_rfl) (fun _ _ _ h => h) (Or.inl ⟨by rfl, ?_⟩) ?_ ?_
  rotate_left
  ·intro w'
   go_simp
   with_reducible rfl
  rotate_left
  ·simp only [Act.put, lsp, Aa8, Ab0]
   rfl
  refine Ab2 (i := 1) (N := some 16) (v := ?_) (a' := ?_) #[true, true, false, false, false, false, false, false, false, false, false] rfl rfl (by kernel_rfl) (fun _ _ _ h => h) (Or.inl ⟨by rfl, ?_⟩) ?_ ?_
  rotate_left
  ·intro w'
   go_simp
   with_reducible rfl
  rotate_left
  ·simp only [Act.put, lsp, Aa8, Ab0]
   rfl
  refine Ab2 (i := 2) (N := some 17) (v := ?_) (a' := ?_) #[true, true, true, false, false, false, false, false, false, false, false] rfl rfl (by kernel_rfl) (fun _ _ _ h => h) (Or.inl ⟨by rfl, ?_⟩) ?_ ?_
  rotate_left
  ·intro w'
   go_simp
   with_reducible rfl
  rotate_left
  ·simp only [Act.put, lsp, Aa8, Ab0]
   rfl
  refine take_ (i := 3) (N := some 18) (v := ?_) (a' := ?_) #[true, true, true, true, false, false, false, false, false, false, false] rfl rfl (by kernel_rfl) (fun _ _ _ h => h) (Or.inl ⟨by rfl, ?_⟩) hHeld ?_ ?_
  rotate_left
  ·rintro w' ⟨s0, s1, s2, s3⟩
   go_simp
   with_reducible rfl
  rotate_left
  ·simp only [Act.put, lsp, Aa8, Ab0]
   rfl
  refine take_ (i := 4) (N := some 19) (v := ?_) (a' := ?_) #[true, true, true, true, true, false, false, false, false, false, false] rfl rfl (by kernel_rfl) (fun _ _ _ h => h) (Or.inl ⟨by rfl, ?_⟩) hHeld ?_ ?_
  rotate_left
  ·rintro w' ⟨s0, s1, s2, s3⟩
   go_simp
   with_reducible rfl
  rotate_left
  ·simp only [Act.put, lsp, Aa8, Ab0]
   rfl
  refine take_ (i := 5) (N := some 20) (v := ?_) (a' := ?_) #[true, true, true, true, true, true, false, false, false, false, false] rfl rfl (by kernel_rfl) (fun _ _ _ h => h) (Or.inl ⟨by rfl, ?_⟩) hHeld ?_ ?_
  rotate_left
  ·rintro w' ⟨s0, s1, s2, s3⟩
   go_simp
   with_reducible rfl
  rotate_left
  ·simp only [Act.put, lsp, Aa8, Ab0]
   rfl
  refine Ab2 (i := 6) (N := some 14) (v := ?_) (a' := ?_) #[true, true, true, true, true, true, true, false, false, false, false] rfl rfl (by kernel_rfl) (fun _ _ _ h => h) (Or.inl ⟨by rfl, ?_⟩) ?_ ?_
  rotate_left
  ·intro w'
   go_simp
   with_reducible rfl
  rotate_left
  ·simp only [Act.put, lsp, Aa8, Ab0]
   rfl
  refine Ab2 (i := 7) (N := some 21) (v := ?_) (a' := ?_) #[true, true, true, true, true, true, true, true, false, false, false] rfl rfl (by kernel_rfl) (fun _ _ _ h => h) (Or.inl ⟨by rfl, ?_⟩) ?_ ?_
  rotate_left
  ·intro w'
   go_simp
   with_reducible rfl
  rotate_left
  ·simp only [Act.put, lsp, Aa8, Ab0]
   rfl
  refine Ab2 (i := 8) (N := some 22) (v := ?_) (a' := ?_) #[true, true, true, true, true, true, true, true, true, false, false] rfl rfl (by kernel_rfl) (fun _ _ _ h => h) (Or.inl ⟨by rfl, ?_⟩) ?_ ?_
  rotate_left
  ·intro w'
   go_simp
   with_reducible rfl
  rotate_left
  ·simp only [Act.put, lsp, Aa8, Ab0]
   rfl
  refine Ab2 (i := 9) (N := some 8) (v := ?_) (a' := ?_) #[true, true, true, true, true, true, true, true, true, true, false] rfl rfl (by kernel_rfl) (fun _ _ _ h => h) (Or.inl ⟨by rfl, ?_⟩) ?_ ?_
  rotate_left
  ·intro w'
   go_simp
   with_reducible rfl
  rotate_left
  ·simp only [Act.put, lsp, Aa8, Ab0]
   rfl
  refine Ab2 (i := 10) (N := some 9) (v := ?_) (a' := ?_) #[true, true, true, true, true, true, true, true, true, true, true] rfl rfl (by kernel_rfl) (fun _ _ _ h => h) (Or.inl ⟨by rfl, ?_⟩) ?_ ?_
  rotate_left
  ·intro w'
   go_simp
   with_reducible rfl
  rotate_left
  ·simp only [Act.put, lsp, Aa8, Ab0]
   rfl
  refine Ah2 (by kernel_rfl) ?_
  go_wp2_with (first | ((with_reducible refine Aa4 (f := 68) rfl ?_); refine Ab8 (some 28) rfl rfl Tryd.func68 (by kernel_rfl) rfl #[.pointer (some ad_), .int .i64 i, .int .i64 j] rfl (by (try simp only [List.map_toArray, List.map_cons, List.map_nil]); first | done | rfl) ?_; (refine (hcall _ hF1_ hB1_.inv).mono ?_); rintro e w2_ ⟨rfl, hb2_⟩; refine ⟨_, rfl, ?_⟩))
  replace hc_ : w2_.drew.cell? ⟨ad_.block, ad_.off + 4, none⟩ = some (.map (some mb)) := (hb2_.cell (p := ⟨ad_.block, ad_.off + 4, none⟩) hbt_).trans hc_
  replace hk0_ : w2_.drew.cell? ⟨w.heap.size, 0, none⟩ = some (.int .i64 i) := (hb2_.cell (p := ⟨w.heap.size, 0, none⟩) hlt_).trans hk0_
  replace hk1_ : w2_.drew.cell? ⟨w.heap.size, 1, none⟩ = some (.int .i64 j) := (hb2_.cell (p := ⟨w.heap.size, 1, none⟩) hlt_).trans hk1_
  have hB2_ : Bel G mb w.heap.size w w2_.drew := Ac8 (Ak5 hB1_ hb2_)
  obtain ⟨es_, clock_, hm_, hsz_⟩ := hB2_.inv.size
  obtain ⟨es1_, clock1_, hm1_, F_, hG_⟩ := hB2_.inv
  rw [hm_] at hm1_
  injection hm1_ with hm1_
  injection hm1_ with e1_ e2_
  subst e1_ e2_
  obtain ⟨es2_, clock2_, hrun_, F2_, _, _, _, hw_⟩ := Go.Maps.fit_store (R' := plainElem Tryd.prog 4) (yv := (.lit (.bool r), [])) Ar0 Tryd.underlying77 hm_ F_ (by simp only [maxLen]; omega) (fun _ _ _ _ hz => hz) hkl_ (plainElem_bool Tryd.underlying4 r)
  replace hrun_ : (Instr.mapUpdate 77 (.map (some mb)) (.agg #[.int .i64 i, .int .i64 j]) (.bool r)).run Tryd.prog w2_.drew = .ok () (Go.ChangeMaps.setBlock w2_.drew mb (.map es2_ clock2_)) := hrun_
  have hB3_ : Bel G mb w.heap.size w (Go.ChangeMaps.setBlock w2_.drew mb (.map es2_ clock2_)) :=
   ⟨hB2_.os, hB2_.tape, hB2_.output, by simp [Go.ChangeMaps.setBlock]; exact hB2_.size, fun k_ hk_ hne_ => (Go.ChangeMaps.heap_setBlock_other hm_ _ (fun e_ => hne_ e_)).trans (hB2_.block k_ hk_ hne_), hI,
    ⟨es2_, clock2_, Go.ChangeMaps.heap_setBlock_same hm_ _, F2_, fun x_ hx_ => by
     rcases hw_ x_ hx_ with ⟨hx1_, _⟩ | ⟨hx1_, hx2_⟩
     ·exact hG_ x_ hx1_
     ·exact ⟨i, j, r, hi, hj, hx1_, hx2_, hnew⟩⟩⟩
  generalize Go.ChangeMaps.setBlock w2_.drew mb (.map es2_ clock2_) = w3_ at hrun_ hB3_
  refine Ae9 (n := 7) (S := fun w' => w'.cell? ⟨ad_.block, ad_.off + 4, none⟩ = some (.map (some mb)) ∧ w'.cell? ⟨w.heap.size, 0, none⟩ = some (.int .i64 i) ∧ w'.cell? ⟨w.heap.size, 1, none⟩ = some (.int .i64 j)) (ds := [6]) #[false, false, false, false, false, false, false] (by kernel_rfl) rfl rfl ⟨hc_, hk0_, hk1_⟩ (fun hHeld => ?_)
  refine Ab2 (i := 0) (N := some 29) (v := ?_) (a' := ?_) #[true, false, false, false, false, false, false] rfl rfl (by kernel_rfl) (fun _ _ _ h => h) (Or.inl ⟨by rfl, ?_⟩) ?_ ?_
  rotate_left
  ·intro w'
   go_simp
   with_reducible rfl
  rotate_left
  ·simp only [Act.put, lsp, Aa8, Ab0]
   rfl
  refine Ab2 (i := 1) (N := some 30) (v := ?_) (a' := ?_) #[true, true, false, false, false, false, false] rfl rfl (by kernel_rfl) (fun _ _ _ h => h) (Or.inl ⟨by rfl, ?_⟩) ?_ ?_
  rotate_left
  ·intro w'
   go_simp
   with_reducible rfl
  rotate_left
  ·simp only [Act.put, lsp, Aa8, Ab0]
   rfl
  refine Ab2 (i := 2) (N := some 31) (v := ?_) (a' := ?_) #[true, true, true, false, false, false, false] rfl rfl (by kernel_rfl) (fun _ _ _ h => h) (Or.inl ⟨by rfl, ?_⟩) ?_ ?_
  rotate_left
  ·intro w'
   go_simp
   with_reducible rfl
  rotate_left
  ·simp only [Act.put, lsp, Aa8, Ab0]
   rfl
  refine Ab2 (i := 5) (N := some 34) (v := ?_) (a' := ?_) #[true, true, true, false, false, true, false] rfl rfl (by kernel_rfl) (fun _ _ _ h => h) (Or.inl ⟨by rfl, ?_⟩) ?_ ?_
  rotate_left
  ·intro w'
   go_simp
   with_reducible rfl
  rotate_left
  ·simp only [Act.put, lsp, Aa8, Ab0]
   rfl
  refine take_ (i := 3) (N := some 32) (v := ?_) (a' := ?_) #[true, true, true, true, false, true, false] rfl rfl (by kernel_rfl) (fun _ _ _ h => h) (Or.inl ⟨by rfl, ?_⟩) hHeld ?_ ?_
  rotate_left
  ·rintro w' ⟨s0, s1, s2⟩
   go_simp
   with_reducible rfl
  rotate_left
  ·simp only [Act.put, lsp, Aa8, Ab0]
   rfl
  refine take_ (i := 4) (N := some 33) (v := ?_) (a' := ?_) #[true, true, true, true, true, true, false] rfl rfl (by kernel_rfl) (fun _ _ _ h => h) (Or.inl ⟨by rfl, ?_⟩) hHeld ?_ ?_
  rotate_left
  ·rintro w' ⟨s0, s1, s2⟩
   go_simp
   with_reducible rfl
  rotate_left
  ·simp only [Act.put, lsp, Aa8, Ab0]
   rfl
  refine last_ (i := 6) (N := none) #[true, true, true, true, true, true, true] rfl rfl (by kernel_rfl) (by decide) (fun K hK => ?_)
  refine skip_ (w1 := w3_) (by rfl) rfl ?_ ?_
  ·go_simp
  refine hK.out _ _ ?_
  clear hK K
  refine Ah2 (by kernel_rfl) ?_
  try go_wp2
  go_ret
  exact ⟨by first | rfl | (simp; done) | (simp [*]; done), hB3_⟩
 ·obtain ⟨i_, j_, b_, _, _, hk2_, hv_, hg_⟩ := hG_ e0_ hin_
  rw [hkey_] at hk2_
  obtain ⟨rfl, rfl⟩ := cmpKey_inj hk2_
  have hbr_ := hold b_ hg_
  subst hbr_
  replace hrun_ : (Instr.lookup 77 (.map (some mb)) (.agg #[.int .i64 i, .int .i64 j]) true).run Tryd.prog W1_.drew = .ok (.tuple #[.bool b_, .bool true]) W1_.drew := by rw [hv_] at hrun_; exact hrun_
  clear hm_ F_ hG_ hin_
  refine Ae9 (n := 11) (S := fun w' => w'.cell? ⟨ad_.block, ad_.off + 4, none⟩ = some (.map (some mb)) ∧ w'.cell? ⟨w.heap.size, 0, none⟩ = some (.int .i64 i) ∧ w'.cell? ⟨w.heap.size, 1, none⟩ = some (.int .i64 j) ∧ (Instr.lookup 77 (.map (some mb)) (.agg #[.int .i64 i, .int .i64 j]) true).run Tryd.prog w' = .ok (.tuple #[.bool b_, .bool true]) w') (ds := []) #[false, false, false, false, false, false, false, false, false, false, false] (by kernel_rfl) rfl rfl ⟨hc_, hk0_, hk1_, hrun_⟩ (fun hHeld => ?_)
  refine Ab2 (i := 0) (N := some 15) (v := ?_) (a' := ?_) #[true, false, false, false, false, false, false, false, false, false, false] rfl rfl (by kernel_rfl) (fun _ _ _ h => h) (Or.inl ⟨by rfl, ?_⟩) ?_ ?_
  rotate_left
  ·intro w'
   go_simp
   with_reducible rfl
  rotate_left
  ·simp only [Act.put, lsp, Aa8, Ab0]
   rfl
  refine Ab2 (i := 1) (N := some 16) (v := ?_) (a' := ?_) #[true, true, false, false, false, false, false, false, false, false, false] rfl rfl (by kernel_rfl) (fun _ _ _ h => h) (Or.inl ⟨by rfl, ?_⟩) ?_ ?_
  rotate_left
  ·intro w'
   go_simp
   with_reducible rfl
  rotate_left
  ·simp only [Act.put, lsp, Aa8, Ab0]
   rfl
  refine Ab2 (i := 2) (N := some 17) (v := ?_) (a' := ?_) #[true, true, true, false, false, false, false, false, false, false, false] rfl rfl (by kernel_rfl) (fun _ _ _ h => h) (Or.inl ⟨by rfl, ?_⟩) ?_ ?_
  rotate_left
  ·intro w'
   go_simp
   with_reducible rfl
  rotate_left
  ·simp only [Act.put, lsp, Aa8, Ab0]
   rfl
  refine take_ (i := 3) (N := some 18) (v := ?_) (a' := ?_) #[true, true, true, true, false, false, false, false, false, false, false] rfl rfl (by kernel_rfl) (fun _ _ _ h => h) (Or.inl ⟨by rfl, ?_⟩) hHeld ?_ ?_
  rotate_left
  ·rintro w' ⟨s0, s1, s2, s3⟩
   go_simp
   with_reducible rfl
  rotate_left
  ·simp only [Act.put, lsp, Aa8, Ab0]
   rfl
  refine take_ (i := 4) (N := some 19) (v := ?_) (a' := ?_) #[true, true, true, true, true, false, false, false, false, false, false] rfl rfl (by kernel_rfl) (fun _ _ _ h => h) (Or.inl ⟨by rfl, ?_⟩) hHeld ?_ ?_
  rotate_left
  ·rintro w' ⟨s0, s1, s2, s3⟩
   go_simp
   with_reducible rfl
  rotate_left
  ·simp only [Act.put, lsp, Aa8, Ab0]
   rfl
  refine take_ (i := 5) (N := some 20) (v := ?_) (a' := ?_) #[true, true, true, true, true, true, false, false, false, false, false] rfl rfl (by kernel_rfl) (fun _ _ _ h => h) (Or.inl ⟨by rfl, ?_⟩) hHeld ?_ ?_
  rotate_left
  ·rintro w' ⟨s0, s1, s2, s3⟩
   go_simp
   with_reducible rfl
  rotate_left
  ·simp only [Act.put, lsp, Aa8, Ab0]
   rfl
  refine Ab2 (i := 6) (N := some 14) (v := ?_) (a' := ?_) #[true, true, true, true, true, true, true, false, false, false, false] rfl rfl (by kernel_rfl) (fun _ _ _ h => h) (Or.inl ⟨by rfl, ?_⟩) ?_ ?_
  rotate_left
  ·intro w'
   go_simp
   with_reducible rfl
  rotate_left
  ·simp only [Act.put, lsp, Aa8, Ab0]
   rfl
  refine Ab2 (i := 7) (N := some 21) (v := ?_) (a' := ?_) #[true, true, true, true, true, true, true, true, false, false, false] rfl rfl (by kernel_rfl) (fun _ _ _ h => h) (Or.inl ⟨by rfl, ?_⟩) ?_ ?_
  rotate_left
  ·intro w'
   go_simp
   with_reducible rfl
  rotate_left
  ·simp only [Act.put, lsp, Aa8, Ab0]
   rfl
  refine Ab2 (i := 8) (N := some 22) (v := ?_) (a' := ?_) #[true, true, true, true, true, true, true, true, true, false, false] rfl rfl (by kernel_rfl) (fun _ _ _ h => h) (Or.inl ⟨by rfl, ?_⟩) ?_ ?_
  rotate_left
  ·intro w'
   go_simp
   with_reducible rfl
  rotate_left
  ·simp only [Act.put, lsp, Aa8, Ab0]
   rfl
  refine Ab2 (i := 9) (N := some 8) (v := ?_) (a' := ?_) #[true, true, true, true, true, true, true, true, true, true, false] rfl rfl (by kernel_rfl) (fun _ _ _ h => h) (Or.inl ⟨by rfl, ?_⟩) ?_ ?_
  rotate_left
  ·intro w'
   go_simp
   with_reducible rfl
  rotate_left
  ·simp only [Act.put, lsp, Aa8, Ab0]
   rfl
  refine Ab2 (i := 10) (N := some 9) (v := ?_) (a' := ?_) #[true, true, true, true, true, true, true, true, true, true, true] rfl rfl (by kernel_rfl) (fun _ _ _ h => h) (Or.inl ⟨by rfl, ?_⟩) ?_ ?_
  rotate_left
  ·intro w'
   go_simp
   with_reducible rfl
  rotate_left
  ·simp only [Act.put, lsp, Aa8, Ab0]
   rfl
  refine Ah2 (by kernel_rfl) ?_
  try go_wp2
  go_ret
  exact ⟨by first | rfl | (simp; done) | (simp [*]; done), hB1_⟩
theorem cmp_told {w W : World} {g : Nat} (A0 : Option Addr) (c0 : Nat) (ls : List S65) (A1 : Option Addr) (c1 : Nat) (lo : List Int) (A2 : Option Addr) (c2 : Nat) (la : List Int) (A3 : Option Addr) (c3 : Nat) (lb : List Int) (mb : Nat)
  (hr0 : Kd.C k65 w A0 ls.length ls) (hc0 : ls.length ≤ c0) (hr1 : Kd.C (Kd.int .i64) w A1 lo.length lo) (hc1 : lo.length ≤ c1) (hr2 : Kd.C (Kd.int .i64) w A2 la.length la) (hc2 : la.length ≤ c2) (hr3 : Kd.C (Kd.int .i64) w A3 lb.length lb) (hc3 : lb.length ≤ c3)
  (hb : Below w.heap.size w W) (hw : w.heap.size ≤ mb) (hne : g ≠ mb) (hg : W.heap[g]? = some (.cells #[.slice A0 ls.length c0, .slice A1 lo.length c1, .slice A2 la.length c2, .slice A3 lb.length c3, .map (some mb)] 79 (0, 0))) :
  Kd.F k79 W (fun k_ => k_ ≠ mb) (some ⟨g, 0, none⟩) [(⟨⟨ls⟩, lo, la, lb, (mb : Int)⟩ : S79)].length [(⟨⟨ls⟩, lo, la, lb, (mb : Int)⟩ : S79)] := by
 intro W' hW
 have hlt := Ac4 hg
 have hg' := (hW g hne hlt).trans hg
 have old : ∀ k, k < w.heap.size → W'.heap[k]? = w.heap[k]? := fun k hk => (hW k (by omega) (Nat.lt_of_lt_of_le hk hb.size)).trans (hb.block k hk)
 have g0 : Kd.C k65 W' A0 ls.length ls := Kd.C_F k65_heap hr0 W' (fun k hk _ => old k hk)
 have g1 : Kd.C (Kd.int .i64) W' A1 lo.length lo := Kd.C_F (Kd.heap_int .i64) hr1 W' (fun k hk _ => old k hk)
 have g2 : Kd.C (Kd.int .i64) W' A2 la.length la := Kd.C_F (Kd.heap_int .i64) hr2 W' (fun k hk _ => old k hk)
 have g3 : Kd.C (Kd.int .i64) W' A3 lb.length lb := Kd.C_F (Kd.heap_int .i64) hr3 W' (fun k hk _ => old k hk)
 have hK := k79_mk W' (⟨⟨ls⟩, lo, la, lb, (mb : Int)⟩ : S79) hc0 g0 hc1 g1 hc2 g2 hc3 g3
 refine ⟨rfl, by simp, fun _ => ⟨⟨g, 0, none⟩, rfl, fun j p hj => ?_⟩⟩
 cases j with
 | succ j => simp at hj
 | zero =>
  simp only [List.getElem?_cons_zero, Option.some.injEq] at hj
  subst hj
  refine ⟨_, rfl, hK, fun i u hu => ?_⟩
  have hc := Ab1 hg' i
  have ha : ((⟨g, 0, none⟩ : Addr).add (0 * k79.sz + i)) = ⟨g, i, none⟩ := by simp [Addr.add]; omega
  rw [ha, hc, ← hu]
  simp
set_option maxHeartbeats 8000000 in
set_option maxRecDepth 100000 in
theorem impl_isGreater.walk (A0 : Option Addr) (c0 : Nat) (ls : List S65) (A1 : Option Addr) (c1 : Nat) (lo : List Int) (A2 : Option Addr) (c2 : Nat) (la : List Int) (A3 : Option Addr) (c3 : Nat) (lb : List Int) (r : Bool) (w : World)
  (hr0 : Kd.C k65 w A0 ls.length ls) (hc0 : ls.length ≤ c0) (hr1 : Kd.C (Kd.int .i64) w A1 lo.length lo) (hc1 : lo.length ≤ c1) (hr2 : Kd.C (Kd.int .i64) w A2 la.length la) (hc2 : la.length ≤ c2) (hr3 : Kd.C (Kd.int .i64) w A3 lb.length lb) (hc3 : lb.length ≤ c3)
  (G : Int → Int → Bool → Prop)
  (hcall : ∀ (W : World) (g : Nat), Kd.F k79 W (fun k_ => k_ ≠ w.heap.size + 1) (some ⟨g, 0, none⟩) [(⟨⟨ls⟩, lo, la, lb, ((w.heap.size + 1 : Nat) : Int)⟩ : S79)].length [(⟨⟨ls⟩, lo, la, lb, ((w.heap.size + 1 : Nat) : Int)⟩ : S79)] → Ai7 G (w.heap.size + 1) W →
   Calls Tryd.prog 54 #[.pointer (some ⟨g, 0, none⟩), .int .i64 0, .int .i64 0] W fun e w' => e = .returned (.bool r) ∧ Bel G (w.heap.size + 1) W.heap.size W w') :
  Calls Tryd.prog 32 #[.agg #[.slice A0 ls.length c0], .slice A1 lo.length c1, .slice A2 la.length c2, .slice A3 lb.length c3] w fun e w' => e = .returned (.bool r) ∧ Below w.heap.size w w' := by
 have hu_ := Tryd.underlying32
 have hmk_ : ∀ w_ : World, (Instr.makeMap 77 none).run Tryd.prog w_ = .ok (.map (some w_.heap.size)) (w_.alloc (.map #[] 0)) := fun _ => rfl
 have hb_ : Below w.heap.size w (((w.alloc (.cells #[.slice A0 ls.length c0] 32)).alloc (.map #[] 0)).alloc (.cells #[.slice A0 ls.length c0, .slice A1 lo.length c1, .slice A2 la.length c2, .slice A3 lb.length c3, .map (some (w.heap.size + 1))] 79)) :=
  Ad7 (Ad7 (Ad7 (Below.refl _ _) _) _) _
 have hm_ : ((w.alloc (.cells #[.slice A0 ls.length c0] 32)).alloc (.map #[] 0)).heap[w.heap.size + 1]? = some (.map #[] 0) := by
  have := (Go.MapKept.heap_alloc (w.alloc (.cells #[.slice A0 ls.length c0] 32)) (.map #[] 0)).1
  simpa using this
 have hm2_ := (Go.MapKept.heap_alloc ((w.alloc (.cells #[.slice A0 ls.length c0] 32)).alloc (.map #[] 0)) (.cells #[.slice A0 ls.length c0, .slice A1 lo.length c1, .slice A2 la.length c2, .slice A3 lb.length c3, .map (some (w.heap.size + 1))] 79)).2 (w.heap.size + 1) (by simp)
 have hg_ : (((w.alloc (.cells #[.slice A0 ls.length c0] 32)).alloc (.map #[] 0)).alloc (.cells #[.slice A0 ls.length c0, .slice A1 lo.length c1, .slice A2 la.length c2, .slice A3 lb.length c3, .map (some (w.heap.size + 1))] 79)).heap[w.heap.size + 1 + 1]? = some (.cells #[.slice A0 ls.length c0, .slice A1 lo.length c1, .slice A2 la.length c2, .slice A3 lb.length c3, .map (some (w.heap.size + 1))] 79 (0, 0)) := by
  have := (Go.MapKept.heap_alloc ((w.alloc (.cells #[.slice A0 ls.length c0] 32)).alloc (.map #[] 0)) (.cells #[.slice A0 ls.length c0, .slice A1 lo.length c1, .slice A2 la.length c2, .slice A3 lb.length c3, .map (some (w.heap.size + 1))] 79)).1
  simpa using this
 replace hm2_ := hm2_.trans hm_
 have hI_ : Ai7 G (w.heap.size + 1) (((w.alloc (.cells #[.slice A0 ls.length c0] 32)).alloc (.map #[] 0)).alloc (.cells #[.slice A0 ls.length c0, .slice A1 lo.length c1, .slice A2 la.length c2, .slice A3 lb.length c3, .map (some (w.heap.size + 1))] 79)) :=
  ⟨#[], 0, hm2_, ⟨by simp, Go.MapKept.stamped_empty 0, by simp⟩, by simp⟩
 have hF_ := cmp_told A0 c0 ls A1 c1 lo A2 c2 la A3 c3 lb (w.heap.size + 1) hr0 hc0 hr1 hc1 hr2 hc2 hr3 hc3 hb_ (by omega) (by omega) hg_
 have hcall_ := hcall _ _ hF_ hI_
 clear hF_ hm2_ hm_
 go_enter Tryd.func32, Tryd.ntmps32
 go_wp2_with (first | ((with_reducible refine Aa4 (f := 54) rfl ?_); refine Ab8 (some 18) rfl rfl Tryd.func54 (by kernel_rfl) rfl #[.pointer (some ⟨w.heap.size + 1 + 1, 0, none⟩), .int .i64 0, .int .i64 0] rfl (by (try simp only [List.map_toArray, List.map_cons, List.map_nil]); first | done | rfl) ?_; (refine hcall_.mono ?_); rintro e w2_ ⟨rfl, hb2_⟩; refine ⟨_, rfl, ?_⟩))
 go_ret
 exact ⟨by first | rfl | (simp; done) | (simp [*]; done), ⟨hb2_.os.trans hb_.os, hb2_.tape.trans hb_.tape, hb2_.output.trans hb_.output, Nat.le_trans hb_.size hb2_.size, fun k_ hk_ => (hb2_.block k_ (Nat.lt_of_lt_of_le hk_ hb_.size) (by omega)).trans (hb_.block k_ hk_)⟩⟩
def impl_comparer_greater.f : Nat → List S79 → Int → Int → Option Bool
 | 0, _, _, _ => none
 | k + 1, l, i, j => if 0 ≤ i ∧ i < 1000000 ∧ 0 ≤ j ∧ j < 1000000 then impl_comparer_isGreater.f (fun p q => impl_comparer_greater.f k l p q) k l i j else none
theorem impl_comparer_greater.f_succ (k : Nat) (l : List S79) (i j : Int) : impl_comparer_greater.f (k + 1) l i j = if 0 ≤ i ∧ i < 1000000 ∧ 0 ≤ j ∧ j < 1000000 then impl_comparer_isGreater.f (fun p q => impl_comparer_greater.f k l p q) k l i j else none := rfl
theorem impl_comparer_greater.mono : ∀ (k : Nat) (l : List S79) (i j : Int), LeO (impl_comparer_greater.f k l i j) (impl_comparer_greater.f (k + 1) l i j)
 | 0, _, _, _ => fun r h => by cases h
 | k + 1, l, i, j => by
  have ih := impl_comparer_greater.mono k l
  rw [impl_comparer_greater.f_succ k, impl_comparer_greater.f_succ (k + 1)]
  exact LeO.ite (impl_comparer_isGreater.mono ih _ _ _ _) (LeO.none _)
theorem impl_comparer_greater.more {k : Nat} {l : List S79} {i j : Int} {r : Bool} (h : impl_comparer_greater.f k l i j = some r) : ∀ d, impl_comparer_greater.f (k + d) l i j = some r
 | 0 => h
 | d + 1 => impl_comparer_greater.mono (k + d) l i j r (impl_comparer_greater.more h d)
theorem impl_comparer_greater.det {k n : Nat} {l : List S79} {i j : Int} {r b : Bool} (h : impl_comparer_greater.f k l i j = some r) (h2 : impl_comparer_greater.f n l i j = some b) : b = r := by
 have h3 := impl_comparer_greater.more h n
 have h4 := impl_comparer_greater.more h2 k
 rw [Nat.add_comm n k, h3] at h4
 exact (Option.some.inj h4).symm
section
variable {l l' : List S79} (hlen : l.length = l'.length) (h0 : (Aa3 l 0).f0.f0 = (Aa3 l' 0).f0.f0) (h1 : (Aa3 l 0).f1 = (Aa3 l' 0).f1) (h2 : (Aa3 l 0).f2 = (Aa3 l' 0).f2) (h3 : (Aa3 l 0).f3 = (Aa3 l' 0).f3)
include hlen h0 h2 h3
theorem impl_comparer_same.cong (k : Nat) (a b : Int) : impl_comparer_same.f k l a b = impl_comparer_same.f k l' a b := by
 unfold impl_comparer_same.f
 rw [hlen, h0, h2, h3]
include h1
theorem impl_comparer_isGreater.cong_l (g : Int → Int → Option Bool) : ∀ k, (∀ y1 y2 y3 y4 y5 y6 y7 y8 y9, impl_comparer_isGreater.l0 g k l y1 y2 y3 y4 y5 y6 y7 y8 y9 = impl_comparer_isGreater.l0 g k l' y1 y2 y3 y4 y5 y6 y7 y8 y9) ∧ (∀ y1 y2 y3 y4 y5 y6 y7, impl_comparer_isGreater.l1 g k l y1 y2 y3 y4 y5 y6 y7 = impl_comparer_isGreater.l1 g k l' y1 y2 y3 y4 y5 y6 y7) ∧ (∀ y1 y2 y3 y4, impl_comparer_isGreater.l2 g k l y1 y2 y3 y4 = impl_comparer_isGreater.l2 g k l' y1 y2 y3 y4)
 | 0 => ⟨fun _ _ _ _ _ _ _ _ _ => by simp only [impl_comparer_isGreater.l0], fun _ _ _ _ _ _ _ => by simp only [impl_comparer_isGreater.l1], fun _ _ _ _ => by simp only [impl_comparer_isGreater.l2]⟩
 | k + 1 => by
  obtain ⟨i0, i1, i2⟩ := impl_comparer_isGreater.cong_l g k
  have hs := impl_comparer_same.cong hlen h0 h2 h3 k
  refine ⟨fun _ _ _ _ _ _ _ _ _ => ?_, fun _ _ _ _ _ _ _ => ?_, fun _ _ _ _ => ?_⟩
  ·simp only [impl_comparer_isGreater.l0, i0, i1, hs, hlen, h1]
  ·simp only [impl_comparer_isGreater.l1, i1, i2]
  ·simp only [impl_comparer_isGreater.l2, i2, hs]
theorem impl_comparer_isGreater.cong (g : Int → Int → Option Bool) (k : Nat) (i j : Int) : impl_comparer_isGreater.f g k l i j = impl_comparer_isGreater.f g k l' i j := by
 unfold impl_comparer_isGreater.f
 simp only [hlen, h0, h2, h3, (impl_comparer_isGreater.cong_l hlen h0 h1 h2 h3 g k).1]
theorem impl_comparer_greater.cong : ∀ (k : Nat) (i j : Int), impl_comparer_greater.f k l i j = impl_comparer_greater.f k l' i j
 | 0, _, _ => rfl
 | k + 1, i, j => by
  rw [impl_comparer_greater.f_succ, impl_comparer_greater.f_succ, impl_comparer_isGreater.cong hlen h0 h1 h2 h3]
  have : (fun p q => impl_comparer_greater.f k l p q) = (fun p q => impl_comparer_greater.f k l' p q) := funext fun p => funext fun q => impl_comparer_greater.cong k p q
  rw [this]
end
theorem impl_comparer_greater.calls (mb : Nat) (A0 : Option Addr) (l0 : List S79) (hl : 0 < l0.length) (hm : (Aa3 l0 0).f4.toNat = mb) : ∀ (k : Nat) (i j : Int) (r : Bool) (w : World), Kd.F k79 w (fun k_ => k_ ≠ mb) A0 l0.length l0 → Ai7 (fun i j b => ∃ n, impl_comparer_greater.f n l0 i j = some b) mb w → impl_comparer_greater.f k l0 i j = some r →
  Calls Tryd.prog 54 #[.pointer A0, .int .i64 i, .int .i64 j] w fun e w' => e = .returned (.bool r) ∧ Bel (fun i j b => ∃ n, impl_comparer_greater.f n l0 i j = some b) mb w.heap.size w w'
 | 0, _, _, _, _, _, _, h => by cases h
 | k + 1, i, j, r, w, hF, hM, h => by
  have hs := h
  rw [impl_comparer_greater.f_succ] at h
  by_cases hc : 0 ≤ i ∧ i < 1000000 ∧ 0 ≤ j ∧ j < 1000000
  ·rw [if_pos hc] at h
   obtain ⟨i', rfl⟩ : ∃ n : Nat, i = n := ⟨i.toNat, by omega⟩
   obtain ⟨j', rfl⟩ : ∃ n : Nat, j = n := ⟨j.toNat, by omega⟩
   exact impl_comparer_greater.walk _ mb A0 l0 i' j' w hF hl hm hM (by omega) (by omega) r (fun b ⟨n, hn⟩ => impl_comparer_greater.det hs hn) ⟨k + 1, hs⟩
    (fun W hF hM => impl_comparer_isGreater.calls _ mb (fun p q => impl_comparer_greater.f k l0 p q) k A0 l0 (fun W p q b hF hM hb => impl_comparer_greater.calls mb A0 l0 hl hm k p q b W hF hM hb) _ _ r W hF hM h)
  ·rw [if_neg hc] at h
   cases h
def impl_isGreater.f (k : Nat) (l0_0 : List S65) (l1 l2 l3 : List Int) : Option Bool := impl_comparer_greater.f k [⟨⟨l0_0⟩, l1, l2, l3, 0⟩] 0 0
theorem impl_isGreater.calls (k : Nat) (A0_0 : Option Addr) (c0_0 : Nat) (l0_0 : List S65) (A1 : Option Addr) (c1 : Nat) (l1 : List Int) (A2 : Option Addr) (c2 : Nat) (l2 : List Int) (A3 : Option Addr) (c3 : Nat) (l3 : List Int) (r : Bool) (w : World)
  (hr0_0 : Kd.C k65 w A0_0 l0_0.length l0_0) (hc0_0 : l0_0.length ≤ c0_0) (hr1 : Kd.C (Kd.int .i64) w A1 l1.length l1) (hc1 : l1.length ≤ c1) (hr2 : Kd.C (Kd.int .i64) w A2 l2.length l2) (hc2 : l2.length ≤ c2) (hr3 : Kd.C (Kd.int .i64) w A3 l3.length l3) (hc3 : l3.length ≤ c3) (h : impl_isGreater.f k l0_0 l1 l2 l3 = some r) :
  Calls Tryd.prog 32 #[.agg #[.slice A0_0 l0_0.length c0_0], .slice A1 l1.length c1, .slice A2 l2.length c2, .slice A3 l3.length c3] w fun e w' => e = .returned (.bool r) ∧ Below w.heap.size w w' := by
 unfold impl_isGreater.f at h
 rw [impl_comparer_greater.cong (l := [⟨⟨l0_0⟩, l1, l2, l3, 0⟩]) (l' := [⟨⟨l0_0⟩, l1, l2, l3, ((w.heap.size + 1 : Nat) : Int)⟩]) rfl rfl rfl rfl rfl] at h
 exact impl_isGreater.walk A0_0 c0_0 l0_0 A1 c1 l1 A2 c2 l2 A3 c3 l3 r w hr0_0 hc0_0 hr1 hc1 hr2 hc2 hr3 hc3 _ (fun W g hF hM => impl_comparer_greater.calls (w.heap.size + 1) _ _ (by simp) (by show ((w.heap.size + 1 : Nat) : Int).toNat = w.heap.size + 1; exact Int.toNat_natCast _) k 0 0 r W hF hM h)
end Go.Proofs.YtgichahebemmiaaDoor.P
