/- A part of the proof of the law FnExactOrientEquation. -/
import Derived.Laws.StructEq
import Derived.Test.YtgichahebemmiaaGreatDoorCFnExactOrientEquation0
import Derived.Test.YtgichahebemmiaaGreatDoorCFnExactOrientEquation1
import Derived.Test.YtgichahebemmiaaGreatDoorCFnExactOrientEquation2
import Derived.Test.YtgichahebemmiaaGreatDoorCFnExactOrientEquation3
import Derived.Test.YtgichahebemmiaaGreatDoorCFnExactOrientEquation4
import Derived.Test.YtgichahebemmiaaGreatDoorCFnExactOrientEquation5
import Derived.Test.YtgichahebemmiaaGreatDoorCFnExactOrientEquation6
import Derived.Test.YtgichahebemmiaaGreatDoorCFnExactOrientEquation7
import Derived.Test.YtgichahebemmiaaGreatDoorCFnExactOrientEquation8
import Derived.Test.YtgichahebemmiaaGreatDoorCFnExactOrientEquation17
namespace Go.Proofs.YtgichahebemmiaaGreatDoor.P
open Go.RowKit Go.Proofs.YtgichahebemmiaaGreatDoorW.PrintWords Go.Proofs.YtgichahebemmiaaGreatDoorW.PrintLast Go.Proofs.YtgichahebemmiaaGreatDoorW.PrintMore
attribute [local go_sem] Ae7 Ae4 Af9 Ag0 Ad3 Ad2 Ae8 Ae5   -- for this text's walks alone
set_option linter.unusedVariables false
set_option linter.unusedSimpArgs false
open Go.WideMaps
theorem nodup_lt : ∀ (N : Nat) (l : List Nat), l.Pairwise (fun a b => a ≠ b) → (∀ x ∈ l, x < N) → l.length ≤ N
 | 0, l, _, h => by
  cases l with
  | nil => simp
  | cons x r => exact absurd (h x (by simp)) (by omega)
 | N + 1, l, hd, h => by
  have h1 := nodup_lt N (l.filter (fun x => decide (x ≠ N))) (hd.filter _) (fun x hx => by
   rw [List.mem_filter] at hx
   have := h x hx.1
   have := of_decide_eq_true hx.2
   omega)
  have h2 : ∀ l : List Nat, l.Pairwise (fun a b => a ≠ b) → l.length ≤ (l.filter (fun x => decide (x ≠ N))).length + 1 := by
   intro l
   induction l with
   | nil => intro _; simp
   | cons x r ih =>
    intro hp
    rw [List.pairwise_cons] at hp
    have := ih hp.2
    by_cases e : x = N
    ·have e2 : r.filter (fun x => decide (x ≠ N)) = r := by
      rw [List.filter_eq_self]
      intro y hy
      have := hp.1 y hy
      exact decide_eq_true (by omega)
     rw [List.filter_cons_of_neg (by simp [e]), e2]
     simp
    ·rw [List.filter_cons_of_pos (by simpa using e)]
     simp only [List.length_cons]; omega
  have := h2 l hd
  omega
def Ao2 (i j : Nat) : Value := .agg #[.int .i64 i, .int .i64 j]
theorem cmpKey_inj {i j i' j' : Nat} (h : Ao2 i j = Ao2 i' j') : i = i' ∧ j = j' := by
 unfold Ao2 at h
 injection h with h
 have h := congrArg Array.toList h
 simp at h
 omega
theorem cmpArr : ArrKey Tryz.prog 122 3 2 := ⟨Tryz.underlying122, by kernel_rfl, by kernel_rfl, by kernel_rfl⟩
theorem cmpSize : ∃ m, Tryz.prog.types.size = m + 1 := ⟨Tryz.prog.types.size - 1, by have : (0 : Nat) < Tryz.prog.types.size := of_decide_eq_true (by kernel_rfl); omega⟩
theorem As0 : Go.Maps.Keyed Tryz.prog 122 := Go.Maps.Keyed.of_law cmpArr.law
theorem cmp_wf (i : Nat) (hi : i < 1000000) : (Lit.int .i64 (i : Int)).wf = true := by
 simp only [Lit.wf, decide_eq_true_eq, Bool.and_eq_true, IntKind.min, IntKind.max]
 first | omega | (constructor <;> omega) | (simp [IntKind.bits, IntKind.signed] <;> omega)
theorem cmpKey_of (i j : Nat) (hi : i < 1000000) (hj : j < 1000000) : ∃ l, keyOf Tryz.prog 122 (Ao2 i j) = some l :=
 ⟨_, Go.WideMaps.keyOf_pair cmpArr Tryz.underlying3 cmpSize (cmp_wf i hi) (cmp_wf j hj)⟩
def Aj0 (G : Int → Int → Bool → Prop) (mb : Nat) (w : World) : Prop :=
 ∃ es clock, w.heap[mb]? = some (.map es clock) ∧ Go.WideElems.Fit (H := Unit) Tryz.prog 122 (plainElem Tryz.prog 4) es clock ∧
  ∀ x ∈ es.toList, ∃ (i j : Nat) (b : Bool), i < 1000000 ∧ j < 1000000 ∧ x.key = Ao2 i j ∧ x.val = .bool b ∧ G i j b
section
variable {G : Int → Int → Bool → Prop} {mb : Nat} {w w1 w2 : World}
theorem Aj0.same (h : Aj0 G mb w) (he : w1.heap[mb]? = w.heap[mb]?) : Aj0 G mb w1 := by
 obtain ⟨es, c, h1, h2⟩ := h
 exact ⟨es, c, he.trans h1, h2⟩
theorem Aj0.lt (h : Aj0 G mb w) : mb < w.heap.size := by
 obtain ⟨es, c, h1, _⟩ := h
 exact (Array.getElem?_eq_some_iff.1 h1).1
theorem Aj0.below (h : Aj0 G mb w) (hb : Below w.heap.size w w1) : Aj0 G mb w1 := h.same (hb.block mb h.lt)
theorem Aj0.no_cell (h : Aj0 G mb w) {p : Addr} (hp : p.block = mb) : w.cell? p = none := by
 obtain ⟨es, c, h1, _⟩ := h
 unfold World.cell?
 rw [hp, h1]
theorem Aj0.no_cells (h : Aj0 G mb w) {k : Nat} {cs : Array Value} {q : Nat} {z : Nat × Nat} (hk : w.heap[k]? = some (.cells cs q z)) : k ≠ mb := by
 rintro rfl
 obtain ⟨es, c, h1, _⟩ := h
 rw [h1] at hk
 cases hk
theorem Aj0.size (h : Aj0 G mb w) : ∃ es clock, w.heap[mb]? = some (.map es clock) ∧ es.size ≤ 1000000000000 := by
 obtain ⟨es, c, h1, F, h2⟩ := h
 refine ⟨es, c, h1, ?_⟩
 have hd := Go.Maps.fit_apart As0 F
 have hn : es.toList.Pairwise (fun x y => x.key ≠ y.key) := ((Go.MapKept.stamped_iff es c).1 F.stamped).2.2
 have code : ∀ x ∈ es.toList, ∃ n, n < 1000000000000 ∧ ∃ i j : Nat, i < 1000000 ∧ j < 1000000 ∧ x.key = Ao2 i j ∧ n = i * 1000000 + j := by
  intro x hx
  obtain ⟨i, j, b, hi, hj, hk, _⟩ := h2 x hx
  exact ⟨i * 1000000 + j, by omega, i, j, hi, hj, hk, rfl⟩
 clear hd h2 F h1
 have go : ∀ l : List MapEntry, l.Pairwise (fun x y => x.key ≠ y.key) → (∀ x ∈ l, ∃ n, n < 1000000000000 ∧ ∃ i j : Nat, i < 1000000 ∧ j < 1000000 ∧ x.key = Ao2 i j ∧ n = i * 1000000 + j) →
   ∃ ns : List Nat, ns.length = l.length ∧ ns.Pairwise (fun a b => a ≠ b) ∧ (∀ n ∈ ns, n < 1000000000000) ∧ ∀ n ∈ ns, ∃ x ∈ l, ∃ i j : Nat, i < 1000000 ∧ j < 1000000 ∧ x.key = Ao2 i j ∧ n = i * 1000000 + j := by
  intro l
  induction l with
  | nil => intro _ _; exact ⟨[], rfl, List.Pairwise.nil, by simp, by simp⟩
  | cons x r ih =>
   intro hp hc
   rw [List.pairwise_cons] at hp
   obtain ⟨ns, a1, a2, a3, a4⟩ := ih hp.2 (fun y hy => hc y (by simp [hy]))
   obtain ⟨n, hn, i, j, hi, hj, hk, e⟩ := hc x (by simp)
   refine ⟨n :: ns, by simp [a1], List.pairwise_cons.2 ⟨fun m hm hnm => ?_, a2⟩, fun m hm => ?_, fun m hm => ?_⟩
   ·obtain ⟨y, hy, i', j', hi', hj', hk', e'⟩ := a4 m hm
    refine hp.1 y hy ?_
    have : i = i' ∧ j = j' := by omega
    rw [hk, hk', this.1, this.2]
   ·rcases List.mem_cons.1 hm with rfl | hm
    ·exact hn
    ·exact a3 m hm
   ·rcases List.mem_cons.1 hm with rfl | hm
    ·exact ⟨x, by simp, i, j, hi, hj, hk, e⟩
    ·obtain ⟨y, hy, q⟩ := a4 m hm
     exact ⟨y, by simp [hy], q⟩
 obtain ⟨ns, a1, a2, a3, _⟩ := go es.toList hn code
 have := nodup_lt 1000000000000 ns a2 a3
 have e : es.size = es.toList.length := by simp
 omega
structure Bel (G : Int → Int → Bool → Prop) (mb B : Nat) (w w1 : World) : Prop where
 os : w1.os = w.os
 tape : w1.tape = w.tape
 output : w1.output = w.output
 size : w.heap.size ≤ w1.heap.size
 block : ∀ k, k < B → k ≠ mb → w1.heap[k]? = w.heap[k]?
 old : Aj0 G mb w
 inv : Aj0 G mb w1
theorem Bel.of (hI : Aj0 G mb w) (h : Below w.heap.size w w1) : Bel G mb w.heap.size w w1 := ⟨h.os, h.tape, h.output, h.size, fun k hk _ => h.block k hk, hI, hI.below h⟩
theorem Bel.cell {B : Nat} (h : Bel G mb B w w1) {p : Addr} (hp : p.block < B) : w1.cell? p = w.cell? p := by
 by_cases e : p.block = mb
 ·rw [h.inv.no_cell e, h.old.no_cell e]
 ·exact World.cell?_of_block (w := w) (h.block p.block hp e)
theorem Ak9 (h : Bel G mb w.heap.size w w1) (k : Bel G mb w1.heap.size w1 w2) : Bel G mb w.heap.size w w2 :=
 ⟨k.os.trans h.os, k.tape.trans h.tape, k.output.trans h.output, Nat.le_trans h.size k.size, fun i hi hne => (k.block i (Nat.lt_of_lt_of_le hi h.size) hne).trans (h.block i hi hne), h.old, k.inv⟩
theorem Ai8 (h : Bel G mb w.heap.size w w1) (k : Below w1.heap.size w1 w2) : Bel G mb w.heap.size w w2 := Ak9 h (Bel.of h.inv k)
theorem Ab8 (h : Bel G mb w.heap.size w w1) (o : Obj) : Bel G mb w.heap.size w (w1.alloc o) := Ai8 h (Ac5 (Below.refl _ _) o)
theorem Ab9 (h : Bel G mb w.heap.size w w1) (n : Nat) : Bel G mb w.heap.size w (w1.drewN n) := Ai8 h (Af1 (Below.refl _ _) n)
theorem Ac0 (h : Bel G mb w.heap.size w w1) : Bel G mb w.heap.size w w1.drew := Ai8 h (Ab0 (Below.refl _ _))
theorem An2 {α : Type} {d : Kd α} {e base : Nat} {ok : Nat → Prop} {v : Value} {xs : List α} (h : d.R e w base ok v xs) (hb : Bel G mb w.heap.size w w1) : d.R e w1 base ok v xs :=
 Kd.R_mono (Kd.R_move (Kd.R_bound h) (fun k hk => hb.block k hk.2.2.1 (by
  obtain ⟨_, _, _, q, _, cells, hc⟩ := hk
  exact hb.old.no_cells hc))) (fun _ hk => hk.1)
theorem As9 {α : Type} {d : Kd α} {A : Option Addr} {n : Nat} {xs : List α} (h : Kd.F d w (fun k_ => k_ ≠ mb) A n xs) (hb : Bel G mb w.heap.size w w1) : Kd.F d w1 (fun k_ => k_ ≠ mb) A n xs := Kd.F_step h (fun k hk hlt => hb.block k hlt hk)
theorem As6 {α : Type} {d : Kd α} {A : Option Addr} {n : Nat} {xs : List α} (h : Kd.F d w (fun k_ => k_ ≠ mb) A n xs) (hb : Bel G mb w.heap.size w w1) : Kd.C d w1 A n xs := Kd.F_now (As9 h hb)
theorem Au7 {q : IntKind} {A : Option Addr} {n : Nat} {xs : List Int} (h : Kd.C (Kd.int q) w A n xs) (hb : Bel G mb w.heap.size w w1) : Kd.C (Kd.int q) w1 A n xs :=
 ⟨h.1, h.2.1, fun hn => by
  obtain ⟨ad, e, hc⟩ := h.2.2 hn
  refine ⟨ad, e, fun j p hj => ?_⟩
  obtain ⟨c, hs, hr, hcell⟩ := hc j p hj
  exact ⟨c, hs, hr, fun i u hu => by
   have := hcell i u hu
   rw [hb.cell (World.block_lt_of_cell? _ _ this)]
   exact this⟩⟩
theorem bcB (h : Bel G mb w.heap.size w w1) {p : Addr} {v : Value} (hx : w.cell? p = some v) : w1.cell? p = some v := (h.cell (World.block_lt_of_cell? w p hx)).trans hx
theorem bcL (h : Below w.heap.size w w1) {p : Addr} {v : Value} (hx : w.cell? p = some v) : w1.cell? p = some v := (h.cell (World.block_lt_of_cell? w p hx)).trans hx
end
theorem Al5 {w : World} {A : Option Addr} {n : Nat} {xs : List S114} (h : Kd.C Au8 w A n xs) (h1 : (0 : Int) < (n : Int)) : ∃ ad A0 c0 A1 c1 A2 c2 A3 c3, A = some ad ∧ w.cell? ad = some (.slice A0 ((Aa2 xs 0).f0.f0).length c0) ∧ w.cell? ⟨ad.block, ad.off + 1, none⟩ = some (.slice A1 ((Aa2 xs 0).f1).length c1) ∧ w.cell? ⟨ad.block, ad.off + 2, none⟩ = some (.slice A2 ((Aa2 xs 0).f2).length c2) ∧ w.cell? ⟨ad.block, ad.off + 3, none⟩ = some (.slice A3 ((Aa2 xs 0).f3).length c3) ∧ w.cell? ⟨ad.block, ad.off + 4, none⟩ = some (.map (some ((Aa2 xs 0).f4).toNat)) ∧
  (Aa2 xs 0).f0.f0.length ≤ c0 ∧ k79.C w A0 (Aa2 xs 0).f0.f0.length (Aa2 xs 0).f0.f0 ∧ (Aa2 xs 0).f1.length ≤ c1 ∧ (Kd.int .i64).C w A1 (Aa2 xs 0).f1.length (Aa2 xs 0).f1 ∧ (Aa2 xs 0).f2.length ≤ c2 ∧ (Kd.int .i64).C w A2 (Aa2 xs 0).f2.length (Aa2 xs 0).f2 ∧ (Aa2 xs 0).f3.length ≤ c3 ∧ (Kd.int .i64).C w A3 (Aa2 xs 0).f3.length (Aa2 xs 0).f3 := by
 obtain ⟨ad, A0, c0, A1, c1, A2, c2, A3, c3, e, x0, x1, x2, x3, x4, r⟩ := Ak1 h 0 (by omega) h1
 rw [show ((0 : Int)).toNat = 0 from rfl, show 0 * 5 = 0 from rfl, Addr.add_zero'] at x0 x1 x2 x3 x4
 exact ⟨ad, A0, c0, A1, c1, A2, c2, A3, c3, e, x0, x1, x2, x3, x4, r⟩
mutual
def impl_comparer_isGreater.l0 (g : Int → Int → Option Bool) : Nat → List (S114) → Int → Int → Int → Int → List Int → List Int → List Int → Int → Int → Option (Bool)
 | 0, _, _, _, _, _, _, _, _, _, _ => none
 | k + 1, x0, x1, x2, x7, x8, x9, x10, x72, x73, x74 => if x74 < x73 then (if 0 ≤ x74 then (if x74 < (x72.length : Int) then ((impl_comparer_same.f k x0 (rd x72 x74) x2).bind fun t387 => (if t387 = true then (some true) else ((g (rd x72 x74) x2).bind fun t388 => (if t388 = true then (some true) else (impl_comparer_isGreater.l0 g k x0 x1 x2 x7 x8 x9 x10 x72 x73 (wrap64 (x74 + 1))))))) else (none)) else (none)) else (if 0 < (x0.length : Int) then ((slices_Index_int64_int64.f k ((Aa2 x0 0).f1) x7).bind fun t391 => ((slices_Index_int64_int64.f k ((Aa2 x0 0).f1) x8).bind fun t394 => (if (wrap64 (t391 - t394)) < 0 then (some false) else (impl_comparer_isGreater.l1 g k x0 x1 x9 x10 (wrap64 (t391 - t394)) x10 (x10.length : Int) 0)))) else (none))
def impl_comparer_isGreater.l1 (g : Int → Int → Option Bool) : Nat → List (S114) → Int → List Int → List Int → Int → List Int → Int → Int → Option (Bool)
 | 0, _, _, _, _, _, _, _, _ => none
 | k + 1, x0, x1, x9, x10, x13, x104, x105, x106 => if x106 < x105 then (if 0 ≤ x106 then (if x106 < (x104.length : Int) then ((g x1 (rd x104 x106)).bind fun t396 => (if t396 = true then (impl_comparer_isGreater.l1 g k x0 x1 x9 x10 x13 x104 x105 (wrap64 (x106 + 1))) else (some false))) else (none)) else (none)) else (if x13 > 0 then (some true) else (impl_comparer_isGreater.l2 g k x0 x10 x9 (x9.length : Int) 0))
def impl_comparer_isGreater.l2 (g : Int → Int → Option Bool) : Nat → List (S114) → List Int → List Int → Int → Int → Option (Bool)
 | 0, _, _, _, _, _ => none
 | k + 1, x0, x10, x118, x119, x120 => if x120 < x119 then (if 0 ≤ x120 then (if x120 < (x118.length : Int) then (if x120 < (x10.length : Int) then ((impl_comparer_same.f k x0 (rd x118 x120) (rd x10 x120)).bind fun t399 => (if t399 = true then (impl_comparer_isGreater.l2 g k x0 x10 x118 x119 (wrap64 (x120 + 1))) else ((g (rd x118 x120) (rd x10 x120)).bind fun t401 => (some t401)))) else (none)) else (none)) else (none)) else (some false)
end
def impl_comparer_isGreater.f (g : Int → Int → Option Bool) (k : Nat) (l0 : List (S114)) (a1 : Int) (a2 : Int) : Option (Bool) := if 0 < (l0.length : Int) then (if 0 ≤ a1 then (if a1 < (((Aa2 l0 0).f2).length : Int) then (if 0 ≤ a2 then (if a2 < (((Aa2 l0 0).f3).length : Int) then (if (rd ((Aa2 l0 0).f3) a2) < 0 then (if (rd ((Aa2 l0 0).f2) a1) ≥ 0 then ((impl_subterm.f k ((Aa2 l0 0).f0.f0) ((Aa2 l0 0).f2) a1).bind fun t368 => ((slices_Contains_int64_int64.f k t368 (rd ((Aa2 l0 0).f3) a2)).bind fun t371 => (some t371))) else (some false)) else (if (rd ((Aa2 l0 0).f2) a1) < 0 then (some false) else ((impl_argumentsOf.f k ((Aa2 l0 0).f0.f0) ((Aa2 l0 0).f2) a1).bind fun t376 => ((impl_argumentsOf.f k ((Aa2 l0 0).f0.f0) ((Aa2 l0 0).f3) a2).bind fun t383 => (impl_comparer_isGreater.l0 g k l0 a1 a2 (rd ((Aa2 l0 0).f2) a1) (rd ((Aa2 l0 0).f3) a2) t376 t383 t376 (t376.length : Int) 0))))) else (none)) else (none)) else (none)) else (none)) else (none)
theorem impl_comparer_isGreater.mono_l {g g' : Int → Int → Option Bool} (hg : ∀ p q, LeO (g p q) (g' p q)) : ∀ k, (∀ y0 y1 y2 y3 y4 y5 y6 y7 y8 y9, LeO (impl_comparer_isGreater.l0 g k y0 y1 y2 y3 y4 y5 y6 y7 y8 y9) (impl_comparer_isGreater.l0 g' (k + 1) y0 y1 y2 y3 y4 y5 y6 y7 y8 y9)) ∧ (∀ y0 y1 y2 y3 y4 y5 y6 y7, LeO (impl_comparer_isGreater.l1 g k y0 y1 y2 y3 y4 y5 y6 y7) (impl_comparer_isGreater.l1 g' (k + 1) y0 y1 y2 y3 y4 y5 y6 y7)) ∧ (∀ y0 y1 y2 y3 y4, LeO (impl_comparer_isGreater.l2 g k y0 y1 y2 y3 y4) (impl_comparer_isGreater.l2 g' (k + 1) y0 y1 y2 y3 y4))
 | 0 => ⟨fun _ _ _ _ _ _ _ _ _ _ r h => by simp [impl_comparer_isGreater.l0] at h, fun _ _ _ _ _ _ _ _ r h => by simp [impl_comparer_isGreater.l1] at h, fun _ _ _ _ _ r h => by simp [impl_comparer_isGreater.l2] at h⟩
 | k + 1 => by
  obtain ⟨ih0, ih1, ih2⟩ := impl_comparer_isGreater.mono_l hg k
  refine ⟨fun y0 y1 y2 y3 y4 y5 y6 y7 y8 y9 => ?_, fun y0 y1 y2 y3 y4 y5 y6 y7 => ?_, fun y0 y1 y2 y3 y4 => ?_⟩
  unfold impl_comparer_isGreater.l0
  rotate_left
  unfold impl_comparer_isGreater.l1
  rotate_left
  unfold impl_comparer_isGreater.l2
  rotate_left
  all_goals (repeat' first | (with_reducible first | apply ih0 | apply ih1 | apply ih2 | apply impl_argumentsOf.mono | exact hg _ _ | apply impl_comparer_same.mono | apply impl_subterm.mono | apply slices_Contains_int64_int64.mono | apply slices_Index_int64_int64.mono | exact LeO.refl _ | exact LeO.none _ | refine LeO.ite ?_ ?_ | refine LeO.bind ?_ (fun _ => ?_)) | apply ih0 | apply ih1 | apply ih2 | apply impl_argumentsOf.mono | exact hg _ _ | apply impl_comparer_same.mono | apply impl_subterm.mono | apply slices_Contains_int64_int64.mono | apply slices_Index_int64_int64.mono | exact LeO.none _ | refine LeO.ite ?_ ?_ | refine LeO.bind ?_ (fun _ => ?_))
theorem impl_comparer_isGreater.mono {g g' : Int → Int → Option Bool} (hg : ∀ p q, LeO (g p q) (g' p q)) : ∀ a0 a1 a2 k, LeO (impl_comparer_isGreater.f g k a0 a1 a2) (impl_comparer_isGreater.f g' (k + 1) a0 a1 a2) := by
 intro a0 a1 a2 k
 obtain ⟨ih0, ih1, ih2⟩ := impl_comparer_isGreater.mono_l hg k
 unfold impl_comparer_isGreater.f
 repeat' first | (with_reducible first | apply ih0 | apply ih1 | apply ih2 | apply impl_argumentsOf.mono | exact hg _ _ | apply impl_comparer_same.mono | apply impl_subterm.mono | apply slices_Contains_int64_int64.mono | apply slices_Index_int64_int64.mono | exact LeO.refl _ | exact LeO.none _ | refine LeO.ite ?_ ?_ | refine LeO.bind ?_ (fun _ => ?_)) | apply ih0 | apply ih1 | apply ih2 | apply impl_argumentsOf.mono | exact hg _ _ | apply impl_comparer_same.mono | apply impl_subterm.mono | apply slices_Contains_int64_int64.mono | apply slices_Index_int64_int64.mono | exact LeO.none _ | refine LeO.ite ?_ ?_ | refine LeO.bind ?_ (fun _ => ?_)
def impl_comparer_isGreater.T1 : Bool × List (List Nat × List Nat) := (true, [([], []), ([0], [0]), ([1], [1]), ([2], [2]), ([], []), ([3, 4], [3, 4]), ([5], [5]), ([], []), ([7], [7]), ([8], [8]), ([9], [9]), ([], []), ([10, 11], [10, 11]), ([12], [12]), ([6, 0, 1, 2, 3, 4, 5, 6], [6]), ([13, 14, 0, 1, 2, 3, 4, 5, 6, 7, 8, 9, 10, 11, 12, 13, 14], [13])])
def impl_comparer_isGreater.B1 : List Nat := [0, 1, 3, 7, 0, 31, 63, 0, 128, 384, 896, 0, 3968, 8064, 127, 32767]
theorem impl_comparer_isGreater.tab1 : Aj9 .any (Ak7 Tryz.f100 1) = impl_comparer_isGreater.T1 := by kernel_rfl
theorem impl_comparer_isGreater.bits1 : Ae6 impl_comparer_isGreater.T1.2 impl_comparer_isGreater.B1 = true := by kernel_rfl
def impl_comparer_isGreater.T3 : Bool × List (List Nat × List Nat) := (true, [([], []), ([0], [0]), ([1], [1]), ([2], [2]), ([3, 2], [2, 3]), ([4, 2], [2, 4]), ([5, 2], [2, 5]), ([2], [2]), ([7, 2], [2, 7]), ([8, 2], [2, 8]), ([9, 2], [2, 9]), ([2], [2]), ([6, 10, 11, 2, 2], [2, 6, 10, 11]), ([2], [2]), ([12, 13, 12, 2], [2, 12, 13]), ([2, 14], [2, 14]), ([15, 14, 0, 1, 2, 3, 4, 5, 6, 7, 8, 9, 10, 11, 12, 13, 14, 15], [15])])
def impl_comparer_isGreater.B3 : List Nat := [0, 1, 3, 7, 15, 31, 63, 7, 135, 391, 903, 7, 4095, 7, 16383, 32767, 65535]
theorem impl_comparer_isGreater.tab3 : Aj9 .any (Ak7 Tryz.f100 3) = impl_comparer_isGreater.T3 := by kernel_rfl
theorem impl_comparer_isGreater.bits3 : Ae6 impl_comparer_isGreater.T3.2 impl_comparer_isGreater.B3 = true := by kernel_rfl
def impl_comparer_isGreater.T6 : Bool × List (List Nat × List Nat) := (true, [([], []), ([0], [0]), ([1], [1]), ([2], [2]), ([], []), ([4], [4]), ([5], [5]), ([6], [6]), ([], []), ([3, 7, 8], [3, 7, 8]), ([], []), ([10], [10]), ([11], [11]), ([12], [12]), ([], []), ([14], [14]), ([15], [15]), ([16], [16]), ([], []), ([13, 17, 18, 9], [13, 17, 18]), ([9, 19, 0, 1, 2, 3, 4, 5, 6, 7, 8, 9], [9]), ([19, 20, 0, 1, 2, 3, 4, 5, 6, 7, 8, 9, 10, 11, 12, 13, 14, 15, 16, 17, 18, 19, 20], [19])])
def impl_comparer_isGreater.B6 : List Nat := [0, 1, 3, 7, 0, 16, 48, 112, 0, 511, 0, 1024, 3072, 7168, 0, 16384, 49152, 114688, 0, 524287, 1048575, 2097151]
theorem impl_comparer_isGreater.tab6 : Aj9 .any (Ak7 Tryz.f100 6) = impl_comparer_isGreater.T6 := by kernel_rfl
theorem impl_comparer_isGreater.bits6 : Ae6 impl_comparer_isGreater.T6.2 impl_comparer_isGreater.B6 = true := by kernel_rfl
def impl_comparer_isGreater.T13 : Bool × List (List Nat × List Nat) := (true, [([], []), ([0], [0]), ([1], [1]), ([2], [2]), ([], []), ([3, 4], [3, 4]), ([], []), ([6], [6]), ([7], [7]), ([8], [8]), ([], []), ([9, 10, 5], [9, 10]), ([5, 11], [5, 11]), ([12, 11, 0, 1, 2, 3, 4, 5, 6, 7, 8, 9, 10, 11, 12], [12])])
def impl_comparer_isGreater.B13 : List Nat := [0, 1, 3, 7, 0, 31, 0, 64, 192, 448, 0, 2047, 4095, 8191]
theorem impl_comparer_isGreater.tab13 : Aj9 .any (Ak7 Tryz.f100 13) = impl_comparer_isGreater.T13 := by kernel_rfl
theorem impl_comparer_isGreater.bits13 : Ae6 impl_comparer_isGreater.T13.2 impl_comparer_isGreater.B13 = true := by kernel_rfl
set_option maxHeartbeats 8000000 in
set_option maxRecDepth 100000 in
theorem impl_comparer_isGreater.calls (G : Int → Int → Bool → Prop) (mb : Nat) (g : Int → Int → Option Bool) (k : Nat) (A0 : Option Addr) (l0 : List S114)
  (hg : ∀ (W : World) (p q : Int) (b : Bool), Kd.F Au8 W (fun k_ => k_ ≠ mb) A0 l0.length l0 → Aj0 G mb W → g p q = some b → Calls Tryz.prog 88 #[.pointer A0, .int .i64 p, .int .i64 q] W fun e w' => e = .returned (.bool b) ∧ Bel G mb W.heap.size W w')
  (a1 : Int) (a2 : Int) (r : Bool) (w : World) (hr0 : Kd.F Au8 w (fun k_ => k_ ≠ mb) A0 l0.length l0) (hI : Aj0 G mb w) (h : impl_comparer_isGreater.f g k l0 a1 a2 = some r) :
  Calls Tryz.prog 100 #[.pointer A0, .int .i64 a1, .int .i64 a2] w fun e w' => e = .returned (.bool r) ∧ Bel G mb w.heap.size w w' := by
 have hu36 := Tryz.underlying36
 have HF0 := am hr0
 have HI := am hI
 have HG := am hg
 have HR0 := am (Kd.F_now hr0)
 clear hr0 hI hg
 have HB := am (Below.refl w.heap.size w)
 have H : (if 0 < (l0.length : Int) then (if 0 ≤ a1 then (if a1 < (((Aa2 l0 0).f2).length : Int) then (if 0 ≤ a2 then (if a2 < (((Aa2 l0 0).f3).length : Int) then (if (rd ((Aa2 l0 0).f3) a2) < 0 then (if (rd ((Aa2 l0 0).f2) a1) ≥ 0 then ((impl_subterm.f k ((Aa2 l0 0).f0.f0) ((Aa2 l0 0).f2) a1).bind fun t368 => ((slices_Contains_int64_int64.f k t368 (rd ((Aa2 l0 0).f3) a2)).bind fun t371 => (some t371))) else (some false)) else (if (rd ((Aa2 l0 0).f2) a1) < 0 then (some false) else ((impl_argumentsOf.f k ((Aa2 l0 0).f0.f0) ((Aa2 l0 0).f2) a1).bind fun t376 => ((impl_argumentsOf.f k ((Aa2 l0 0).f0.f0) ((Aa2 l0 0).f3) a2).bind fun t383 => (impl_comparer_isGreater.l0 g k l0 a1 a2 (rd ((Aa2 l0 0).f2) a1) (rd ((Aa2 l0 0).f3) a2) t376 t383 t376 (t376.length : Int) 0))))) else (none)) else (none)) else (none)) else (none)) else (none)) = some r := h
 clear h
 obtain ⟨c4, H⟩ := ifs H
 have c4b0 : decide (0 < (l0.length : Int)) = true := decide_eq_true c4
 have c4b1 : decide (0 < l0.length) = true := decide_eq_true (by omega)
 clear c4
 obtain ⟨c5b0, H⟩ := ife H
 obtain ⟨c6b0, H⟩ := ife H
 obtain ⟨c7b0, H⟩ := ife H
 obtain ⟨c8b0, H⟩ := ife H
 by_cases c9 : (rd ((Aa2 l0 0).f3) a2) < 0
 ·rw [if_pos c9] at H
  have c9b0 : decide ((rd ((Aa2 l0 0).f3) a2) < 0) = true := decide_eq_true c9
  clear c9
  by_cases c10 : (rd ((Aa2 l0 0).f2) a1) ≥ 0
  ·rw [if_pos c10] at H
   have c10b0 : decide (0 ≤ (rd ((Aa2 l0 0).f2) a1)) = true := decide_eq_true c10
   clear c10
   obtain ⟨t368, A11, H⟩ := ob H
   try dsimp only at H
   obtain ⟨t371, A12, H⟩ := ob H
   try dsimp only at H
   obtain rfl := Option.some.inj H
   go_enter Tryz.func100, Tryz.ntmps100
   try go_wp2
   replace HB := am (Ab0 HB.out)
   have p358 : 0 ≤ (0 : Int) := (by omega)
   have q358 : 0 < (l0.length : Int) := od
   obtain ⟨ad358, A358_0, c358_0, A358_1, c358_1, A358_2, c358_2, A358_3, c358_3, e358, hx358_0, hx358_1, hx358_2, hx358_3, hx358_4, hl358_0, hi358_0, hl358_1, hi358_1, hl358_2, hi358_2, hl358_3, hi358_3⟩ := Al5 HR0.out q358
   have hw358_4 := hx358_4
   have hw358_3 := hx358_3
   have hw358_2 := hx358_2
   have hw358_1 := hx358_1
   have hw358_0 := hx358_0
   cases e358
   have qi358 : (0 < l0.length) = True := eq_true (by omega)
   replace hx358_0 := bcL HB.out hx358_0
   replace hx358_1 := bcL HB.out hx358_1
   replace hx358_2 := bcL HB.out hx358_2
   replace hx358_3 := bcL HB.out hx358_3
   replace hx358_4 := bcL HB.out hx358_4
   have HR358_0 := am hi358_0
   have HC358_0 := am hl358_0
   clear hi358_0 hl358_0
   have HR358_1 := am hi358_1
   have HC358_1 := am hl358_1
   clear hi358_1 hl358_1
   have HR358_2 := am hi358_2
   have HC358_2 := am hl358_2
   clear hi358_2 hl358_2
   have HR358_3 := am hi358_3
   have HC358_3 := am hl358_3
   clear hi358_3 hl358_3
   replace p358 := eq_true p358
   replace q358 := eq_true q358
   have p359 : 0 ≤ (0 : Int) := (by omega)
   have q359 : 0 < (l0.length : Int) := od
   obtain ⟨ad359, A359_0, c359_0, A359_1, c359_1, A359_2, c359_2, A359_3, c359_3, e359, hx359_0, hx359_1, hx359_2, hx359_3, hx359_4, hl359_0, hi359_0, hl359_1, hi359_1, hl359_2, hi359_2, hl359_3, hi359_3⟩ := Al5 HR0.out q359
   have hw359_4 := hx359_4
   have hw359_3 := hx359_3
   have hw359_2 := hx359_2
   have hw359_1 := hx359_1
   have hw359_0 := hx359_0
   obtain rfl : ad358 = ad359 := (by injection e359)
   have qi359 : (0 < l0.length) = True := eq_true (by omega)
   replace hx359_0 := bcL HB.out hx359_0
   replace hx359_1 := bcL HB.out hx359_1
   replace hx359_2 := bcL HB.out hx359_2
   replace hx359_3 := bcL HB.out hx359_3
   replace hx359_4 := bcL HB.out hx359_4
   have HR359_0 := am hi359_0
   have HC359_0 := am hl359_0
   clear hi359_0 hl359_0
   have HR359_1 := am hi359_1
   have HC359_1 := am hl359_1
   clear hi359_1 hl359_1
   have HR359_2 := am hi359_2
   have HC359_2 := am hl359_2
   clear hi359_2 hl359_2
   have HR359_3 := am hi359_3
   have HC359_3 := am hl359_3
   clear hi359_3 hl359_3
   replace p359 := eq_true p359
   replace q359 := eq_true q359
   have ea_ := Option.some.inj (hx358_0.symm.trans hx359_0)
   injection ea_ with ea_ en_ ec_
   subst ea_
   subst ec_
   clear en_
   have ea_ := Option.some.inj (hx358_1.symm.trans hx359_1)
   injection ea_ with ea_ en_ ec_
   subst ea_
   subst ec_
   clear en_
   have ea_ := Option.some.inj (hx358_2.symm.trans hx359_2)
   injection ea_ with ea_ en_ ec_
   subst ea_
   subst ec_
   clear en_
   have ea_ := Option.some.inj (hx358_3.symm.trans hx359_3)
   injection ea_ with ea_ en_ ec_
   subst ea_
   subst ec_
   clear en_
   have p360 : 0 ≤ (a1 : Int) := od
   have q360 : a1 < (((Aa2 l0 0).f2).length : Int) := od
   obtain ⟨ad360, e360, hx360_0⟩ := Kd.at_int HR359_2.out a1 p360 q360
   have hw360_0 := hx360_0
   cases e360
   replace hx360_0 := bcL HB.out hx360_0
   replace p360 := eq_true p360
   replace q360 := eq_true q360
   have p361 : 0 ≤ (0 : Int) := (by omega)
   have q361 : 0 < (l0.length : Int) := od
   obtain ⟨ad361, A361_0, c361_0, A361_1, c361_1, A361_2, c361_2, A361_3, c361_3, e361, hx361_0, hx361_1, hx361_2, hx361_3, hx361_4, hl361_0, hi361_0, hl361_1, hi361_1, hl361_2, hi361_2, hl361_3, hi361_3⟩ := Al5 HR0.out q361
   have hw361_4 := hx361_4
   have hw361_3 := hx361_3
   have hw361_2 := hx361_2
   have hw361_1 := hx361_1
   have hw361_0 := hx361_0
   obtain rfl : ad358 = ad361 := (by injection e361)
   have qi361 : (0 < l0.length) = True := eq_true (by omega)
   replace hx361_0 := bcL HB.out hx361_0
   replace hx361_1 := bcL HB.out hx361_1
   replace hx361_2 := bcL HB.out hx361_2
   replace hx361_3 := bcL HB.out hx361_3
   replace hx361_4 := bcL HB.out hx361_4
   have HR361_0 := am hi361_0
   have HC361_0 := am hl361_0
   clear hi361_0 hl361_0
   have HR361_1 := am hi361_1
   have HC361_1 := am hl361_1
   clear hi361_1 hl361_1
   have HR361_2 := am hi361_2
   have HC361_2 := am hl361_2
   clear hi361_2 hl361_2
   have HR361_3 := am hi361_3
   have HC361_3 := am hl361_3
   clear hi361_3 hl361_3
   replace p361 := eq_true p361
   replace q361 := eq_true q361
   have ea_ := Option.some.inj (hx358_0.symm.trans hx361_0)
   injection ea_ with ea_ en_ ec_
   subst ea_
   subst ec_
   clear en_
   have ea_ := Option.some.inj (hx358_1.symm.trans hx361_1)
   injection ea_ with ea_ en_ ec_
   subst ea_
   subst ec_
   clear en_
   have ea_ := Option.some.inj (hx358_2.symm.trans hx361_2)
   injection ea_ with ea_ en_ ec_
   subst ea_
   subst ec_
   clear en_
   have ea_ := Option.some.inj (hx358_3.symm.trans hx361_3)
   injection ea_ with ea_ en_ ec_
   subst ea_
   subst ec_
   clear en_
   have p362 : 0 ≤ (0 : Int) := (by omega)
   have q362 : 0 < (l0.length : Int) := od
   obtain ⟨ad362, A362_0, c362_0, A362_1, c362_1, A362_2, c362_2, A362_3, c362_3, e362, hx362_0, hx362_1, hx362_2, hx362_3, hx362_4, hl362_0, hi362_0, hl362_1, hi362_1, hl362_2, hi362_2, hl362_3, hi362_3⟩ := Al5 HR0.out q362
   have hw362_4 := hx362_4
   have hw362_3 := hx362_3
   have hw362_2 := hx362_2
   have hw362_1 := hx362_1
   have hw362_0 := hx362_0
   obtain rfl : ad358 = ad362 := (by injection e362)
   have qi362 : (0 < l0.length) = True := eq_true (by omega)
   replace hx362_0 := bcL HB.out hx362_0
   replace hx362_1 := bcL HB.out hx362_1
   replace hx362_2 := bcL HB.out hx362_2
   replace hx362_3 := bcL HB.out hx362_3
   replace hx362_4 := bcL HB.out hx362_4
   have HR362_0 := am hi362_0
   have HC362_0 := am hl362_0
   clear hi362_0 hl362_0
   have HR362_1 := am hi362_1
   have HC362_1 := am hl362_1
   clear hi362_1 hl362_1
   have HR362_2 := am hi362_2
   have HC362_2 := am hl362_2
   clear hi362_2 hl362_2
   have HR362_3 := am hi362_3
   have HC362_3 := am hl362_3
   clear hi362_3 hl362_3
   replace p362 := eq_true p362
   replace q362 := eq_true q362
   have ea_ := Option.some.inj (hx358_0.symm.trans hx362_0)
   injection ea_ with ea_ en_ ec_
   subst ea_
   subst ec_
   clear en_
   have ea_ := Option.some.inj (hx358_1.symm.trans hx362_1)
   injection ea_ with ea_ en_ ec_
   subst ea_
   subst ec_
   clear en_
   have ea_ := Option.some.inj (hx358_2.symm.trans hx362_2)
   injection ea_ with ea_ en_ ec_
   subst ea_
   subst ec_
   clear en_
   have ea_ := Option.some.inj (hx358_3.symm.trans hx362_3)
   injection ea_ with ea_ en_ ec_
   subst ea_
   subst ec_
   clear en_
   have p363 : 0 ≤ (a2 : Int) := od
   have q363 : a2 < (((Aa2 l0 0).f3).length : Int) := od
   obtain ⟨ad363, e363, hx363_0⟩ := Kd.at_int HR362_3.out a2 p363 q363
   have hw363_0 := hx363_0
   cases e363
   replace hx363_0 := bcL HB.out hx363_0
   replace p363 := eq_true p363
   replace q363 := eq_true q363
   refine Ad5 (n := 16) (S := fun w' => w'.cell? ad358 = some (.slice A358_0 ((Aa2 l0 0).f0.f0).length c358_0) ∧ w'.cell? ⟨ad358.block, ad358.off + 1, none⟩ = some (.slice A358_1 ((Aa2 l0 0).f1).length c358_1) ∧ w'.cell? ⟨ad358.block, ad358.off + 2, none⟩ = some (.slice (some ad360) ((Aa2 l0 0).f2).length c358_2) ∧ w'.cell? ⟨ad358.block, ad358.off + 3, none⟩ = some (.slice (some ad363) ((Aa2 l0 0).f3).length c358_3) ∧ w'.cell? ⟨ad358.block, ad358.off + 4, none⟩ = some (.map (some ((Aa2 l0 0).f4).toNat)) ∧ w'.cell? ad358 = some (.slice A358_0 ((Aa2 l0 0).f0.f0).length c358_0) ∧ w'.cell? ⟨ad358.block, ad358.off + 1, none⟩ = some (.slice A358_1 ((Aa2 l0 0).f1).length c358_1) ∧ w'.cell? ⟨ad358.block, ad358.off + 2, none⟩ = some (.slice (some ad360) ((Aa2 l0 0).f2).length c358_2) ∧ w'.cell? ⟨ad358.block, ad358.off + 3, none⟩ = some (.slice (some ad363) ((Aa2 l0 0).f3).length c358_3) ∧ w'.cell? ⟨ad358.block, ad358.off + 4, none⟩ = some (.map (some ((Aa2 l0 0).f4).toNat)) ∧ w'.cell? (ad360.add (a1).toNat) = some (.int .i64 (rd ((Aa2 l0 0).f2) a1)) ∧ w'.cell? ad358 = some (.slice A358_0 ((Aa2 l0 0).f0.f0).length c358_0) ∧ w'.cell? ⟨ad358.block, ad358.off + 1, none⟩ = some (.slice A358_1 ((Aa2 l0 0).f1).length c358_1) ∧ w'.cell? ⟨ad358.block, ad358.off + 2, none⟩ = some (.slice (some ad360) ((Aa2 l0 0).f2).length c358_2) ∧ w'.cell? ⟨ad358.block, ad358.off + 3, none⟩ = some (.slice (some ad363) ((Aa2 l0 0).f3).length c358_3) ∧ w'.cell? ⟨ad358.block, ad358.off + 4, none⟩ = some (.map (some ((Aa2 l0 0).f4).toNat)) ∧ w'.cell? ad358 = some (.slice A358_0 ((Aa2 l0 0).f0.f0).length c358_0) ∧ w'.cell? ⟨ad358.block, ad358.off + 1, none⟩ = some (.slice A358_1 ((Aa2 l0 0).f1).length c358_1) ∧ w'.cell? ⟨ad358.block, ad358.off + 2, none⟩ = some (.slice (some ad360) ((Aa2 l0 0).f2).length c358_2) ∧ w'.cell? ⟨ad358.block, ad358.off + 3, none⟩ = some (.slice (some ad363) ((Aa2 l0 0).f3).length c358_3) ∧ w'.cell? ⟨ad358.block, ad358.off + 4, none⟩ = some (.map (some ((Aa2 l0 0).f4).toNat)) ∧ w'.cell? (ad363.add (a2).toNat) = some (.int .i64 (rd ((Aa2 l0 0).f3) a2))) (ds := []) #[false, false, false, false, false, false, false, false, false, false, false, false, false, false, false, false] (by kernel_rfl) rfl rfl ⟨(bcL HB.out hw358_0), (bcL HB.out hw358_1), (bcL HB.out hw358_2), (bcL HB.out hw358_3), (bcL HB.out hw358_4), (bcL HB.out hw359_0), (bcL HB.out hw359_1), (bcL HB.out hw359_2), (bcL HB.out hw359_3), (bcL HB.out hw359_4), (bcL HB.out hw360_0), (bcL HB.out hw361_0), (bcL HB.out hw361_1), (bcL HB.out hw361_2), (bcL HB.out hw361_3), (bcL HB.out hw361_4), (bcL HB.out hw362_0), (bcL HB.out hw362_1), (bcL HB.out hw362_2), (bcL HB.out hw362_3), (bcL HB.out hw362_4), (bcL HB.out hw363_0)⟩ (fun hHeld => ?_); refine Ac1 impl_comparer_isGreater.tab1 impl_comparer_isGreater.bits1 (fun HT_ HW_ => ?_)
   generalize w.drew = w13 at HB HR358_0 HR358_1 HR358_2 HR358_3 HR359_0 HR359_1 HR359_2 HR359_3 HR361_0 HR361_1 HR361_2 HR361_3 HR362_0 HR362_1 HR362_2 HR362_3 hx358_0 hx358_1 hx358_2 hx358_3 hx358_4 hx359_0 hx359_1 hx359_2 hx359_3 hx359_4 hx360_0 hx361_0 hx361_1 hx361_2 hx361_3 hx361_4 hx362_0 hx362_1 hx362_2 hx362_3 hx362_4 hx363_0 hHeld ⊢
   refine pu 0 18 rfl rfl HT_ ?_
   refine pu 1 19 rfl rfl HT_ ?_
   refine pu 2 20 rfl rfl HT_ ?_
   refine pu 4 22 rfl rfl HT_ ?_
   refine pu 7 25 rfl rfl HT_ ?_
   refine pu 8 26 rfl rfl HT_ ?_
   refine pu 9 27 rfl rfl HT_ ?_
   refine pu 11 29 rfl rfl HT_ ?_
   refine tk 3 21 rfl rfl HT_ HW_ hHeld ?_
   refine pu 5 23 rfl rfl HT_ ?_
   refine tk 6 24 rfl rfl HT_ HW_ hHeld ?_
   refine pu 14 7 rfl rfl HT_ ?_
   refine tk 10 28 rfl rfl HT_ HW_ hHeld ?_
   refine pu 12 30 rfl rfl HT_ ?_
   refine tk 13 31 rfl rfl HT_ HW_ hHeld ?_
   refine pu 15 8 rfl rfl HT_ ?_
   refine Ag1 (Ac8 HT_.out (by kernel_rfl)) ?_
   try go_wp2
   replace HB := am (Ab0 HB.out)
   have p364 : 0 ≤ (0 : Int) := (by omega)
   have q364 : 0 < (l0.length : Int) := od
   obtain ⟨ad364, A364_0, c364_0, A364_1, c364_1, A364_2, c364_2, A364_3, c364_3, e364, hx364_0, hx364_1, hx364_2, hx364_3, hx364_4, hl364_0, hi364_0, hl364_1, hi364_1, hl364_2, hi364_2, hl364_3, hi364_3⟩ := Al5 HR0.out q364
   have hw364_4 := hx364_4
   have hw364_3 := hx364_3
   have hw364_2 := hx364_2
   have hw364_1 := hx364_1
   have hw364_0 := hx364_0
   obtain rfl : ad358 = ad364 := (by injection e364)
   have qi364 : (0 < l0.length) = True := eq_true (by omega)
   replace hx364_0 := bcL HB.out hx364_0
   replace hx364_1 := bcL HB.out hx364_1
   replace hx364_2 := bcL HB.out hx364_2
   replace hx364_3 := bcL HB.out hx364_3
   replace hx364_4 := bcL HB.out hx364_4
   have HR364_0 := am hi364_0
   have HC364_0 := am hl364_0
   clear hi364_0 hl364_0
   have HR364_1 := am hi364_1
   have HC364_1 := am hl364_1
   clear hi364_1 hl364_1
   have HR364_2 := am hi364_2
   have HC364_2 := am hl364_2
   clear hi364_2 hl364_2
   have HR364_3 := am hi364_3
   have HC364_3 := am hl364_3
   clear hi364_3 hl364_3
   replace p364 := eq_true p364
   replace q364 := eq_true q364
   have p365 : 0 ≤ (0 : Int) := (by omega)
   have q365 : 0 < (l0.length : Int) := od
   obtain ⟨ad365, A365_0, c365_0, A365_1, c365_1, A365_2, c365_2, A365_3, c365_3, e365, hx365_0, hx365_1, hx365_2, hx365_3, hx365_4, hl365_0, hi365_0, hl365_1, hi365_1, hl365_2, hi365_2, hl365_3, hi365_3⟩ := Al5 HR0.out q365
   have hw365_4 := hx365_4
   have hw365_3 := hx365_3
   have hw365_2 := hx365_2
   have hw365_1 := hx365_1
   have hw365_0 := hx365_0
   obtain rfl : ad358 = ad365 := (by injection e365)
   have qi365 : (0 < l0.length) = True := eq_true (by omega)
   replace hx365_0 := bcL HB.out hx365_0
   replace hx365_1 := bcL HB.out hx365_1
   replace hx365_2 := bcL HB.out hx365_2
   replace hx365_3 := bcL HB.out hx365_3
   replace hx365_4 := bcL HB.out hx365_4
   have HR365_0 := am hi365_0
   have HC365_0 := am hl365_0
   clear hi365_0 hl365_0
   have HR365_1 := am hi365_1
   have HC365_1 := am hl365_1
   clear hi365_1 hl365_1
   have HR365_2 := am hi365_2
   have HC365_2 := am hl365_2
   clear hi365_2 hl365_2
   have HR365_3 := am hi365_3
   have HC365_3 := am hl365_3
   clear hi365_3 hl365_3
   replace p365 := eq_true p365
   replace q365 := eq_true q365
   have ea_ := Option.some.inj (hx364_0.symm.trans hx365_0)
   injection ea_ with ea_ en_ ec_
   subst ea_
   subst ec_
   clear en_
   have ea_ := Option.some.inj (hx364_1.symm.trans hx365_1)
   injection ea_ with ea_ en_ ec_
   subst ea_
   subst ec_
   clear en_
   have ea_ := Option.some.inj (hx364_2.symm.trans hx365_2)
   injection ea_ with ea_ en_ ec_
   subst ea_
   subst ec_
   clear en_
   have ea_ := Option.some.inj (hx364_3.symm.trans hx365_3)
   injection ea_ with ea_ en_ ec_
   subst ea_
   subst ec_
   clear en_
   have p366 : 0 ≤ (0 : Int) := (by omega)
   have q366 : 0 < (l0.length : Int) := od
   obtain ⟨ad366, A366_0, c366_0, A366_1, c366_1, A366_2, c366_2, A366_3, c366_3, e366, hx366_0, hx366_1, hx366_2, hx366_3, hx366_4, hl366_0, hi366_0, hl366_1, hi366_1, hl366_2, hi366_2, hl366_3, hi366_3⟩ := Al5 HR0.out q366
   have hw366_4 := hx366_4
   have hw366_3 := hx366_3
   have hw366_2 := hx366_2
   have hw366_1 := hx366_1
   have hw366_0 := hx366_0
   obtain rfl : ad358 = ad366 := (by injection e366)
   have qi366 : (0 < l0.length) = True := eq_true (by omega)
   replace hx366_0 := bcL HB.out hx366_0
   replace hx366_1 := bcL HB.out hx366_1
   replace hx366_2 := bcL HB.out hx366_2
   replace hx366_3 := bcL HB.out hx366_3
   replace hx366_4 := bcL HB.out hx366_4
   have HR366_0 := am hi366_0
   have HC366_0 := am hl366_0
   clear hi366_0 hl366_0
   have HR366_1 := am hi366_1
   have HC366_1 := am hl366_1
   clear hi366_1 hl366_1
   have HR366_2 := am hi366_2
   have HC366_2 := am hl366_2
   clear hi366_2 hl366_2
   have HR366_3 := am hi366_3
   have HC366_3 := am hl366_3
   clear hi366_3 hl366_3
   replace p366 := eq_true p366
   replace q366 := eq_true q366
   have ea_ := Option.some.inj (hx364_0.symm.trans hx366_0)
   injection ea_ with ea_ en_ ec_
   subst ea_
   subst ec_
   clear en_
   have ea_ := Option.some.inj (hx364_1.symm.trans hx366_1)
   injection ea_ with ea_ en_ ec_
   subst ea_
   subst ec_
   clear en_
   have ea_ := Option.some.inj (hx364_2.symm.trans hx366_2)
   injection ea_ with ea_ en_ ec_
   subst ea_
   subst ec_
   clear en_
   have ea_ := Option.some.inj (hx364_3.symm.trans hx366_3)
   injection ea_ with ea_ en_ ec_
   subst ea_
   subst ec_
   clear en_
   have p367 : 0 ≤ (0 : Int) := (by omega)
   have q367 : 0 < (l0.length : Int) := od
   obtain ⟨ad367, A367_0, c367_0, A367_1, c367_1, A367_2, c367_2, A367_3, c367_3, e367, hx367_0, hx367_1, hx367_2, hx367_3, hx367_4, hl367_0, hi367_0, hl367_1, hi367_1, hl367_2, hi367_2, hl367_3, hi367_3⟩ := Al5 HR0.out q367
   have hw367_4 := hx367_4
   have hw367_3 := hx367_3
   have hw367_2 := hx367_2
   have hw367_1 := hx367_1
   have hw367_0 := hx367_0
   obtain rfl : ad358 = ad367 := (by injection e367)
   have qi367 : (0 < l0.length) = True := eq_true (by omega)
   replace hx367_0 := bcL HB.out hx367_0
   replace hx367_1 := bcL HB.out hx367_1
   replace hx367_2 := bcL HB.out hx367_2
   replace hx367_3 := bcL HB.out hx367_3
   replace hx367_4 := bcL HB.out hx367_4
   have HR367_0 := am hi367_0
   have HC367_0 := am hl367_0
   clear hi367_0 hl367_0
   have HR367_1 := am hi367_1
   have HC367_1 := am hl367_1
   clear hi367_1 hl367_1
   have HR367_2 := am hi367_2
   have HC367_2 := am hl367_2
   clear hi367_2 hl367_2
   have HR367_3 := am hi367_3
   have HC367_3 := am hl367_3
   clear hi367_3 hl367_3
   replace p367 := eq_true p367
   replace q367 := eq_true q367
   have ea_ := Option.some.inj (hx364_0.symm.trans hx367_0)
   injection ea_ with ea_ en_ ec_
   subst ea_
   subst ec_
   clear en_
   have ea_ := Option.some.inj (hx364_1.symm.trans hx367_1)
   injection ea_ with ea_ en_ ec_
   subst ea_
   subst ec_
   clear en_
   have ea_ := Option.some.inj (hx364_2.symm.trans hx367_2)
   injection ea_ with ea_ en_ ec_
   subst ea_
   subst ec_
   clear en_
   have ea_ := Option.some.inj (hx364_3.symm.trans hx367_3)
   injection ea_ with ea_ en_ ec_
   subst ea_
   subst ec_
   clear en_
   refine Ad5 (n := 17) (S := fun w' => w'.cell? ad358 = some (.slice A364_0 ((Aa2 l0 0).f0.f0).length c364_0) ∧ w'.cell? ⟨ad358.block, ad358.off + 1, none⟩ = some (.slice A364_1 ((Aa2 l0 0).f1).length c364_1) ∧ w'.cell? ⟨ad358.block, ad358.off + 2, none⟩ = some (.slice A364_2 ((Aa2 l0 0).f2).length c364_2) ∧ w'.cell? ⟨ad358.block, ad358.off + 3, none⟩ = some (.slice A364_3 ((Aa2 l0 0).f3).length c364_3) ∧ w'.cell? ⟨ad358.block, ad358.off + 4, none⟩ = some (.map (some ((Aa2 l0 0).f4).toNat)) ∧ w'.cell? ad358 = some (.slice A364_0 ((Aa2 l0 0).f0.f0).length c364_0) ∧ w'.cell? ⟨ad358.block, ad358.off + 1, none⟩ = some (.slice A364_1 ((Aa2 l0 0).f1).length c364_1) ∧ w'.cell? ⟨ad358.block, ad358.off + 2, none⟩ = some (.slice A364_2 ((Aa2 l0 0).f2).length c364_2) ∧ w'.cell? ⟨ad358.block, ad358.off + 3, none⟩ = some (.slice A364_3 ((Aa2 l0 0).f3).length c364_3) ∧ w'.cell? ⟨ad358.block, ad358.off + 4, none⟩ = some (.map (some ((Aa2 l0 0).f4).toNat)) ∧ w'.cell? ad358 = some (.slice A364_0 ((Aa2 l0 0).f0.f0).length c364_0) ∧ w'.cell? ⟨ad358.block, ad358.off + 1, none⟩ = some (.slice A364_1 ((Aa2 l0 0).f1).length c364_1) ∧ w'.cell? ⟨ad358.block, ad358.off + 2, none⟩ = some (.slice A364_2 ((Aa2 l0 0).f2).length c364_2) ∧ w'.cell? ⟨ad358.block, ad358.off + 3, none⟩ = some (.slice A364_3 ((Aa2 l0 0).f3).length c364_3) ∧ w'.cell? ⟨ad358.block, ad358.off + 4, none⟩ = some (.map (some ((Aa2 l0 0).f4).toNat)) ∧ w'.cell? ad358 = some (.slice A364_0 ((Aa2 l0 0).f0.f0).length c364_0) ∧ w'.cell? ⟨ad358.block, ad358.off + 1, none⟩ = some (.slice A364_1 ((Aa2 l0 0).f1).length c364_1) ∧ w'.cell? ⟨ad358.block, ad358.off + 2, none⟩ = some (.slice A364_2 ((Aa2 l0 0).f2).length c364_2) ∧ w'.cell? ⟨ad358.block, ad358.off + 3, none⟩ = some (.slice A364_3 ((Aa2 l0 0).f3).length c364_3) ∧ w'.cell? ⟨ad358.block, ad358.off + 4, none⟩ = some (.map (some ((Aa2 l0 0).f4).toNat))) (ds := []) #[false, false, false, false, false, false, false, false, false, false, false, false, false, false, false, false, false] (by kernel_rfl) rfl rfl ⟨(bcL HB.out hw364_0), (bcL HB.out hw364_1), (bcL HB.out hw364_2), (bcL HB.out hw364_3), (bcL HB.out hw364_4), (bcL HB.out hw365_0), (bcL HB.out hw365_1), (bcL HB.out hw365_2), (bcL HB.out hw365_3), (bcL HB.out hw365_4), (bcL HB.out hw366_0), (bcL HB.out hw366_1), (bcL HB.out hw366_2), (bcL HB.out hw366_3), (bcL HB.out hw366_4), (bcL HB.out hw367_0), (bcL HB.out hw367_1), (bcL HB.out hw367_2), (bcL HB.out hw367_3), (bcL HB.out hw367_4)⟩ (fun hHeld => ?_); refine Ac1 impl_comparer_isGreater.tab3 impl_comparer_isGreater.bits3 (fun HT_ HW_ => ?_)
   generalize w13.drew = w14 at HB HR364_0 HR364_1 HR364_2 HR364_3 HR365_0 HR365_1 HR365_2 HR365_3 HR366_0 HR366_1 HR366_2 HR366_3 HR367_0 HR367_1 HR367_2 HR367_3 hx364_0 hx364_1 hx364_2 hx364_3 hx364_4 hx365_0 hx365_1 hx365_2 hx365_3 hx365_4 hx366_0 hx366_1 hx366_2 hx366_3 hx366_4 hx367_0 hx367_1 hx367_2 hx367_3 hx367_4 hHeld ⊢
   refine pu 0 34 rfl rfl HT_ ?_
   refine pu 1 35 rfl rfl HT_ ?_
   refine pu 2 36 rfl rfl HT_ ?_
   refine pu 3 37 rfl rfl HT_ ?_
   refine pu 4 38 rfl rfl HT_ ?_
   refine pu 5 39 rfl rfl HT_ ?_
   refine pu 7 41 rfl rfl HT_ ?_
   refine pu 8 42 rfl rfl HT_ ?_
   refine pu 9 43 rfl rfl HT_ ?_
   refine pu 11 45 rfl rfl HT_ ?_
   refine pu 13 47 rfl rfl HT_ ?_
   refine tk 6 40 rfl rfl HT_ HW_ hHeld ?_
   refine tk 10 44 rfl rfl HT_ HW_ hHeld ?_
   refine on_ 12 (some 46) rfl rfl HT_ (fun K hK => ?_)
   refine gs Tryz.func114 #[.agg #[.slice A364_0 ((Aa2 l0 0).f0.f0).length c364_0], .slice A364_2 ((Aa2 l0 0).f2).length c364_2, .int .i64 a1] ?_
   refine (impl_subterm.calls k _ _ ((Aa2 l0 0).f0.f0) (fun k_ => k_ < w.heap.size) _ _ ((Aa2 l0 0).f2) a1 t368 _ (cq (Kd.C_below HR365_0.out HB.out)) HC365_0.out (Kd.V_mk HC367_2.out (Kd.F_below (Kd.C_F (Kd.heap_int .i64) HR367_2.out) (hq HB.out))) A11.out).mono ?_
   rintro e w15 ⟨v369, rfl, ho0, hb⟩
   refine ⟨_, rfl, ?_⟩
   have HO370 := am (Kd.V_lower (Kd.V_mono (ok' := fun k_ => True) ho0 (fun k_ hk_ => trivial)) (Aa6 (hq HB.out)))
   replace HB := sb HB hb
   (try clear hb)
   (try clear hk)
   (try clear ho0)
   obtain ⟨Ao16, co16, eo16⟩ := Kd.V_slice HO370.out
   (first | subst eo16 | (injection eo16 with f1_ f2_ f3_; have f4_ := f1_.symm; have f5_ := f3_.symm; clear f1_ f2_ f3_; subst f4_; subst f5_))
   refine hK.out _ _ ⟨(bcL HB.out hw364_0), (bcL HB.out hw364_1), (bcL HB.out hw364_2), (bcL HB.out hw364_3), (bcL HB.out hw364_4), (bcL HB.out hw365_0), (bcL HB.out hw365_1), (bcL HB.out hw365_2), (bcL HB.out hw365_3), (bcL HB.out hw365_4), (bcL HB.out hw366_0), (bcL HB.out hw366_1), (bcL HB.out hw366_2), (bcL HB.out hw366_3), (bcL HB.out hw366_4), (bcL HB.out hw367_0), (bcL HB.out hw367_1), (bcL HB.out hw367_2), (bcL HB.out hw367_3), (bcL HB.out hw367_4)⟩ (fun hHeld => ?_)
   clear hK K
   refine nr (some 46) ?_
   refine on_ 14 (some 48) rfl rfl HT_ (fun K hK => ?_)
   refine gs Tryz.func57 #[.slice Ao16 t368.length co16, .int .i64 (rd ((Aa2 l0 0).f3) a2)] ?_
   refine (slices_Contains_int64_int64.calls k _ _ t368 (rd ((Aa2 l0 0).f3) a2) t371 _ (cq (Kd.V_reads' HO370.out).2.2) ((Kd.V_reads' HO370.out).2.1) A12.out).mono ?_
   rintro e w' ⟨rfl, ⟨nd, rfl⟩⟩
   refine ⟨_, rfl, ?_⟩
   refine hK.out _ _ ⟨(bcL HB.out hw364_0), (bcL HB.out hw364_1), (bcL HB.out hw364_2), (bcL HB.out hw364_3), (bcL HB.out hw364_4), (bcL HB.out hw365_0), (bcL HB.out hw365_1), (bcL HB.out hw365_2), (bcL HB.out hw365_3), (bcL HB.out hw365_4), (bcL HB.out hw366_0), (bcL HB.out hw366_1), (bcL HB.out hw366_2), (bcL HB.out hw366_3), (bcL HB.out hw366_4), (bcL HB.out hw367_0), (bcL HB.out hw367_1), (bcL HB.out hw367_2), (bcL HB.out hw367_3), (bcL HB.out hw367_4)⟩ (fun hHeld => ?_)
   clear hK K
   refine nr (some 48) ?_
   refine pu 15 49 rfl rfl HT_ ?_
   refine pu 16 6 rfl rfl HT_ ?_
   refine Ag1 (Ac8 HT_.out (by kernel_rfl)) ?_
   try go_wp2
   go_ret
   exact ⟨er, Bel.of HI.out (hq HB.out)⟩
  ·rw [if_neg c10] at H
   have c10b0 : decide (0 ≤ (rd ((Aa2 l0 0).f2) a1)) = false := decide_eq_false c10
   clear c10
   obtain rfl := Option.some.inj H
   go_enter Tryz.func100, Tryz.ntmps100
   try go_wp2
   replace HB := am (Ab0 HB.out)
   have p358 : 0 ≤ (0 : Int) := (by omega)
   have q358 : 0 < (l0.length : Int) := od
   obtain ⟨ad358, A358_0, c358_0, A358_1, c358_1, A358_2, c358_2, A358_3, c358_3, e358, hx358_0, hx358_1, hx358_2, hx358_3, hx358_4, hl358_0, hi358_0, hl358_1, hi358_1, hl358_2, hi358_2, hl358_3, hi358_3⟩ := Al5 HR0.out q358
   have hw358_4 := hx358_4
   have hw358_3 := hx358_3
   have hw358_2 := hx358_2
   have hw358_1 := hx358_1
   have hw358_0 := hx358_0
   cases e358
   have qi358 : (0 < l0.length) = True := eq_true (by omega)
   replace hx358_0 := bcL HB.out hx358_0
   replace hx358_1 := bcL HB.out hx358_1
   replace hx358_2 := bcL HB.out hx358_2
   replace hx358_3 := bcL HB.out hx358_3
   replace hx358_4 := bcL HB.out hx358_4
   have HR358_0 := am hi358_0
   have HC358_0 := am hl358_0
   clear hi358_0 hl358_0
   have HR358_1 := am hi358_1
   have HC358_1 := am hl358_1
   clear hi358_1 hl358_1
   have HR358_2 := am hi358_2
   have HC358_2 := am hl358_2
   clear hi358_2 hl358_2
   have HR358_3 := am hi358_3
   have HC358_3 := am hl358_3
   clear hi358_3 hl358_3
   replace p358 := eq_true p358
   replace q358 := eq_true q358
   have p359 : 0 ≤ (0 : Int) := (by omega)
   have q359 : 0 < (l0.length : Int) := od
   obtain ⟨ad359, A359_0, c359_0, A359_1, c359_1, A359_2, c359_2, A359_3, c359_3, e359, hx359_0, hx359_1, hx359_2, hx359_3, hx359_4, hl359_0, hi359_0, hl359_1, hi359_1, hl359_2, hi359_2, hl359_3, hi359_3⟩ := Al5 HR0.out q359
   have hw359_4 := hx359_4
   have hw359_3 := hx359_3
   have hw359_2 := hx359_2
   have hw359_1 := hx359_1
   have hw359_0 := hx359_0
   obtain rfl : ad358 = ad359 := (by injection e359)
   have qi359 : (0 < l0.length) = True := eq_true (by omega)
   replace hx359_0 := bcL HB.out hx359_0
   replace hx359_1 := bcL HB.out hx359_1
   replace hx359_2 := bcL HB.out hx359_2
   replace hx359_3 := bcL HB.out hx359_3
   replace hx359_4 := bcL HB.out hx359_4
   have HR359_0 := am hi359_0
   have HC359_0 := am hl359_0
   clear hi359_0 hl359_0
   have HR359_1 := am hi359_1
   have HC359_1 := am hl359_1
   clear hi359_1 hl359_1
   have HR359_2 := am hi359_2
   have HC359_2 := am hl359_2
   clear hi359_2 hl359_2
   have HR359_3 := am hi359_3
   have HC359_3 := am hl359_3
   clear hi359_3 hl359_3
   replace p359 := eq_true p359
   replace q359 := eq_true q359
   have ea_ := Option.some.inj (hx358_0.symm.trans hx359_0)
   injection ea_ with ea_ en_ ec_
   subst ea_
   subst ec_
   clear en_
   have ea_ := Option.some.inj (hx358_1.symm.trans hx359_1)
   injection ea_ with ea_ en_ ec_
   subst ea_
   subst ec_
   clear en_
   have ea_ := Option.some.inj (hx358_2.symm.trans hx359_2)
   injection ea_ with ea_ en_ ec_
   subst ea_
   subst ec_
   clear en_
   have ea_ := Option.some.inj (hx358_3.symm.trans hx359_3)
   injection ea_ with ea_ en_ ec_
   subst ea_
   subst ec_
   clear en_
   have p360 : 0 ≤ (a1 : Int) := od
   have q360 : a1 < (((Aa2 l0 0).f2).length : Int) := od
   obtain ⟨ad360, e360, hx360_0⟩ := Kd.at_int HR359_2.out a1 p360 q360
   have hw360_0 := hx360_0
   cases e360
   replace hx360_0 := bcL HB.out hx360_0
   replace p360 := eq_true p360
   replace q360 := eq_true q360
   have p361 : 0 ≤ (0 : Int) := (by omega)
   have q361 : 0 < (l0.length : Int) := od
   obtain ⟨ad361, A361_0, c361_0, A361_1, c361_1, A361_2, c361_2, A361_3, c361_3, e361, hx361_0, hx361_1, hx361_2, hx361_3, hx361_4, hl361_0, hi361_0, hl361_1, hi361_1, hl361_2, hi361_2, hl361_3, hi361_3⟩ := Al5 HR0.out q361
   have hw361_4 := hx361_4
   have hw361_3 := hx361_3
   have hw361_2 := hx361_2
   have hw361_1 := hx361_1
   have hw361_0 := hx361_0
   obtain rfl : ad358 = ad361 := (by injection e361)
   have qi361 : (0 < l0.length) = True := eq_true (by omega)
   replace hx361_0 := bcL HB.out hx361_0
   replace hx361_1 := bcL HB.out hx361_1
   replace hx361_2 := bcL HB.out hx361_2
   replace hx361_3 := bcL HB.out hx361_3
   replace hx361_4 := bcL HB.out hx361_4
   have HR361_0 := am hi361_0
   have HC361_0 := am hl361_0
   clear hi361_0 hl361_0
   have HR361_1 := am hi361_1
   have HC361_1 := am hl361_1
   clear hi361_1 hl361_1
   have HR361_2 := am hi361_2
   have HC361_2 := am hl361_2
   clear hi361_2 hl361_2
   have HR361_3 := am hi361_3
   have HC361_3 := am hl361_3
   clear hi361_3 hl361_3
   replace p361 := eq_true p361
   replace q361 := eq_true q361
   have ea_ := Option.some.inj (hx358_0.symm.trans hx361_0)
   injection ea_ with ea_ en_ ec_
   subst ea_
   subst ec_
   clear en_
   have ea_ := Option.some.inj (hx358_1.symm.trans hx361_1)
   injection ea_ with ea_ en_ ec_
   subst ea_
   subst ec_
   clear en_
   have ea_ := Option.some.inj (hx358_2.symm.trans hx361_2)
   injection ea_ with ea_ en_ ec_
   subst ea_
   subst ec_
   clear en_
   have ea_ := Option.some.inj (hx358_3.symm.trans hx361_3)
   injection ea_ with ea_ en_ ec_
   subst ea_
   subst ec_
   clear en_
   have p362 : 0 ≤ (0 : Int) := (by omega)
   have q362 : 0 < (l0.length : Int) := od
   obtain ⟨ad362, A362_0, c362_0, A362_1, c362_1, A362_2, c362_2, A362_3, c362_3, e362, hx362_0, hx362_1, hx362_2, hx362_3, hx362_4, hl362_0, hi362_0, hl362_1, hi362_1, hl362_2, hi362_2, hl362_3, hi362_3⟩ := Al5 HR0.out q362
   have hw362_4 := hx362_4
   have hw362_3 := hx362_3
   have hw362_2 := hx362_2
   have hw362_1 := hx362_1
   have hw362_0 := hx362_0
   obtain rfl : ad358 = ad362 := (by injection e362)
   have qi362 : (0 < l0.length) = True := eq_true (by omega)
   replace hx362_0 := bcL HB.out hx362_0
   replace hx362_1 := bcL HB.out hx362_1
   replace hx362_2 := bcL HB.out hx362_2
   replace hx362_3 := bcL HB.out hx362_3
   replace hx362_4 := bcL HB.out hx362_4
   have HR362_0 := am hi362_0
   have HC362_0 := am hl362_0
   clear hi362_0 hl362_0
   have HR362_1 := am hi362_1
   have HC362_1 := am hl362_1
   clear hi362_1 hl362_1
   have HR362_2 := am hi362_2
   have HC362_2 := am hl362_2
   clear hi362_2 hl362_2
   have HR362_3 := am hi362_3
   have HC362_3 := am hl362_3
   clear hi362_3 hl362_3
   replace p362 := eq_true p362
   replace q362 := eq_true q362
   have ea_ := Option.some.inj (hx358_0.symm.trans hx362_0)
   injection ea_ with ea_ en_ ec_
   subst ea_
   subst ec_
   clear en_
   have ea_ := Option.some.inj (hx358_1.symm.trans hx362_1)
   injection ea_ with ea_ en_ ec_
   subst ea_
   subst ec_
   clear en_
   have ea_ := Option.some.inj (hx358_2.symm.trans hx362_2)
   injection ea_ with ea_ en_ ec_
   subst ea_
   subst ec_
   clear en_
   have ea_ := Option.some.inj (hx358_3.symm.trans hx362_3)
   injection ea_ with ea_ en_ ec_
   subst ea_
   subst ec_
   clear en_
   have p363 : 0 ≤ (a2 : Int) := od
   have q363 : a2 < (((Aa2 l0 0).f3).length : Int) := od
   obtain ⟨ad363, e363, hx363_0⟩ := Kd.at_int HR362_3.out a2 p363 q363
   have hw363_0 := hx363_0
   cases e363
   replace hx363_0 := bcL HB.out hx363_0
   replace p363 := eq_true p363
   replace q363 := eq_true q363
   refine Ad5 (n := 16) (S := fun w' => w'.cell? ad358 = some (.slice A358_0 ((Aa2 l0 0).f0.f0).length c358_0) ∧ w'.cell? ⟨ad358.block, ad358.off + 1, none⟩ = some (.slice A358_1 ((Aa2 l0 0).f1).length c358_1) ∧ w'.cell? ⟨ad358.block, ad358.off + 2, none⟩ = some (.slice (some ad360) ((Aa2 l0 0).f2).length c358_2) ∧ w'.cell? ⟨ad358.block, ad358.off + 3, none⟩ = some (.slice (some ad363) ((Aa2 l0 0).f3).length c358_3) ∧ w'.cell? ⟨ad358.block, ad358.off + 4, none⟩ = some (.map (some ((Aa2 l0 0).f4).toNat)) ∧ w'.cell? ad358 = some (.slice A358_0 ((Aa2 l0 0).f0.f0).length c358_0) ∧ w'.cell? ⟨ad358.block, ad358.off + 1, none⟩ = some (.slice A358_1 ((Aa2 l0 0).f1).length c358_1) ∧ w'.cell? ⟨ad358.block, ad358.off + 2, none⟩ = some (.slice (some ad360) ((Aa2 l0 0).f2).length c358_2) ∧ w'.cell? ⟨ad358.block, ad358.off + 3, none⟩ = some (.slice (some ad363) ((Aa2 l0 0).f3).length c358_3) ∧ w'.cell? ⟨ad358.block, ad358.off + 4, none⟩ = some (.map (some ((Aa2 l0 0).f4).toNat)) ∧ w'.cell? (ad360.add (a1).toNat) = some (.int .i64 (rd ((Aa2 l0 0).f2) a1)) ∧ w'.cell? ad358 = some (.slice A358_0 ((Aa2 l0 0).f0.f0).length c358_0) ∧ w'.cell? ⟨ad358.block, ad358.off + 1, none⟩ = some (.slice A358_1 ((Aa2 l0 0).f1).length c358_1) ∧ w'.cell? ⟨ad358.block, ad358.off + 2, none⟩ = some (.slice (some ad360) ((Aa2 l0 0).f2).length c358_2) ∧ w'.cell? ⟨ad358.block, ad358.off + 3, none⟩ = some (.slice (some ad363) ((Aa2 l0 0).f3).length c358_3) ∧ w'.cell? ⟨ad358.block, ad358.off + 4, none⟩ = some (.map (some ((Aa2 l0 0).f4).toNat)) ∧ w'.cell? ad358 = some (.slice A358_0 ((Aa2 l0 0).f0.f0).length c358_0) ∧ w'.cell? ⟨ad358.block, ad358.off + 1, none⟩ = some (.slice A358_1 ((Aa2 l0 0).f1).length c358_1) ∧ w'.cell? ⟨ad358.block, ad358.off + 2, none⟩ = some (.slice (some ad360) ((Aa2 l0 0).f2).length c358_2) ∧ w'.cell? ⟨ad358.block, ad358.off + 3, none⟩ = some (.slice (some ad363) ((Aa2 l0 0).f3).length c358_3) ∧ w'.cell? ⟨ad358.block, ad358.off + 4, none⟩ = some (.map (some ((Aa2 l0 0).f4).toNat)) ∧ w'.cell? (ad363.add (a2).toNat) = some (.int .i64 (rd ((Aa2 l0 0).f3) a2))) (ds := []) #[false, false, false, false, false, false, false, false, false, false, false, false, false, false, false, false] (by kernel_rfl) rfl rfl ⟨(bcL HB.out hw358_0), (bcL HB.out hw358_1), (bcL HB.out hw358_2), (bcL HB.out hw358_3), (bcL HB.out hw358_4), (bcL HB.out hw359_0), (bcL HB.out hw359_1), (bcL HB.out hw359_2), (bcL HB.out hw359_3), (bcL HB.out hw359_4), (bcL HB.out hw360_0), (bcL HB.out hw361_0), (bcL HB.out hw361_1), (bcL HB.out hw361_2), (bcL HB.out hw361_3), (bcL HB.out hw361_4), (bcL HB.out hw362_0), (bcL HB.out hw362_1), (bcL HB.out hw362_2), (bcL HB.out hw362_3), (bcL HB.out hw362_4), (bcL HB.out hw363_0)⟩ (fun hHeld => ?_); refine Ac1 impl_comparer_isGreater.tab1 impl_comparer_isGreater.bits1 (fun HT_ HW_ => ?_)
   generalize w.drew = w17 at HB HR358_0 HR358_1 HR358_2 HR358_3 HR359_0 HR359_1 HR359_2 HR359_3 HR361_0 HR361_1 HR361_2 HR361_3 HR362_0 HR362_1 HR362_2 HR362_3 hx358_0 hx358_1 hx358_2 hx358_3 hx358_4 hx359_0 hx359_1 hx359_2 hx359_3 hx359_4 hx360_0 hx361_0 hx361_1 hx361_2 hx361_3 hx361_4 hx362_0 hx362_1 hx362_2 hx362_3 hx362_4 hx363_0 hHeld ⊢
   refine pu 0 18 rfl rfl HT_ ?_
   refine pu 1 19 rfl rfl HT_ ?_
   refine pu 2 20 rfl rfl HT_ ?_
   refine pu 4 22 rfl rfl HT_ ?_
   refine pu 7 25 rfl rfl HT_ ?_
   refine pu 8 26 rfl rfl HT_ ?_
   refine pu 9 27 rfl rfl HT_ ?_
   refine pu 11 29 rfl rfl HT_ ?_
   refine tk 3 21 rfl rfl HT_ HW_ hHeld ?_
   refine pu 5 23 rfl rfl HT_ ?_
   refine tk 6 24 rfl rfl HT_ HW_ hHeld ?_
   refine pu 14 7 rfl rfl HT_ ?_
   refine tk 10 28 rfl rfl HT_ HW_ hHeld ?_
   refine pu 12 30 rfl rfl HT_ ?_
   refine tk 13 31 rfl rfl HT_ HW_ hHeld ?_
   refine pu 15 8 rfl rfl HT_ ?_
   refine Ag1 (Ac8 HT_.out (by kernel_rfl)) ?_
   try go_wp2
   replace HB := am (Ab0 HB.out)
   refine Ad5 (n := 17) (S := fun w' => True) (ds := []) #[false, false, false, false, false, false, false, false, false, false, false, false, false, false, false, false, false] (by kernel_rfl) rfl rfl trivial (fun hHeld => ?_); refine Ac1 impl_comparer_isGreater.tab3 impl_comparer_isGreater.bits3 (fun HT_ HW_ => ?_)
   generalize w17.drew = w18 at HB hHeld ⊢
   refine pu 0 34 rfl rfl HT_ ?_
   refine pu 1 35 rfl rfl HT_ ?_
   refine pu 2 36 rfl rfl HT_ ?_
   refine pz 3 37 rfl rfl HT_ ?_
   refine pz 4 38 rfl rfl HT_ ?_
   refine pz 5 39 rfl rfl HT_ ?_
   refine pz 6 40 rfl rfl HT_ ?_
   refine pz 7 41 rfl rfl HT_ ?_
   refine pz 8 42 rfl rfl HT_ ?_
   refine pz 9 43 rfl rfl HT_ ?_
   refine pz 10 44 rfl rfl HT_ ?_
   refine pz 11 45 rfl rfl HT_ ?_
   refine pz 12 46 rfl rfl HT_ ?_
   refine pz 13 47 rfl rfl HT_ ?_
   refine pz 14 48 rfl rfl HT_ ?_
   refine pu 15 49 rfl rfl HT_ ?_
   refine pu 16 6 rfl rfl HT_ ?_
   refine Ag1 (Ac8 HT_.out (by kernel_rfl)) ?_
   try go_wp2
   go_ret
   exact ⟨er, Bel.of HI.out (hq HB.out)⟩
 ·rw [if_neg c9] at H
  have c9b0 : decide ((rd ((Aa2 l0 0).f3) a2) < 0) = false := decide_eq_false c9
  clear c9
  by_cases c19 : (rd ((Aa2 l0 0).f2) a1) < 0
  ·rw [if_pos c19] at H
   have c19b0 : decide ((rd ((Aa2 l0 0).f2) a1) < 0) = true := decide_eq_true c19
   clear c19
   obtain rfl := Option.some.inj H
   go_enter Tryz.func100, Tryz.ntmps100
   try go_wp2
   replace HB := am (Ab0 HB.out)
   have p358 : 0 ≤ (0 : Int) := (by omega)
   have q358 : 0 < (l0.length : Int) := od
   obtain ⟨ad358, A358_0, c358_0, A358_1, c358_1, A358_2, c358_2, A358_3, c358_3, e358, hx358_0, hx358_1, hx358_2, hx358_3, hx358_4, hl358_0, hi358_0, hl358_1, hi358_1, hl358_2, hi358_2, hl358_3, hi358_3⟩ := Al5 HR0.out q358
   have hw358_4 := hx358_4
   have hw358_3 := hx358_3
   have hw358_2 := hx358_2
   have hw358_1 := hx358_1
   have hw358_0 := hx358_0
   cases e358
   have qi358 : (0 < l0.length) = True := eq_true (by omega)
   replace hx358_0 := bcL HB.out hx358_0
   replace hx358_1 := bcL HB.out hx358_1
   replace hx358_2 := bcL HB.out hx358_2
   replace hx358_3 := bcL HB.out hx358_3
   replace hx358_4 := bcL HB.out hx358_4
   have HR358_0 := am hi358_0
   have HC358_0 := am hl358_0
   clear hi358_0 hl358_0
   have HR358_1 := am hi358_1
   have HC358_1 := am hl358_1
   clear hi358_1 hl358_1
   have HR358_2 := am hi358_2
   have HC358_2 := am hl358_2
   clear hi358_2 hl358_2
   have HR358_3 := am hi358_3
   have HC358_3 := am hl358_3
   clear hi358_3 hl358_3
   replace p358 := eq_true p358
   replace q358 := eq_true q358
   have p359 : 0 ≤ (0 : Int) := (by omega)
   have q359 : 0 < (l0.length : Int) := od
   obtain ⟨ad359, A359_0, c359_0, A359_1, c359_1, A359_2, c359_2, A359_3, c359_3, e359, hx359_0, hx359_1, hx359_2, hx359_3, hx359_4, hl359_0, hi359_0, hl359_1, hi359_1, hl359_2, hi359_2, hl359_3, hi359_3⟩ := Al5 HR0.out q359
   have hw359_4 := hx359_4
   have hw359_3 := hx359_3
   have hw359_2 := hx359_2
   have hw359_1 := hx359_1
   have hw359_0 := hx359_0
   obtain rfl : ad358 = ad359 := (by injection e359)
   have qi359 : (0 < l0.length) = True := eq_true (by omega)
   replace hx359_0 := bcL HB.out hx359_0
   replace hx359_1 := bcL HB.out hx359_1
   replace hx359_2 := bcL HB.out hx359_2
   replace hx359_3 := bcL HB.out hx359_3
   replace hx359_4 := bcL HB.out hx359_4
   have HR359_0 := am hi359_0
   have HC359_0 := am hl359_0
   clear hi359_0 hl359_0
   have HR359_1 := am hi359_1
   have HC359_1 := am hl359_1
   clear hi359_1 hl359_1
   have HR359_2 := am hi359_2
   have HC359_2 := am hl359_2
   clear hi359_2 hl359_2
   have HR359_3 := am hi359_3
   have HC359_3 := am hl359_3
   clear hi359_3 hl359_3
   replace p359 := eq_true p359
   replace q359 := eq_true q359
   have ea_ := Option.some.inj (hx358_0.symm.trans hx359_0)
   injection ea_ with ea_ en_ ec_
   subst ea_
   subst ec_
   clear en_
   have ea_ := Option.some.inj (hx358_1.symm.trans hx359_1)
   injection ea_ with ea_ en_ ec_
   subst ea_
   subst ec_
   clear en_
   have ea_ := Option.some.inj (hx358_2.symm.trans hx359_2)
   injection ea_ with ea_ en_ ec_
   subst ea_
   subst ec_
   clear en_
   have ea_ := Option.some.inj (hx358_3.symm.trans hx359_3)
   injection ea_ with ea_ en_ ec_
   subst ea_
   subst ec_
   clear en_
   have p360 : 0 ≤ (a1 : Int) := od
   have q360 : a1 < (((Aa2 l0 0).f2).length : Int) := od
   obtain ⟨ad360, e360, hx360_0⟩ := Kd.at_int HR359_2.out a1 p360 q360
   have hw360_0 := hx360_0
   cases e360
   replace hx360_0 := bcL HB.out hx360_0
   replace p360 := eq_true p360
   replace q360 := eq_true q360
   have p361 : 0 ≤ (0 : Int) := (by omega)
   have q361 : 0 < (l0.length : Int) := od
   obtain ⟨ad361, A361_0, c361_0, A361_1, c361_1, A361_2, c361_2, A361_3, c361_3, e361, hx361_0, hx361_1, hx361_2, hx361_3, hx361_4, hl361_0, hi361_0, hl361_1, hi361_1, hl361_2, hi361_2, hl361_3, hi361_3⟩ := Al5 HR0.out q361
   have hw361_4 := hx361_4
   have hw361_3 := hx361_3
   have hw361_2 := hx361_2
   have hw361_1 := hx361_1
   have hw361_0 := hx361_0
   obtain rfl : ad358 = ad361 := (by injection e361)
   have qi361 : (0 < l0.length) = True := eq_true (by omega)
   replace hx361_0 := bcL HB.out hx361_0
   replace hx361_1 := bcL HB.out hx361_1
   replace hx361_2 := bcL HB.out hx361_2
   replace hx361_3 := bcL HB.out hx361_3
   replace hx361_4 := bcL HB.out hx361_4
   have HR361_0 := am hi361_0
   have HC361_0 := am hl361_0
   clear hi361_0 hl361_0
   have HR361_1 := am hi361_1
   have HC361_1 := am hl361_1
   clear hi361_1 hl361_1
   have HR361_2 := am hi361_2
   have HC361_2 := am hl361_2
   clear hi361_2 hl361_2
   have HR361_3 := am hi361_3
   have HC361_3 := am hl361_3
   clear hi361_3 hl361_3
   replace p361 := eq_true p361
   replace q361 := eq_true q361
   have ea_ := Option.some.inj (hx358_0.symm.trans hx361_0)
   injection ea_ with ea_ en_ ec_
   subst ea_
   subst ec_
   clear en_
   have ea_ := Option.some.inj (hx358_1.symm.trans hx361_1)
   injection ea_ with ea_ en_ ec_
   subst ea_
   subst ec_
   clear en_
   have ea_ := Option.some.inj (hx358_2.symm.trans hx361_2)
   injection ea_ with ea_ en_ ec_
   subst ea_
   subst ec_
   clear en_
   have ea_ := Option.some.inj (hx358_3.symm.trans hx361_3)
   injection ea_ with ea_ en_ ec_
   subst ea_
   subst ec_
   clear en_
   have p362 : 0 ≤ (0 : Int) := (by omega)
   have q362 : 0 < (l0.length : Int) := od
   obtain ⟨ad362, A362_0, c362_0, A362_1, c362_1, A362_2, c362_2, A362_3, c362_3, e362, hx362_0, hx362_1, hx362_2, hx362_3, hx362_4, hl362_0, hi362_0, hl362_1, hi362_1, hl362_2, hi362_2, hl362_3, hi362_3⟩ := Al5 HR0.out q362
   have hw362_4 := hx362_4
   have hw362_3 := hx362_3
   have hw362_2 := hx362_2
   have hw362_1 := hx362_1
   have hw362_0 := hx362_0
   obtain rfl : ad358 = ad362 := (by injection e362)
   have qi362 : (0 < l0.length) = True := eq_true (by omega)
   replace hx362_0 := bcL HB.out hx362_0
   replace hx362_1 := bcL HB.out hx362_1
   replace hx362_2 := bcL HB.out hx362_2
   replace hx362_3 := bcL HB.out hx362_3
   replace hx362_4 := bcL HB.out hx362_4
   have HR362_0 := am hi362_0
   have HC362_0 := am hl362_0
   clear hi362_0 hl362_0
   have HR362_1 := am hi362_1
   have HC362_1 := am hl362_1
   clear hi362_1 hl362_1
   have HR362_2 := am hi362_2
   have HC362_2 := am hl362_2
   clear hi362_2 hl362_2
   have HR362_3 := am hi362_3
   have HC362_3 := am hl362_3
   clear hi362_3 hl362_3
   replace p362 := eq_true p362
   replace q362 := eq_true q362
   have ea_ := Option.some.inj (hx358_0.symm.trans hx362_0)
   injection ea_ with ea_ en_ ec_
   subst ea_
   subst ec_
   clear en_
   have ea_ := Option.some.inj (hx358_1.symm.trans hx362_1)
   injection ea_ with ea_ en_ ec_
   subst ea_
   subst ec_
   clear en_
   have ea_ := Option.some.inj (hx358_2.symm.trans hx362_2)
   injection ea_ with ea_ en_ ec_
   subst ea_
   subst ec_
   clear en_
   have ea_ := Option.some.inj (hx358_3.symm.trans hx362_3)
   injection ea_ with ea_ en_ ec_
   subst ea_
   subst ec_
   clear en_
   have p363 : 0 ≤ (a2 : Int) := od
   have q363 : a2 < (((Aa2 l0 0).f3).length : Int) := od
   obtain ⟨ad363, e363, hx363_0⟩ := Kd.at_int HR362_3.out a2 p363 q363
   have hw363_0 := hx363_0
   cases e363
   replace hx363_0 := bcL HB.out hx363_0
   replace p363 := eq_true p363
   replace q363 := eq_true q363
   refine Ad5 (n := 16) (S := fun w' => w'.cell? ad358 = some (.slice A358_0 ((Aa2 l0 0).f0.f0).length c358_0) ∧ w'.cell? ⟨ad358.block, ad358.off + 1, none⟩ = some (.slice A358_1 ((Aa2 l0 0).f1).length c358_1) ∧ w'.cell? ⟨ad358.block, ad358.off + 2, none⟩ = some (.slice (some ad360) ((Aa2 l0 0).f2).length c358_2) ∧ w'.cell? ⟨ad358.block, ad358.off + 3, none⟩ = some (.slice (some ad363) ((Aa2 l0 0).f3).length c358_3) ∧ w'.cell? ⟨ad358.block, ad358.off + 4, none⟩ = some (.map (some ((Aa2 l0 0).f4).toNat)) ∧ w'.cell? ad358 = some (.slice A358_0 ((Aa2 l0 0).f0.f0).length c358_0) ∧ w'.cell? ⟨ad358.block, ad358.off + 1, none⟩ = some (.slice A358_1 ((Aa2 l0 0).f1).length c358_1) ∧ w'.cell? ⟨ad358.block, ad358.off + 2, none⟩ = some (.slice (some ad360) ((Aa2 l0 0).f2).length c358_2) ∧ w'.cell? ⟨ad358.block, ad358.off + 3, none⟩ = some (.slice (some ad363) ((Aa2 l0 0).f3).length c358_3) ∧ w'.cell? ⟨ad358.block, ad358.off + 4, none⟩ = some (.map (some ((Aa2 l0 0).f4).toNat)) ∧ w'.cell? (ad360.add (a1).toNat) = some (.int .i64 (rd ((Aa2 l0 0).f2) a1)) ∧ w'.cell? ad358 = some (.slice A358_0 ((Aa2 l0 0).f0.f0).length c358_0) ∧ w'.cell? ⟨ad358.block, ad358.off + 1, none⟩ = some (.slice A358_1 ((Aa2 l0 0).f1).length c358_1) ∧ w'.cell? ⟨ad358.block, ad358.off + 2, none⟩ = some (.slice (some ad360) ((Aa2 l0 0).f2).length c358_2) ∧ w'.cell? ⟨ad358.block, ad358.off + 3, none⟩ = some (.slice (some ad363) ((Aa2 l0 0).f3).length c358_3) ∧ w'.cell? ⟨ad358.block, ad358.off + 4, none⟩ = some (.map (some ((Aa2 l0 0).f4).toNat)) ∧ w'.cell? ad358 = some (.slice A358_0 ((Aa2 l0 0).f0.f0).length c358_0) ∧ w'.cell? ⟨ad358.block, ad358.off + 1, none⟩ = some (.slice A358_1 ((Aa2 l0 0).f1).length c358_1) ∧ w'.cell? ⟨ad358.block, ad358.off + 2, none⟩ = some (.slice (some ad360) ((Aa2 l0 0).f2).length c358_2) ∧ w'.cell? ⟨ad358.block, ad358.off + 3, none⟩ = some (.slice (some ad363) ((Aa2 l0 0).f3).length c358_3) ∧ w'.cell? ⟨ad358.block, ad358.off + 4, none⟩ = some (.map (some ((Aa2 l0 0).f4).toNat)) ∧ w'.cell? (ad363.add (a2).toNat) = some (.int .i64 (rd ((Aa2 l0 0).f3) a2))) (ds := []) #[false, false, false, false, false, false, false, false, false, false, false, false, false, false, false, false] (by kernel_rfl) rfl rfl ⟨(bcL HB.out hw358_0), (bcL HB.out hw358_1), (bcL HB.out hw358_2), (bcL HB.out hw358_3), (bcL HB.out hw358_4), (bcL HB.out hw359_0), (bcL HB.out hw359_1), (bcL HB.out hw359_2), (bcL HB.out hw359_3), (bcL HB.out hw359_4), (bcL HB.out hw360_0), (bcL HB.out hw361_0), (bcL HB.out hw361_1), (bcL HB.out hw361_2), (bcL HB.out hw361_3), (bcL HB.out hw361_4), (bcL HB.out hw362_0), (bcL HB.out hw362_1), (bcL HB.out hw362_2), (bcL HB.out hw362_3), (bcL HB.out hw362_4), (bcL HB.out hw363_0)⟩ (fun hHeld => ?_); refine Ac1 impl_comparer_isGreater.tab1 impl_comparer_isGreater.bits1 (fun HT_ HW_ => ?_)
   generalize w.drew = w20 at HB HR358_0 HR358_1 HR358_2 HR358_3 HR359_0 HR359_1 HR359_2 HR359_3 HR361_0 HR361_1 HR361_2 HR361_3 HR362_0 HR362_1 HR362_2 HR362_3 hx358_0 hx358_1 hx358_2 hx358_3 hx358_4 hx359_0 hx359_1 hx359_2 hx359_3 hx359_4 hx360_0 hx361_0 hx361_1 hx361_2 hx361_3 hx361_4 hx362_0 hx362_1 hx362_2 hx362_3 hx362_4 hx363_0 hHeld ⊢
   refine pu 0 18 rfl rfl HT_ ?_
   refine pu 1 19 rfl rfl HT_ ?_
   refine pu 2 20 rfl rfl HT_ ?_
   refine pu 4 22 rfl rfl HT_ ?_
   refine pu 7 25 rfl rfl HT_ ?_
   refine pu 8 26 rfl rfl HT_ ?_
   refine pu 9 27 rfl rfl HT_ ?_
   refine pu 11 29 rfl rfl HT_ ?_
   refine tk 3 21 rfl rfl HT_ HW_ hHeld ?_
   refine pu 5 23 rfl rfl HT_ ?_
   refine tk 6 24 rfl rfl HT_ HW_ hHeld ?_
   refine pu 14 7 rfl rfl HT_ ?_
   refine tk 10 28 rfl rfl HT_ HW_ hHeld ?_
   refine pu 12 30 rfl rfl HT_ ?_
   refine tk 13 31 rfl rfl HT_ HW_ hHeld ?_
   refine pu 15 8 rfl rfl HT_ ?_
   refine Ag1 (Ac8 HT_.out (by kernel_rfl)) ?_
   try go_wp2
   go_ret
   exact ⟨er, Bel.of HI.out (hq HB.out)⟩
  ·rw [if_neg c19] at H
   have c19b0 : decide ((rd ((Aa2 l0 0).f2) a1) < 0) = false := decide_eq_false c19
   clear c19
   obtain ⟨t376, A21, H⟩ := ob H
   try dsimp only at H
   obtain ⟨t383, A22, H⟩ := ob H
   try dsimp only at H
   have H' := am H
   clear H
   go_enter Tryz.func100, Tryz.ntmps100
   try go_wp2
   replace HB := am (Ab0 HB.out)
   have p358 : 0 ≤ (0 : Int) := (by omega)
   have q358 : 0 < (l0.length : Int) := od
   obtain ⟨ad358, A358_0, c358_0, A358_1, c358_1, A358_2, c358_2, A358_3, c358_3, e358, hx358_0, hx358_1, hx358_2, hx358_3, hx358_4, hl358_0, hi358_0, hl358_1, hi358_1, hl358_2, hi358_2, hl358_3, hi358_3⟩ := Al5 HR0.out q358
   have hw358_4 := hx358_4
   have hw358_3 := hx358_3
   have hw358_2 := hx358_2
   have hw358_1 := hx358_1
   have hw358_0 := hx358_0
   cases e358
   have qi358 : (0 < l0.length) = True := eq_true (by omega)
   replace hx358_0 := bcL HB.out hx358_0
   replace hx358_1 := bcL HB.out hx358_1
   replace hx358_2 := bcL HB.out hx358_2
   replace hx358_3 := bcL HB.out hx358_3
   replace hx358_4 := bcL HB.out hx358_4
   have HR358_0 := am hi358_0
   have HC358_0 := am hl358_0
   clear hi358_0 hl358_0
   have HR358_1 := am hi358_1
   have HC358_1 := am hl358_1
   clear hi358_1 hl358_1
   have HR358_2 := am hi358_2
   have HC358_2 := am hl358_2
   clear hi358_2 hl358_2
   have HR358_3 := am hi358_3
   have HC358_3 := am hl358_3
   clear hi358_3 hl358_3
   replace p358 := eq_true p358
   replace q358 := eq_true q358
   have p359 : 0 ≤ (0 : Int) := (by omega)
   have q359 : 0 < (l0.length : Int) := od
   obtain ⟨ad359, A359_0, c359_0, A359_1, c359_1, A359_2, c359_2, A359_3, c359_3, e359, hx359_0, hx359_1, hx359_2, hx359_3, hx359_4, hl359_0, hi359_0, hl359_1, hi359_1, hl359_2, hi359_2, hl359_3, hi359_3⟩ := Al5 HR0.out q359
   have hw359_4 := hx359_4
   have hw359_3 := hx359_3
   have hw359_2 := hx359_2
   have hw359_1 := hx359_1
   have hw359_0 := hx359_0
   obtain rfl : ad358 = ad359 := (by injection e359)
   have qi359 : (0 < l0.length) = True := eq_true (by omega)
   replace hx359_0 := bcL HB.out hx359_0
   replace hx359_1 := bcL HB.out hx359_1
   replace hx359_2 := bcL HB.out hx359_2
   replace hx359_3 := bcL HB.out hx359_3
   replace hx359_4 := bcL HB.out hx359_4
   have HR359_0 := am hi359_0
   have HC359_0 := am hl359_0
   clear hi359_0 hl359_0
   have HR359_1 := am hi359_1
   have HC359_1 := am hl359_1
   clear hi359_1 hl359_1
   have HR359_2 := am hi359_2
   have HC359_2 := am hl359_2
   clear hi359_2 hl359_2
   have HR359_3 := am hi359_3
   have HC359_3 := am hl359_3
   clear hi359_3 hl359_3
   replace p359 := eq_true p359
   replace q359 := eq_true q359
   have ea_ := Option.some.inj (hx358_0.symm.trans hx359_0)
   injection ea_ with ea_ en_ ec_
   subst ea_
   subst ec_
   clear en_
   have ea_ := Option.some.inj (hx358_1.symm.trans hx359_1)
   injection ea_ with ea_ en_ ec_
   subst ea_
   subst ec_
   clear en_
   have ea_ := Option.some.inj (hx358_2.symm.trans hx359_2)
   injection ea_ with ea_ en_ ec_
   subst ea_
   subst ec_
   clear en_
   have ea_ := Option.some.inj (hx358_3.symm.trans hx359_3)
   injection ea_ with ea_ en_ ec_
   subst ea_
   subst ec_
   clear en_
   have p360 : 0 ≤ (a1 : Int) := od
   have q360 : a1 < (((Aa2 l0 0).f2).length : Int) := od
   obtain ⟨ad360, e360, hx360_0⟩ := Kd.at_int HR359_2.out a1 p360 q360
   have hw360_0 := hx360_0
   cases e360
   replace hx360_0 := bcL HB.out hx360_0
   replace p360 := eq_true p360
   replace q360 := eq_true q360
   have p361 : 0 ≤ (0 : Int) := (by omega)
   have q361 : 0 < (l0.length : Int) := od
   obtain ⟨ad361, A361_0, c361_0, A361_1, c361_1, A361_2, c361_2, A361_3, c361_3, e361, hx361_0, hx361_1, hx361_2, hx361_3, hx361_4, hl361_0, hi361_0, hl361_1, hi361_1, hl361_2, hi361_2, hl361_3, hi361_3⟩ := Al5 HR0.out q361
   have hw361_4 := hx361_4
   have hw361_3 := hx361_3
   have hw361_2 := hx361_2
   have hw361_1 := hx361_1
   have hw361_0 := hx361_0
   obtain rfl : ad358 = ad361 := (by injection e361)
   have qi361 : (0 < l0.length) = True := eq_true (by omega)
   replace hx361_0 := bcL HB.out hx361_0
   replace hx361_1 := bcL HB.out hx361_1
   replace hx361_2 := bcL HB.out hx361_2
   replace hx361_3 := bcL HB.out hx361_3
   replace hx361_4 := bcL HB.out hx361_4
   have HR361_0 := am hi361_0
   have HC361_0 := am hl361_0
   clear hi361_0 hl361_0
   have HR361_1 := am hi361_1
   have HC361_1 := am hl361_1
   clear hi361_1 hl361_1
   have HR361_2 := am hi361_2
   have HC361_2 := am hl361_2
   clear hi361_2 hl361_2
   have HR361_3 := am hi361_3
   have HC361_3 := am hl361_3
   clear hi361_3 hl361_3
   replace p361 := eq_true p361
   replace q361 := eq_true q361
   have ea_ := Option.some.inj (hx358_0.symm.trans hx361_0)
   injection ea_ with ea_ en_ ec_
   subst ea_
   subst ec_
   clear en_
   have ea_ := Option.some.inj (hx358_1.symm.trans hx361_1)
   injection ea_ with ea_ en_ ec_
   subst ea_
   subst ec_
   clear en_
   have ea_ := Option.some.inj (hx358_2.symm.trans hx361_2)
   injection ea_ with ea_ en_ ec_
   subst ea_
   subst ec_
   clear en_
   have ea_ := Option.some.inj (hx358_3.symm.trans hx361_3)
   injection ea_ with ea_ en_ ec_
   subst ea_
   subst ec_
   clear en_
   have p362 : 0 ≤ (0 : Int) := (by omega)
   have q362 : 0 < (l0.length : Int) := od
   obtain ⟨ad362, A362_0, c362_0, A362_1, c362_1, A362_2, c362_2, A362_3, c362_3, e362, hx362_0, hx362_1, hx362_2, hx362_3, hx362_4, hl362_0, hi362_0, hl362_1, hi362_1, hl362_2, hi362_2, hl362_3, hi362_3⟩ := Al5 HR0.out q362
   have hw362_4 := hx362_4
   have hw362_3 := hx362_3
   have hw362_2 := hx362_2
   have hw362_1 := hx362_1
   have hw362_0 := hx362_0
   obtain rfl : ad358 = ad362 := (by injection e362)
   have qi362 : (0 < l0.length) = True := eq_true (by omega)
   replace hx362_0 := bcL HB.out hx362_0
   replace hx362_1 := bcL HB.out hx362_1
   replace hx362_2 := bcL HB.out hx362_2
   replace hx362_3 := bcL HB.out hx362_3
   replace hx362_4 := bcL HB.out hx362_4
   have HR362_0 := am hi362_0
   have HC362_0 := am hl362_0
   clear hi362_0 hl362_0
   have HR362_1 := am hi362_1
   have HC362_1 := am hl362_1
   clear hi362_1 hl362_1
   have HR362_2 := am hi362_2
   have HC362_2 := am hl362_2
   clear hi362_2 hl362_2
   have HR362_3 := am hi362_3
   have HC362_3 := am hl362_3
   clear hi362_3 hl362_3
   replace p362 := eq_true p362
   replace q362 := eq_true q362
   have ea_ := Option.some.inj (hx358_0.symm.trans hx362_0)
   injection ea_ with ea_ en_ ec_
   subst ea_
   subst ec_
   clear en_
   have ea_ := Option.some.inj (hx358_1.symm.trans hx362_1)
   injection ea_ with ea_ en_ ec_
   subst ea_
   subst ec_
   clear en_
   have ea_ := Option.some.inj (hx358_2.symm.trans hx362_2)
   injection ea_ with ea_ en_ ec_
   subst ea_
   subst ec_
   clear en_
   have ea_ := Option.some.inj (hx358_3.symm.trans hx362_3)
   injection ea_ with ea_ en_ ec_
   subst ea_
   subst ec_
   clear en_
   have p363 : 0 ≤ (a2 : Int) := od
   have q363 : a2 < (((Aa2 l0 0).f3).length : Int) := od
   obtain ⟨ad363, e363, hx363_0⟩ := Kd.at_int HR362_3.out a2 p363 q363
   have hw363_0 := hx363_0
   cases e363
   replace hx363_0 := bcL HB.out hx363_0
   replace p363 := eq_true p363
   replace q363 := eq_true q363
   refine Ad5 (n := 16) (S := fun w' => w'.cell? ad358 = some (.slice A358_0 ((Aa2 l0 0).f0.f0).length c358_0) ∧ w'.cell? ⟨ad358.block, ad358.off + 1, none⟩ = some (.slice A358_1 ((Aa2 l0 0).f1).length c358_1) ∧ w'.cell? ⟨ad358.block, ad358.off + 2, none⟩ = some (.slice (some ad360) ((Aa2 l0 0).f2).length c358_2) ∧ w'.cell? ⟨ad358.block, ad358.off + 3, none⟩ = some (.slice (some ad363) ((Aa2 l0 0).f3).length c358_3) ∧ w'.cell? ⟨ad358.block, ad358.off + 4, none⟩ = some (.map (some ((Aa2 l0 0).f4).toNat)) ∧ w'.cell? ad358 = some (.slice A358_0 ((Aa2 l0 0).f0.f0).length c358_0) ∧ w'.cell? ⟨ad358.block, ad358.off + 1, none⟩ = some (.slice A358_1 ((Aa2 l0 0).f1).length c358_1) ∧ w'.cell? ⟨ad358.block, ad358.off + 2, none⟩ = some (.slice (some ad360) ((Aa2 l0 0).f2).length c358_2) ∧ w'.cell? ⟨ad358.block, ad358.off + 3, none⟩ = some (.slice (some ad363) ((Aa2 l0 0).f3).length c358_3) ∧ w'.cell? ⟨ad358.block, ad358.off + 4, none⟩ = some (.map (some ((Aa2 l0 0).f4).toNat)) ∧ w'.cell? (ad360.add (a1).toNat) = some (.int .i64 (rd ((Aa2 l0 0).f2) a1)) ∧ w'.cell? ad358 = some (.slice A358_0 ((Aa2 l0 0).f0.f0).length c358_0) ∧ w'.cell? ⟨ad358.block, ad358.off + 1, none⟩ = some (.slice A358_1 ((Aa2 l0 0).f1).length c358_1) ∧ w'.cell? ⟨ad358.block, ad358.off + 2, none⟩ = some (.slice (some ad360) ((Aa2 l0 0).f2).length c358_2) ∧ w'.cell? ⟨ad358.block, ad358.off + 3, none⟩ = some (.slice (some ad363) ((Aa2 l0 0).f3).length c358_3) ∧ w'.cell? ⟨ad358.block, ad358.off + 4, none⟩ = some (.map (some ((Aa2 l0 0).f4).toNat)) ∧ w'.cell? ad358 = some (.slice A358_0 ((Aa2 l0 0).f0.f0).length c358_0) ∧ w'.cell? ⟨ad358.block, ad358.off + 1, none⟩ = some (.slice A358_1 ((Aa2 l0 0).f1).length c358_1) ∧ w'.cell? ⟨ad358.block, ad358.off + 2, none⟩ = some (.slice (some ad360) ((Aa2 l0 0).f2).length c358_2) ∧ w'.cell? ⟨ad358.block, ad358.off + 3, none⟩ = some (.slice (some ad363) ((Aa2 l0 0).f3).length c358_3) ∧ w'.cell? ⟨ad358.block, ad358.off + 4, none⟩ = some (.map (some ((Aa2 l0 0).f4).toNat)) ∧ w'.cell? (ad363.add (a2).toNat) = some (.int .i64 (rd ((Aa2 l0 0).f3) a2))) (ds := []) #[false, false, false, false, false, false, false, false, false, false, false, false, false, false, false, false] (by kernel_rfl) rfl rfl ⟨(bcL HB.out hw358_0), (bcL HB.out hw358_1), (bcL HB.out hw358_2), (bcL HB.out hw358_3), (bcL HB.out hw358_4), (bcL HB.out hw359_0), (bcL HB.out hw359_1), (bcL HB.out hw359_2), (bcL HB.out hw359_3), (bcL HB.out hw359_4), (bcL HB.out hw360_0), (bcL HB.out hw361_0), (bcL HB.out hw361_1), (bcL HB.out hw361_2), (bcL HB.out hw361_3), (bcL HB.out hw361_4), (bcL HB.out hw362_0), (bcL HB.out hw362_1), (bcL HB.out hw362_2), (bcL HB.out hw362_3), (bcL HB.out hw362_4), (bcL HB.out hw363_0)⟩ (fun hHeld => ?_); refine Ac1 impl_comparer_isGreater.tab1 impl_comparer_isGreater.bits1 (fun HT_ HW_ => ?_)
   generalize w.drew = w23 at HB HR358_0 HR358_1 HR358_2 HR358_3 HR359_0 HR359_1 HR359_2 HR359_3 HR361_0 HR361_1 HR361_2 HR361_3 HR362_0 HR362_1 HR362_2 HR362_3 hx358_0 hx358_1 hx358_2 hx358_3 hx358_4 hx359_0 hx359_1 hx359_2 hx359_3 hx359_4 hx360_0 hx361_0 hx361_1 hx361_2 hx361_3 hx361_4 hx362_0 hx362_1 hx362_2 hx362_3 hx362_4 hx363_0 hHeld ⊢
   refine pu 0 18 rfl rfl HT_ ?_
   refine pu 1 19 rfl rfl HT_ ?_
   refine pu 2 20 rfl rfl HT_ ?_
   refine pu 4 22 rfl rfl HT_ ?_
   refine pu 7 25 rfl rfl HT_ ?_
   refine pu 8 26 rfl rfl HT_ ?_
   refine pu 9 27 rfl rfl HT_ ?_
   refine pu 11 29 rfl rfl HT_ ?_
   refine tk 3 21 rfl rfl HT_ HW_ hHeld ?_
   refine pu 5 23 rfl rfl HT_ ?_
   refine tk 6 24 rfl rfl HT_ HW_ hHeld ?_
   refine pu 14 7 rfl rfl HT_ ?_
   refine tk 10 28 rfl rfl HT_ HW_ hHeld ?_
   refine pu 12 30 rfl rfl HT_ ?_
   refine tk 13 31 rfl rfl HT_ HW_ hHeld ?_
   refine pu 15 8 rfl rfl HT_ ?_
   refine Ag1 (Ac8 HT_.out (by kernel_rfl)) ?_
   try go_wp2
   replace HB := am (Ab0 HB.out)
   have p372 : 0 ≤ (0 : Int) := (by omega)
   have q372 : 0 < (l0.length : Int) := od
   obtain ⟨ad372, A372_0, c372_0, A372_1, c372_1, A372_2, c372_2, A372_3, c372_3, e372, hx372_0, hx372_1, hx372_2, hx372_3, hx372_4, hl372_0, hi372_0, hl372_1, hi372_1, hl372_2, hi372_2, hl372_3, hi372_3⟩ := Al5 HR0.out q372
   have hw372_4 := hx372_4
   have hw372_3 := hx372_3
   have hw372_2 := hx372_2
   have hw372_1 := hx372_1
   have hw372_0 := hx372_0
   obtain rfl : ad358 = ad372 := (by injection e372)
   have qi372 : (0 < l0.length) = True := eq_true (by omega)
   replace hx372_0 := bcL HB.out hx372_0
   replace hx372_1 := bcL HB.out hx372_1
   replace hx372_2 := bcL HB.out hx372_2
   replace hx372_3 := bcL HB.out hx372_3
   replace hx372_4 := bcL HB.out hx372_4
   have HR372_0 := am hi372_0
   have HC372_0 := am hl372_0
   clear hi372_0 hl372_0
   have HR372_1 := am hi372_1
   have HC372_1 := am hl372_1
   clear hi372_1 hl372_1
   have HR372_2 := am hi372_2
   have HC372_2 := am hl372_2
   clear hi372_2 hl372_2
   have HR372_3 := am hi372_3
   have HC372_3 := am hl372_3
   clear hi372_3 hl372_3
   replace p372 := eq_true p372
   replace q372 := eq_true q372
   have p373 : 0 ≤ (0 : Int) := (by omega)
   have q373 : 0 < (l0.length : Int) := od
   obtain ⟨ad373, A373_0, c373_0, A373_1, c373_1, A373_2, c373_2, A373_3, c373_3, e373, hx373_0, hx373_1, hx373_2, hx373_3, hx373_4, hl373_0, hi373_0, hl373_1, hi373_1, hl373_2, hi373_2, hl373_3, hi373_3⟩ := Al5 HR0.out q373
   have hw373_4 := hx373_4
   have hw373_3 := hx373_3
   have hw373_2 := hx373_2
   have hw373_1 := hx373_1
   have hw373_0 := hx373_0
   obtain rfl : ad358 = ad373 := (by injection e373)
   have qi373 : (0 < l0.length) = True := eq_true (by omega)
   replace hx373_0 := bcL HB.out hx373_0
   replace hx373_1 := bcL HB.out hx373_1
   replace hx373_2 := bcL HB.out hx373_2
   replace hx373_3 := bcL HB.out hx373_3
   replace hx373_4 := bcL HB.out hx373_4
   have HR373_0 := am hi373_0
   have HC373_0 := am hl373_0
   clear hi373_0 hl373_0
   have HR373_1 := am hi373_1
   have HC373_1 := am hl373_1
   clear hi373_1 hl373_1
   have HR373_2 := am hi373_2
   have HC373_2 := am hl373_2
   clear hi373_2 hl373_2
   have HR373_3 := am hi373_3
   have HC373_3 := am hl373_3
   clear hi373_3 hl373_3
   replace p373 := eq_true p373
   replace q373 := eq_true q373
   have ea_ := Option.some.inj (hx372_0.symm.trans hx373_0)
   injection ea_ with ea_ en_ ec_
   subst ea_
   subst ec_
   clear en_
   have ea_ := Option.some.inj (hx372_1.symm.trans hx373_1)
   injection ea_ with ea_ en_ ec_
   subst ea_
   subst ec_
   clear en_
   have ea_ := Option.some.inj (hx372_2.symm.trans hx373_2)
   injection ea_ with ea_ en_ ec_
   subst ea_
   subst ec_
   clear en_
   have ea_ := Option.some.inj (hx372_3.symm.trans hx373_3)
   injection ea_ with ea_ en_ ec_
   subst ea_
   subst ec_
   clear en_
   have p374 : 0 ≤ (0 : Int) := (by omega)
   have q374 : 0 < (l0.length : Int) := od
   obtain ⟨ad374, A374_0, c374_0, A374_1, c374_1, A374_2, c374_2, A374_3, c374_3, e374, hx374_0, hx374_1, hx374_2, hx374_3, hx374_4, hl374_0, hi374_0, hl374_1, hi374_1, hl374_2, hi374_2, hl374_3, hi374_3⟩ := Al5 HR0.out q374
   have hw374_4 := hx374_4
   have hw374_3 := hx374_3
   have hw374_2 := hx374_2
   have hw374_1 := hx374_1
   have hw374_0 := hx374_0
   obtain rfl : ad358 = ad374 := (by injection e374)
   have qi374 : (0 < l0.length) = True := eq_true (by omega)
   replace hx374_0 := bcL HB.out hx374_0
   replace hx374_1 := bcL HB.out hx374_1
   replace hx374_2 := bcL HB.out hx374_2
   replace hx374_3 := bcL HB.out hx374_3
   replace hx374_4 := bcL HB.out hx374_4
   have HR374_0 := am hi374_0
   have HC374_0 := am hl374_0
   clear hi374_0 hl374_0
   have HR374_1 := am hi374_1
   have HC374_1 := am hl374_1
   clear hi374_1 hl374_1
   have HR374_2 := am hi374_2
   have HC374_2 := am hl374_2
   clear hi374_2 hl374_2
   have HR374_3 := am hi374_3
   have HC374_3 := am hl374_3
   clear hi374_3 hl374_3
   replace p374 := eq_true p374
   replace q374 := eq_true q374
   have ea_ := Option.some.inj (hx372_0.symm.trans hx374_0)
   injection ea_ with ea_ en_ ec_
   subst ea_
   subst ec_
   clear en_
   have ea_ := Option.some.inj (hx372_1.symm.trans hx374_1)
   injection ea_ with ea_ en_ ec_
   subst ea_
   subst ec_
   clear en_
   have ea_ := Option.some.inj (hx372_2.symm.trans hx374_2)
   injection ea_ with ea_ en_ ec_
   subst ea_
   subst ec_
   clear en_
   have ea_ := Option.some.inj (hx372_3.symm.trans hx374_3)
   injection ea_ with ea_ en_ ec_
   subst ea_
   subst ec_
   clear en_
   have p375 : 0 ≤ (0 : Int) := (by omega)
   have q375 : 0 < (l0.length : Int) := od
   obtain ⟨ad375, A375_0, c375_0, A375_1, c375_1, A375_2, c375_2, A375_3, c375_3, e375, hx375_0, hx375_1, hx375_2, hx375_3, hx375_4, hl375_0, hi375_0, hl375_1, hi375_1, hl375_2, hi375_2, hl375_3, hi375_3⟩ := Al5 HR0.out q375
   have hw375_4 := hx375_4
   have hw375_3 := hx375_3
   have hw375_2 := hx375_2
   have hw375_1 := hx375_1
   have hw375_0 := hx375_0
   obtain rfl : ad358 = ad375 := (by injection e375)
   have qi375 : (0 < l0.length) = True := eq_true (by omega)
   replace hx375_0 := bcL HB.out hx375_0
   replace hx375_1 := bcL HB.out hx375_1
   replace hx375_2 := bcL HB.out hx375_2
   replace hx375_3 := bcL HB.out hx375_3
   replace hx375_4 := bcL HB.out hx375_4
   have HR375_0 := am hi375_0
   have HC375_0 := am hl375_0
   clear hi375_0 hl375_0
   have HR375_1 := am hi375_1
   have HC375_1 := am hl375_1
   clear hi375_1 hl375_1
   have HR375_2 := am hi375_2
   have HC375_2 := am hl375_2
   clear hi375_2 hl375_2
   have HR375_3 := am hi375_3
   have HC375_3 := am hl375_3
   clear hi375_3 hl375_3
   replace p375 := eq_true p375
   replace q375 := eq_true q375
   have ea_ := Option.some.inj (hx372_0.symm.trans hx375_0)
   injection ea_ with ea_ en_ ec_
   subst ea_
   subst ec_
   clear en_
   have ea_ := Option.some.inj (hx372_1.symm.trans hx375_1)
   injection ea_ with ea_ en_ ec_
   subst ea_
   subst ec_
   clear en_
   have ea_ := Option.some.inj (hx372_2.symm.trans hx375_2)
   injection ea_ with ea_ en_ ec_
   subst ea_
   subst ec_
   clear en_
   have ea_ := Option.some.inj (hx372_3.symm.trans hx375_3)
   injection ea_ with ea_ en_ ec_
   subst ea_
   subst ec_
   clear en_
   have p379 : 0 ≤ (0 : Int) := (by omega)
   have q379 : 0 < (l0.length : Int) := od
   obtain ⟨ad379, A379_0, c379_0, A379_1, c379_1, A379_2, c379_2, A379_3, c379_3, e379, hx379_0, hx379_1, hx379_2, hx379_3, hx379_4, hl379_0, hi379_0, hl379_1, hi379_1, hl379_2, hi379_2, hl379_3, hi379_3⟩ := Al5 HR0.out q379
   have hw379_4 := hx379_4
   have hw379_3 := hx379_3
   have hw379_2 := hx379_2
   have hw379_1 := hx379_1
   have hw379_0 := hx379_0
   obtain rfl : ad358 = ad379 := (by injection e379)
   have qi379 : (0 < l0.length) = True := eq_true (by omega)
   replace hx379_0 := bcL HB.out hx379_0
   replace hx379_1 := bcL HB.out hx379_1
   replace hx379_2 := bcL HB.out hx379_2
   replace hx379_3 := bcL HB.out hx379_3
   replace hx379_4 := bcL HB.out hx379_4
   have HR379_0 := am hi379_0
   have HC379_0 := am hl379_0
   clear hi379_0 hl379_0
   have HR379_1 := am hi379_1
   have HC379_1 := am hl379_1
   clear hi379_1 hl379_1
   have HR379_2 := am hi379_2
   have HC379_2 := am hl379_2
   clear hi379_2 hl379_2
   have HR379_3 := am hi379_3
   have HC379_3 := am hl379_3
   clear hi379_3 hl379_3
   replace p379 := eq_true p379
   replace q379 := eq_true q379
   have ea_ := Option.some.inj (hx372_0.symm.trans hx379_0)
   injection ea_ with ea_ en_ ec_
   subst ea_
   subst ec_
   clear en_
   have ea_ := Option.some.inj (hx372_1.symm.trans hx379_1)
   injection ea_ with ea_ en_ ec_
   subst ea_
   subst ec_
   clear en_
   have ea_ := Option.some.inj (hx372_2.symm.trans hx379_2)
   injection ea_ with ea_ en_ ec_
   subst ea_
   subst ec_
   clear en_
   have ea_ := Option.some.inj (hx372_3.symm.trans hx379_3)
   injection ea_ with ea_ en_ ec_
   subst ea_
   subst ec_
   clear en_
   have p380 : 0 ≤ (0 : Int) := (by omega)
   have q380 : 0 < (l0.length : Int) := od
   obtain ⟨ad380, A380_0, c380_0, A380_1, c380_1, A380_2, c380_2, A380_3, c380_3, e380, hx380_0, hx380_1, hx380_2, hx380_3, hx380_4, hl380_0, hi380_0, hl380_1, hi380_1, hl380_2, hi380_2, hl380_3, hi380_3⟩ := Al5 HR0.out q380
   have hw380_4 := hx380_4
   have hw380_3 := hx380_3
   have hw380_2 := hx380_2
   have hw380_1 := hx380_1
   have hw380_0 := hx380_0
   obtain rfl : ad358 = ad380 := (by injection e380)
   have qi380 : (0 < l0.length) = True := eq_true (by omega)
   replace hx380_0 := bcL HB.out hx380_0
   replace hx380_1 := bcL HB.out hx380_1
   replace hx380_2 := bcL HB.out hx380_2
   replace hx380_3 := bcL HB.out hx380_3
   replace hx380_4 := bcL HB.out hx380_4
   have HR380_0 := am hi380_0
   have HC380_0 := am hl380_0
   clear hi380_0 hl380_0
   have HR380_1 := am hi380_1
   have HC380_1 := am hl380_1
   clear hi380_1 hl380_1
   have HR380_2 := am hi380_2
   have HC380_2 := am hl380_2
   clear hi380_2 hl380_2
   have HR380_3 := am hi380_3
   have HC380_3 := am hl380_3
   clear hi380_3 hl380_3
   replace p380 := eq_true p380
   replace q380 := eq_true q380
   have ea_ := Option.some.inj (hx372_0.symm.trans hx380_0)
   injection ea_ with ea_ en_ ec_
   subst ea_
   subst ec_
   clear en_
   have ea_ := Option.some.inj (hx372_1.symm.trans hx380_1)
   injection ea_ with ea_ en_ ec_
   subst ea_
   subst ec_
   clear en_
   have ea_ := Option.some.inj (hx372_2.symm.trans hx380_2)
   injection ea_ with ea_ en_ ec_
   subst ea_
   subst ec_
   clear en_
   have ea_ := Option.some.inj (hx372_3.symm.trans hx380_3)
   injection ea_ with ea_ en_ ec_
   subst ea_
   subst ec_
   clear en_
   have p381 : 0 ≤ (0 : Int) := (by omega)
   have q381 : 0 < (l0.length : Int) := od
   obtain ⟨ad381, A381_0, c381_0, A381_1, c381_1, A381_2, c381_2, A381_3, c381_3, e381, hx381_0, hx381_1, hx381_2, hx381_3, hx381_4, hl381_0, hi381_0, hl381_1, hi381_1, hl381_2, hi381_2, hl381_3, hi381_3⟩ := Al5 HR0.out q381
   have hw381_4 := hx381_4
   have hw381_3 := hx381_3
   have hw381_2 := hx381_2
   have hw381_1 := hx381_1
   have hw381_0 := hx381_0
   obtain rfl : ad358 = ad381 := (by injection e381)
   have qi381 : (0 < l0.length) = True := eq_true (by omega)
   replace hx381_0 := bcL HB.out hx381_0
   replace hx381_1 := bcL HB.out hx381_1
   replace hx381_2 := bcL HB.out hx381_2
   replace hx381_3 := bcL HB.out hx381_3
   replace hx381_4 := bcL HB.out hx381_4
   have HR381_0 := am hi381_0
   have HC381_0 := am hl381_0
   clear hi381_0 hl381_0
   have HR381_1 := am hi381_1
   have HC381_1 := am hl381_1
   clear hi381_1 hl381_1
   have HR381_2 := am hi381_2
   have HC381_2 := am hl381_2
   clear hi381_2 hl381_2
   have HR381_3 := am hi381_3
   have HC381_3 := am hl381_3
   clear hi381_3 hl381_3
   replace p381 := eq_true p381
   replace q381 := eq_true q381
   have ea_ := Option.some.inj (hx372_0.symm.trans hx381_0)
   injection ea_ with ea_ en_ ec_
   subst ea_
   subst ec_
   clear en_
   have ea_ := Option.some.inj (hx372_1.symm.trans hx381_1)
   injection ea_ with ea_ en_ ec_
   subst ea_
   subst ec_
   clear en_
   have ea_ := Option.some.inj (hx372_2.symm.trans hx381_2)
   injection ea_ with ea_ en_ ec_
   subst ea_
   subst ec_
   clear en_
   have ea_ := Option.some.inj (hx372_3.symm.trans hx381_3)
   injection ea_ with ea_ en_ ec_
   subst ea_
   subst ec_
   clear en_
   have p382 : 0 ≤ (0 : Int) := (by omega)
   have q382 : 0 < (l0.length : Int) := od
   obtain ⟨ad382, A382_0, c382_0, A382_1, c382_1, A382_2, c382_2, A382_3, c382_3, e382, hx382_0, hx382_1, hx382_2, hx382_3, hx382_4, hl382_0, hi382_0, hl382_1, hi382_1, hl382_2, hi382_2, hl382_3, hi382_3⟩ := Al5 HR0.out q382
   have hw382_4 := hx382_4
   have hw382_3 := hx382_3
   have hw382_2 := hx382_2
   have hw382_1 := hx382_1
   have hw382_0 := hx382_0
   obtain rfl : ad358 = ad382 := (by injection e382)
   have qi382 : (0 < l0.length) = True := eq_true (by omega)
   replace hx382_0 := bcL HB.out hx382_0
   replace hx382_1 := bcL HB.out hx382_1
   replace hx382_2 := bcL HB.out hx382_2
   replace hx382_3 := bcL HB.out hx382_3
   replace hx382_4 := bcL HB.out hx382_4
   have HR382_0 := am hi382_0
   have HC382_0 := am hl382_0
   clear hi382_0 hl382_0
   have HR382_1 := am hi382_1
   have HC382_1 := am hl382_1
   clear hi382_1 hl382_1
   have HR382_2 := am hi382_2
   have HC382_2 := am hl382_2
   clear hi382_2 hl382_2
   have HR382_3 := am hi382_3
   have HC382_3 := am hl382_3
   clear hi382_3 hl382_3
   replace p382 := eq_true p382
   replace q382 := eq_true q382
   have ea_ := Option.some.inj (hx372_0.symm.trans hx382_0)
   injection ea_ with ea_ en_ ec_
   subst ea_
   subst ec_
   clear en_
   have ea_ := Option.some.inj (hx372_1.symm.trans hx382_1)
   injection ea_ with ea_ en_ ec_
   subst ea_
   subst ec_
   clear en_
   have ea_ := Option.some.inj (hx372_2.symm.trans hx382_2)
   injection ea_ with ea_ en_ ec_
   subst ea_
   subst ec_
   clear en_
   have ea_ := Option.some.inj (hx372_3.symm.trans hx382_3)
   injection ea_ with ea_ en_ ec_
   subst ea_
   subst ec_
   clear en_
   refine Ad5 (n := 22) (S := fun w' => w'.cell? ad358 = some (.slice A372_0 ((Aa2 l0 0).f0.f0).length c372_0) ∧ w'.cell? ⟨ad358.block, ad358.off + 1, none⟩ = some (.slice A372_1 ((Aa2 l0 0).f1).length c372_1) ∧ w'.cell? ⟨ad358.block, ad358.off + 2, none⟩ = some (.slice A372_2 ((Aa2 l0 0).f2).length c372_2) ∧ w'.cell? ⟨ad358.block, ad358.off + 3, none⟩ = some (.slice A372_3 ((Aa2 l0 0).f3).length c372_3) ∧ w'.cell? ⟨ad358.block, ad358.off + 4, none⟩ = some (.map (some ((Aa2 l0 0).f4).toNat)) ∧ w'.cell? ad358 = some (.slice A372_0 ((Aa2 l0 0).f0.f0).length c372_0) ∧ w'.cell? ⟨ad358.block, ad358.off + 1, none⟩ = some (.slice A372_1 ((Aa2 l0 0).f1).length c372_1) ∧ w'.cell? ⟨ad358.block, ad358.off + 2, none⟩ = some (.slice A372_2 ((Aa2 l0 0).f2).length c372_2) ∧ w'.cell? ⟨ad358.block, ad358.off + 3, none⟩ = some (.slice A372_3 ((Aa2 l0 0).f3).length c372_3) ∧ w'.cell? ⟨ad358.block, ad358.off + 4, none⟩ = some (.map (some ((Aa2 l0 0).f4).toNat)) ∧ w'.cell? ad358 = some (.slice A372_0 ((Aa2 l0 0).f0.f0).length c372_0) ∧ w'.cell? ⟨ad358.block, ad358.off + 1, none⟩ = some (.slice A372_1 ((Aa2 l0 0).f1).length c372_1) ∧ w'.cell? ⟨ad358.block, ad358.off + 2, none⟩ = some (.slice A372_2 ((Aa2 l0 0).f2).length c372_2) ∧ w'.cell? ⟨ad358.block, ad358.off + 3, none⟩ = some (.slice A372_3 ((Aa2 l0 0).f3).length c372_3) ∧ w'.cell? ⟨ad358.block, ad358.off + 4, none⟩ = some (.map (some ((Aa2 l0 0).f4).toNat)) ∧ w'.cell? ad358 = some (.slice A372_0 ((Aa2 l0 0).f0.f0).length c372_0) ∧ w'.cell? ⟨ad358.block, ad358.off + 1, none⟩ = some (.slice A372_1 ((Aa2 l0 0).f1).length c372_1) ∧ w'.cell? ⟨ad358.block, ad358.off + 2, none⟩ = some (.slice A372_2 ((Aa2 l0 0).f2).length c372_2) ∧ w'.cell? ⟨ad358.block, ad358.off + 3, none⟩ = some (.slice A372_3 ((Aa2 l0 0).f3).length c372_3) ∧ w'.cell? ⟨ad358.block, ad358.off + 4, none⟩ = some (.map (some ((Aa2 l0 0).f4).toNat)) ∧ w'.cell? ad358 = some (.slice A372_0 ((Aa2 l0 0).f0.f0).length c372_0) ∧ w'.cell? ⟨ad358.block, ad358.off + 1, none⟩ = some (.slice A372_1 ((Aa2 l0 0).f1).length c372_1) ∧ w'.cell? ⟨ad358.block, ad358.off + 2, none⟩ = some (.slice A372_2 ((Aa2 l0 0).f2).length c372_2) ∧ w'.cell? ⟨ad358.block, ad358.off + 3, none⟩ = some (.slice A372_3 ((Aa2 l0 0).f3).length c372_3) ∧ w'.cell? ⟨ad358.block, ad358.off + 4, none⟩ = some (.map (some ((Aa2 l0 0).f4).toNat)) ∧ w'.cell? ad358 = some (.slice A372_0 ((Aa2 l0 0).f0.f0).length c372_0) ∧ w'.cell? ⟨ad358.block, ad358.off + 1, none⟩ = some (.slice A372_1 ((Aa2 l0 0).f1).length c372_1) ∧ w'.cell? ⟨ad358.block, ad358.off + 2, none⟩ = some (.slice A372_2 ((Aa2 l0 0).f2).length c372_2) ∧ w'.cell? ⟨ad358.block, ad358.off + 3, none⟩ = some (.slice A372_3 ((Aa2 l0 0).f3).length c372_3) ∧ w'.cell? ⟨ad358.block, ad358.off + 4, none⟩ = some (.map (some ((Aa2 l0 0).f4).toNat)) ∧ w'.cell? ad358 = some (.slice A372_0 ((Aa2 l0 0).f0.f0).length c372_0) ∧ w'.cell? ⟨ad358.block, ad358.off + 1, none⟩ = some (.slice A372_1 ((Aa2 l0 0).f1).length c372_1) ∧ w'.cell? ⟨ad358.block, ad358.off + 2, none⟩ = some (.slice A372_2 ((Aa2 l0 0).f2).length c372_2) ∧ w'.cell? ⟨ad358.block, ad358.off + 3, none⟩ = some (.slice A372_3 ((Aa2 l0 0).f3).length c372_3) ∧ w'.cell? ⟨ad358.block, ad358.off + 4, none⟩ = some (.map (some ((Aa2 l0 0).f4).toNat)) ∧ w'.cell? ad358 = some (.slice A372_0 ((Aa2 l0 0).f0.f0).length c372_0) ∧ w'.cell? ⟨ad358.block, ad358.off + 1, none⟩ = some (.slice A372_1 ((Aa2 l0 0).f1).length c372_1) ∧ w'.cell? ⟨ad358.block, ad358.off + 2, none⟩ = some (.slice A372_2 ((Aa2 l0 0).f2).length c372_2) ∧ w'.cell? ⟨ad358.block, ad358.off + 3, none⟩ = some (.slice A372_3 ((Aa2 l0 0).f3).length c372_3) ∧ w'.cell? ⟨ad358.block, ad358.off + 4, none⟩ = some (.map (some ((Aa2 l0 0).f4).toNat))) (ds := []) #[false, false, false, false, false, false, false, false, false, false, false, false, false, false, false, false, false, false, false, false, false, false] (by kernel_rfl) rfl rfl ⟨(bcL HB.out hw372_0), (bcL HB.out hw372_1), (bcL HB.out hw372_2), (bcL HB.out hw372_3), (bcL HB.out hw372_4), (bcL HB.out hw373_0), (bcL HB.out hw373_1), (bcL HB.out hw373_2), (bcL HB.out hw373_3), (bcL HB.out hw373_4), (bcL HB.out hw374_0), (bcL HB.out hw374_1), (bcL HB.out hw374_2), (bcL HB.out hw374_3), (bcL HB.out hw374_4), (bcL HB.out hw375_0), (bcL HB.out hw375_1), (bcL HB.out hw375_2), (bcL HB.out hw375_3), (bcL HB.out hw375_4), (bcL HB.out hw379_0), (bcL HB.out hw379_1), (bcL HB.out hw379_2), (bcL HB.out hw379_3), (bcL HB.out hw379_4), (bcL HB.out hw380_0), (bcL HB.out hw380_1), (bcL HB.out hw380_2), (bcL HB.out hw380_3), (bcL HB.out hw380_4), (bcL HB.out hw381_0), (bcL HB.out hw381_1), (bcL HB.out hw381_2), (bcL HB.out hw381_3), (bcL HB.out hw381_4), (bcL HB.out hw382_0), (bcL HB.out hw382_1), (bcL HB.out hw382_2), (bcL HB.out hw382_3), (bcL HB.out hw382_4)⟩ (fun hHeld => ?_); refine Ac1 impl_comparer_isGreater.tab6 impl_comparer_isGreater.bits6 (fun HT_ HW_ => ?_)
   generalize w23.drew = w24 at HB HR372_0 HR372_1 HR372_2 HR372_3 HR373_0 HR373_1 HR373_2 HR373_3 HR374_0 HR374_1 HR374_2 HR374_3 HR375_0 HR375_1 HR375_2 HR375_3 HR379_0 HR379_1 HR379_2 HR379_3 HR380_0 HR380_1 HR380_2 HR380_3 HR381_0 HR381_1 HR381_2 HR381_3 HR382_0 HR382_1 HR382_2 HR382_3 hx372_0 hx372_1 hx372_2 hx372_3 hx372_4 hx373_0 hx373_1 hx373_2 hx373_3 hx373_4 hx374_0 hx374_1 hx374_2 hx374_3 hx374_4 hx375_0 hx375_1 hx375_2 hx375_3 hx375_4 hx379_0 hx379_1 hx379_2 hx379_3 hx379_4 hx380_0 hx380_1 hx380_2 hx380_3 hx380_4 hx381_0 hx381_1 hx381_2 hx381_3 hx381_4 hx382_0 hx382_1 hx382_2 hx382_3 hx382_4 hHeld ⊢
   refine pu 0 52 rfl rfl HT_ ?_
   refine pu 1 53 rfl rfl HT_ ?_
   refine pu 2 54 rfl rfl HT_ ?_
   refine pu 4 56 rfl rfl HT_ ?_
   refine pu 5 57 rfl rfl HT_ ?_
   refine pu 6 58 rfl rfl HT_ ?_
   refine pu 8 60 rfl rfl HT_ ?_
   refine pu 10 62 rfl rfl HT_ ?_
   refine pu 11 63 rfl rfl HT_ ?_
   refine pu 12 64 rfl rfl HT_ ?_
   refine pu 14 66 rfl rfl HT_ ?_
   refine pu 15 67 rfl rfl HT_ ?_
   refine pu 16 68 rfl rfl HT_ ?_
   refine pu 18 70 rfl rfl HT_ ?_
   refine tk 3 55 rfl rfl HT_ HW_ hHeld ?_
   refine tk 7 59 rfl rfl HT_ HW_ hHeld ?_
   refine tk 13 65 rfl rfl HT_ HW_ hHeld ?_
   refine tk 17 69 rfl rfl HT_ HW_ hHeld ?_
   refine on_ 9 (some 61) rfl rfl HT_ (fun K hK => ?_)
   refine gs Tryz.func115 #[.agg #[.slice A372_0 ((Aa2 l0 0).f0.f0).length c372_0], .slice A372_2 ((Aa2 l0 0).f2).length c372_2, .int .i64 a1] ?_
   refine (impl_argumentsOf.calls k _ _ ((Aa2 l0 0).f0.f0) _ _ ((Aa2 l0 0).f2) a1 t376 _ (cq (Kd.C_below HR373_0.out HB.out)) HC373_0.out (cq (Kd.C_below HR375_2.out HB.out)) HC375_2.out A21.out).mono ?_
   rintro e w25 ⟨v377, rfl, ho0, hb⟩
   refine ⟨_, rfl, ?_⟩
   have HO378 := am (Kd.R_lower ho0 (Aa6 (hq HB.out)))
   replace HB := sb HB hb
   (try clear hb)
   (try clear hk)
   (try clear ho0)
   refine hK.out _ _ ⟨(bcL HB.out hw372_0), (bcL HB.out hw372_1), (bcL HB.out hw372_2), (bcL HB.out hw372_3), (bcL HB.out hw372_4), (bcL HB.out hw373_0), (bcL HB.out hw373_1), (bcL HB.out hw373_2), (bcL HB.out hw373_3), (bcL HB.out hw373_4), (bcL HB.out hw374_0), (bcL HB.out hw374_1), (bcL HB.out hw374_2), (bcL HB.out hw374_3), (bcL HB.out hw374_4), (bcL HB.out hw375_0), (bcL HB.out hw375_1), (bcL HB.out hw375_2), (bcL HB.out hw375_3), (bcL HB.out hw375_4), (bcL HB.out hw379_0), (bcL HB.out hw379_1), (bcL HB.out hw379_2), (bcL HB.out hw379_3), (bcL HB.out hw379_4), (bcL HB.out hw380_0), (bcL HB.out hw380_1), (bcL HB.out hw380_2), (bcL HB.out hw380_3), (bcL HB.out hw380_4), (bcL HB.out hw381_0), (bcL HB.out hw381_1), (bcL HB.out hw381_2), (bcL HB.out hw381_3), (bcL HB.out hw381_4), (bcL HB.out hw382_0), (bcL HB.out hw382_1), (bcL HB.out hw382_2), (bcL HB.out hw382_3), (bcL HB.out hw382_4)⟩ (fun hHeld => ?_)
   clear hK K
   refine nr (some 61) ?_
   refine on_ 19 (some 71) rfl rfl HT_ (fun K hK => ?_)
   refine gs Tryz.func115 #[.agg #[.slice A372_0 ((Aa2 l0 0).f0.f0).length c372_0], .slice A372_3 ((Aa2 l0 0).f3).length c372_3, .int .i64 a2] ?_
   refine (impl_argumentsOf.calls k _ _ ((Aa2 l0 0).f0.f0) _ _ ((Aa2 l0 0).f3) a2 t383 _ (cq (Kd.C_below HR380_0.out HB.out)) HC380_0.out (cq (Kd.C_below HR382_3.out HB.out)) HC382_3.out A22.out).mono ?_
   rintro e w26 ⟨v384, rfl, ho0, hb⟩
   refine ⟨_, rfl, ?_⟩
   have HO385 := am (Kd.R_lower (Kd.R_new' ho0 (Kd.R_lt (rq HO378.out))) (Aa6 (hq HB.out)))
   replace HO378 := am (Kd.R_elder' (rq HO378.out) (Kd.R_base ho0) hb)
   replace HB := sb HB hb
   (try clear hb)
   (try clear hk)
   (try clear ho0)
   refine hK.out _ _ ⟨(bcL HB.out hw372_0), (bcL HB.out hw372_1), (bcL HB.out hw372_2), (bcL HB.out hw372_3), (bcL HB.out hw372_4), (bcL HB.out hw373_0), (bcL HB.out hw373_1), (bcL HB.out hw373_2), (bcL HB.out hw373_3), (bcL HB.out hw373_4), (bcL HB.out hw374_0), (bcL HB.out hw374_1), (bcL HB.out hw374_2), (bcL HB.out hw374_3), (bcL HB.out hw374_4), (bcL HB.out hw375_0), (bcL HB.out hw375_1), (bcL HB.out hw375_2), (bcL HB.out hw375_3), (bcL HB.out hw375_4), (bcL HB.out hw379_0), (bcL HB.out hw379_1), (bcL HB.out hw379_2), (bcL HB.out hw379_3), (bcL HB.out hw379_4), (bcL HB.out hw380_0), (bcL HB.out hw380_1), (bcL HB.out hw380_2), (bcL HB.out hw380_3), (bcL HB.out hw380_4), (bcL HB.out hw381_0), (bcL HB.out hw381_1), (bcL HB.out hw381_2), (bcL HB.out hw381_3), (bcL HB.out hw381_4), (bcL HB.out hw382_0), (bcL HB.out hw382_1), (bcL HB.out hw382_2), (bcL HB.out hw382_3), (bcL HB.out hw382_4)⟩ (fun hHeld => ?_)
   clear hK K
   refine nr (some 71) ?_
   refine pu 20 9 rfl rfl HT_ ?_
   refine pu 21 10 rfl rfl HT_ ?_
   refine Ag1 (Ac8 HT_.out (by kernel_rfl)) ?_
   obtain ⟨Ao27, co27, eo27⟩ := Kd.R_slice HO378.out
   subst eo27
   try go_wp2
   have HB_ := am (Bel.of HI.out HB.out)
   clear HB
   have HB := HB_
   clear HB_
   go_loopg [74] k (fun kq v74 w' => ∃ (x74_1 : Int), v74 = .int .i64 x74_1 ∧ Aside0 (impl_comparer_isGreater.l0 g kq l0 a1 a2 (rd ((Aa2 l0 0).f2) a1) (rd ((Aa2 l0 0).f3) a2) t376 t383 t376 (t376.length : Int) x74_1 = some r) ∧ Aside0 (kq ≤ k) ∧ Aside0 (Kd.R (Kd.int .i64) 3 w' w.heap.size (fun k_ => some k_ ≠ (v384 : Value).ownBlock) (.slice Ao27 t376.length co27) t376) ∧ Aside0 (Kd.R (Kd.int .i64) 3 w' w.heap.size (fun k_ => some k_ ≠ ((.slice Ao27 t376.length co27) : Value).ownBlock ∧ some k_ ≠ ((.slice Ao27 t376.length co27) : Value).ownBlock) v384 t383) ∧ Aside0 (Kd.R (Kd.int .i64) 3 w' w.heap.size (fun k_ => some k_ ≠ (v384 : Value).ownBlock) (.slice Ao27 t376.length co27) t376) ∧ Aside0 (Bel G mb w.heap.size w w'))
   case atStart => exact ⟨(0), et, H', ⟨Nat.le_refl _⟩, ⟨rq (Kd.R_mono HO378.out (fun _ hk => hk.2))⟩, ⟨by (with_reducible repeat (first | apply Kd.R_alloc | apply Kd.R_drewN | apply Kd.R_drew)); exact Kd.R_mono HO385.out (fun _ hk => by first | exact ⟨hk.2, hk.2⟩ | exact ⟨hk.2, hk.2⟩ | trivial)⟩, ⟨rq (Kd.R_mono HO378.out (fun _ hk => hk.2))⟩, ⟨by repeat (first | (with_reducible first | exact HB.out | apply Ab8 | apply Ab9 | apply Ac0) | exact HB.out)⟩⟩
   case round =>
    clear H'
    try clear hx372_0; try clear hx372_1; try clear hx372_2; try clear hx372_3; try clear hx372_4; try clear hx373_0; try clear hx373_1; try clear hx373_2; try clear hx373_3; try clear hx373_4; try clear hx374_0; try clear hx374_1; try clear hx374_2; try clear hx374_3; try clear hx374_4; try clear hx375_0; try clear hx375_1; try clear hx375_2; try clear hx375_3; try clear hx375_4; try clear hx379_0; try clear hx379_1; try clear hx379_2; try clear hx379_3; try clear hx379_4; try clear hx380_0; try clear hx380_1; try clear hx380_2; try clear hx380_3; try clear hx380_4; try clear hx381_0; try clear hx381_1; try clear hx381_2; try clear hx381_3; try clear hx381_4; try clear hx382_0; try clear hx382_1; try clear hx382_2; try clear hx382_3; try clear hx382_4; try clear p375; try clear p379; try clear p380; try clear p381; try clear p382; try clear q375; try clear q379; try clear q380; try clear q381; try clear q382
    obtain ⟨x74_1, rfl, HA, HK1, HO_9, HO_10, HO_72, HB⟩ := hrel
    cases gk with
    | zero => exact absurd HA.out (by simp [impl_comparer_isGreater.l0])
    | succ k1 =>
     have H := HA.out
     clear HA
     simp only [impl_comparer_isGreater.l0] at H
     by_cases c28 : x74_1 < (t376.length : Int)
     ·rw [if_pos c28] at H
      have c28b0 : decide (x74_1 < (t376.length : Int)) = true := decide_eq_true c28
      clear c28
      obtain ⟨c29b0, H⟩ := ife H
      obtain ⟨c30b0, H⟩ := ife H
      obtain ⟨t387, A31, H⟩ := ob H
      try dsimp only at H
      by_cases c32 : t387 = true
      ·subst c32
       rw [if_pos rfl] at H
       obtain rfl := Option.some.inj H
       have p386 : 0 ≤ (x74_1 : Int) := od
       have q386 : x74_1 < (t376.length : Int) := od
       obtain ⟨ad386, e386, hx386_0⟩ := Kd.at_int (Kd.R_reads' HO_72.out).2.2 x74_1 p386 q386
       cases e386
       replace p386 := eq_true p386
       replace q386 := eq_true q386
       go_wp2_with (first | (refine gl (some 81) Tryz.func116 rfl #[.pointer (some ad358), .int .i64 (rd t376 x74_1), .int .i64 a2] ?_; refine (impl_comparer_same.calls k1 _ l0 (rd t376 x74_1) a2 true _ (cq (As6 HF0.out HB.out)) A31.out).mono ?_; rintro e w33 ⟨rfl, hb⟩; refine ⟨_, rfl, ?_⟩; replace HO_9 := rb HO_9 hb; replace HO_10 := rb HO_10 hb; replace HO_72 := rb HO_72 hb; replace HB := am (Ai8 (by repeat (first | (with_reducible first | exact HB.out | apply Ab8 | apply Ab9 | apply Ac0) | exact HB.out)) hb); (try clear hb); (try clear hk)))
       go_ret
       exact ⟨er, by repeat (first | (with_reducible first | exact HB.out | apply Ab8 | apply Ab9 | apply Ac0) | exact HB.out)⟩
      ·replace c32 := Bool.eq_false_iff.mpr c32
       subst c32
       rw [if_neg (show ¬ (false = true) by decide)] at H
       obtain ⟨t388, A34, H⟩ := ob H
       try dsimp only at H
       by_cases c35 : t388 = true
       ·subst c35
        rw [if_pos rfl] at H
        obtain rfl := Option.some.inj H
        have p386 : 0 ≤ (x74_1 : Int) := od
        have q386 : x74_1 < (t376.length : Int) := od
        obtain ⟨ad386, e386, hx386_0⟩ := Kd.at_int (Kd.R_reads' HO_72.out).2.2 x74_1 p386 q386
        cases e386
        replace p386 := eq_true p386
        replace q386 := eq_true q386
        go_wp2_with (first | (refine gl (some 81) Tryz.func116 rfl #[.pointer (some ad358), .int .i64 (rd t376 x74_1), .int .i64 a2] ?_; refine (impl_comparer_same.calls k1 _ l0 (rd t376 x74_1) a2 false _ (cq (As6 HF0.out HB.out)) A31.out).mono ?_; rintro e w36 ⟨rfl, hb⟩; refine ⟨_, rfl, ?_⟩; replace HO_9 := rb HO_9 hb; replace HO_10 := rb HO_10 hb; replace HO_72 := rb HO_72 hb; replace HB := am (Ai8 (by repeat (first | (with_reducible first | exact HB.out | apply Ab8 | apply Ab9 | apply Ac0) | exact HB.out)) hb); (try clear hb); (try clear hk)) | (go_at_call 88; refine (HG.out _ (rd t376 x74_1) a2 true (As9 HF0.out (by repeat (first | (with_reducible first | exact HB.out | apply Ab8 | apply Ab9 | apply Ac0) | exact HB.out))) (Bel.inv (by repeat (first | (with_reducible first | exact HB.out | apply Ab8 | apply Ab9 | apply Ac0) | exact HB.out))) A34.out).mono ?_; rintro e w37 ⟨rfl, hb⟩; replace HO_9 := am (An2 (rq HO_9.out) hb); replace HO_10 := am (An2 (rq HO_10.out) hb); replace HO_72 := am (An2 (rq HO_72.out) hb); replace HB := am (Ak9 (by repeat (first | (with_reducible first | exact HB.out | apply Ab8 | apply Ab9 | apply Ac0) | exact HB.out)) hb); (try clear hb); (try clear hk)))
        go_ret
        exact ⟨er, by repeat (first | (with_reducible first | exact HB.out | apply Ab8 | apply Ab9 | apply Ac0) | exact HB.out)⟩
       ·replace c35 := Bool.eq_false_iff.mpr c35
        subst c35
        rw [if_neg (show ¬ (false = true) by decide)] at H
        have H' := am H
        clear H
        have p386 : 0 ≤ (x74_1 : Int) := od
        have q386 : x74_1 < (t376.length : Int) := od
        obtain ⟨ad386, e386, hx386_0⟩ := Kd.at_int (Kd.R_reads' HO_72.out).2.2 x74_1 p386 q386
        cases e386
        replace p386 := eq_true p386
        replace q386 := eq_true q386
        go_wp2_with (first | (refine gl (some 81) Tryz.func116 rfl #[.pointer (some ad358), .int .i64 (rd t376 x74_1), .int .i64 a2] ?_; refine (impl_comparer_same.calls k1 _ l0 (rd t376 x74_1) a2 false _ (cq (As6 HF0.out HB.out)) A31.out).mono ?_; rintro e w38 ⟨rfl, hb⟩; refine ⟨_, rfl, ?_⟩; replace HO_9 := rb HO_9 hb; replace HO_10 := rb HO_10 hb; replace HO_72 := rb HO_72 hb; replace HB := am (Ai8 (by repeat (first | (with_reducible first | exact HB.out | apply Ab8 | apply Ab9 | apply Ac0) | exact HB.out)) hb); (try clear hb); (try clear hk)) | (go_at_call 88; refine (HG.out _ (rd t376 x74_1) a2 false (As9 HF0.out (by repeat (first | (with_reducible first | exact HB.out | apply Ab8 | apply Ab9 | apply Ac0) | exact HB.out))) (Bel.inv (by repeat (first | (with_reducible first | exact HB.out | apply Ab8 | apply Ab9 | apply Ac0) | exact HB.out))) A34.out).mono ?_; rintro e w39 ⟨rfl, hb⟩; replace HO_9 := am (An2 (rq HO_9.out) hb); replace HO_10 := am (An2 (rq HO_10.out) hb); replace HO_72 := am (An2 (rq HO_72.out) hb); replace HB := am (Ak9 (by repeat (first | (with_reducible first | exact HB.out | apply Ab8 | apply Ab9 | apply Ac0) | exact HB.out)) hb); (try clear hb); (try clear hk)))
        go_roundg k1
        case measure => have := HK1.out; omega
        case rel => exact ⟨(wrap64 (x74_1 + 1)), et, H', ⟨by have := HK1.out; omega⟩, ⟨rq HO_9.out⟩, ⟨rq HO_10.out⟩, ⟨rq HO_72.out⟩, ⟨by repeat (first | (with_reducible first | exact HB.out | apply Ab8 | apply Ab9 | apply Ac0) | exact HB.out)⟩⟩
     ·rw [if_neg c28] at H
      have c28b0 : decide (x74_1 < (t376.length : Int)) = false := decide_eq_false c28
      clear c28
      obtain ⟨c40, H⟩ := ifs H
      have c40b0 : decide (0 < (l0.length : Int)) = true := decide_eq_true c40
      have c40b1 : decide (0 < l0.length) = true := decide_eq_true (by omega)
      clear c40
      obtain ⟨t391, A41, H⟩ := ob H
      try dsimp only at H
      obtain ⟨t394, A42, H⟩ := ob H
      try dsimp only at H
      by_cases c43 : (wrap64 (t391 - t394)) < 0
      ·rw [if_pos c43] at H
       have c43b0 : decide ((wrap64 (t391 - t394)) < 0) = true := decide_eq_true c43
       clear c43
       obtain rfl := Option.some.inj H
       try go_wp2
       replace HO_9 := am (Kd.R_drew HO_9.out)
       replace HO_10 := am (Kd.R_drew HO_10.out)
       replace HO_72 := am (Kd.R_drew HO_72.out)
       replace HB := am (Ac0 HB.out)
       have p389 : 0 ≤ (0 : Int) := (by omega)
       have q389 : 0 < (l0.length : Int) := od
       obtain ⟨ad389, A389_0, c389_0, A389_1, c389_1, A389_2, c389_2, A389_3, c389_3, e389, hx389_0, hx389_1, hx389_2, hx389_3, hx389_4, hl389_0, hi389_0, hl389_1, hi389_1, hl389_2, hi389_2, hl389_3, hi389_3⟩ := Al5 HR0.out q389
       have hw389_4 := hx389_4
       have hw389_3 := hx389_3
       have hw389_2 := hx389_2
       have hw389_1 := hx389_1
       have hw389_0 := hx389_0
       obtain rfl : ad358 = ad389 := (by injection e389)
       have qi389 : (0 < l0.length) = True := eq_true (by omega)
       replace hx389_0 := bcB HB.out hx389_0
       replace hx389_1 := bcB HB.out hx389_1
       replace hx389_2 := bcB HB.out hx389_2
       replace hx389_3 := bcB HB.out hx389_3
       replace hx389_4 := bcB HB.out hx389_4
       have HR389_0 := am hi389_0
       have HC389_0 := am hl389_0
       clear hi389_0 hl389_0
       have HR389_1 := am hi389_1
       have HC389_1 := am hl389_1
       clear hi389_1 hl389_1
       have HR389_2 := am hi389_2
       have HC389_2 := am hl389_2
       clear hi389_2 hl389_2
       have HR389_3 := am hi389_3
       have HC389_3 := am hl389_3
       clear hi389_3 hl389_3
       replace p389 := eq_true p389
       replace q389 := eq_true q389
       have p390 : 0 ≤ (0 : Int) := (by omega)
       have q390 : 0 < (l0.length : Int) := od
       obtain ⟨ad390, A390_0, c390_0, A390_1, c390_1, A390_2, c390_2, A390_3, c390_3, e390, hx390_0, hx390_1, hx390_2, hx390_3, hx390_4, hl390_0, hi390_0, hl390_1, hi390_1, hl390_2, hi390_2, hl390_3, hi390_3⟩ := Al5 HR0.out q390
       have hw390_4 := hx390_4
       have hw390_3 := hx390_3
       have hw390_2 := hx390_2
       have hw390_1 := hx390_1
       have hw390_0 := hx390_0
       obtain rfl : ad358 = ad390 := (by injection e390)
       have qi390 : (0 < l0.length) = True := eq_true (by omega)
       replace hx390_0 := bcB HB.out hx390_0
       replace hx390_1 := bcB HB.out hx390_1
       replace hx390_2 := bcB HB.out hx390_2
       replace hx390_3 := bcB HB.out hx390_3
       replace hx390_4 := bcB HB.out hx390_4
       have HR390_0 := am hi390_0
       have HC390_0 := am hl390_0
       clear hi390_0 hl390_0
       have HR390_1 := am hi390_1
       have HC390_1 := am hl390_1
       clear hi390_1 hl390_1
       have HR390_2 := am hi390_2
       have HC390_2 := am hl390_2
       clear hi390_2 hl390_2
       have HR390_3 := am hi390_3
       have HC390_3 := am hl390_3
       clear hi390_3 hl390_3
       replace p390 := eq_true p390
       replace q390 := eq_true q390
       have ea_ := Option.some.inj (hx389_0.symm.trans hx390_0)
       injection ea_ with ea_ en_ ec_
       subst ea_
       subst ec_
       clear en_
       have ea_ := Option.some.inj (hx389_1.symm.trans hx390_1)
       injection ea_ with ea_ en_ ec_
       subst ea_
       subst ec_
       clear en_
       have ea_ := Option.some.inj (hx389_2.symm.trans hx390_2)
       injection ea_ with ea_ en_ ec_
       subst ea_
       subst ec_
       clear en_
       have ea_ := Option.some.inj (hx389_3.symm.trans hx390_3)
       injection ea_ with ea_ en_ ec_
       subst ea_
       subst ec_
       clear en_
       have p392 : 0 ≤ (0 : Int) := (by omega)
       have q392 : 0 < (l0.length : Int) := od
       obtain ⟨ad392, A392_0, c392_0, A392_1, c392_1, A392_2, c392_2, A392_3, c392_3, e392, hx392_0, hx392_1, hx392_2, hx392_3, hx392_4, hl392_0, hi392_0, hl392_1, hi392_1, hl392_2, hi392_2, hl392_3, hi392_3⟩ := Al5 HR0.out q392
       have hw392_4 := hx392_4
       have hw392_3 := hx392_3
       have hw392_2 := hx392_2
       have hw392_1 := hx392_1
       have hw392_0 := hx392_0
       obtain rfl : ad358 = ad392 := (by injection e392)
       have qi392 : (0 < l0.length) = True := eq_true (by omega)
       replace hx392_0 := bcB HB.out hx392_0
       replace hx392_1 := bcB HB.out hx392_1
       replace hx392_2 := bcB HB.out hx392_2
       replace hx392_3 := bcB HB.out hx392_3
       replace hx392_4 := bcB HB.out hx392_4
       have HR392_0 := am hi392_0
       have HC392_0 := am hl392_0
       clear hi392_0 hl392_0
       have HR392_1 := am hi392_1
       have HC392_1 := am hl392_1
       clear hi392_1 hl392_1
       have HR392_2 := am hi392_2
       have HC392_2 := am hl392_2
       clear hi392_2 hl392_2
       have HR392_3 := am hi392_3
       have HC392_3 := am hl392_3
       clear hi392_3 hl392_3
       replace p392 := eq_true p392
       replace q392 := eq_true q392
       have ea_ := Option.some.inj (hx389_0.symm.trans hx392_0)
       injection ea_ with ea_ en_ ec_
       subst ea_
       subst ec_
       clear en_
       have ea_ := Option.some.inj (hx389_1.symm.trans hx392_1)
       injection ea_ with ea_ en_ ec_
       subst ea_
       subst ec_
       clear en_
       have ea_ := Option.some.inj (hx389_2.symm.trans hx392_2)
       injection ea_ with ea_ en_ ec_
       subst ea_
       subst ec_
       clear en_
       have ea_ := Option.some.inj (hx389_3.symm.trans hx392_3)
       injection ea_ with ea_ en_ ec_
       subst ea_
       subst ec_
       clear en_
       have p393 : 0 ≤ (0 : Int) := (by omega)
       have q393 : 0 < (l0.length : Int) := od
       obtain ⟨ad393, A393_0, c393_0, A393_1, c393_1, A393_2, c393_2, A393_3, c393_3, e393, hx393_0, hx393_1, hx393_2, hx393_3, hx393_4, hl393_0, hi393_0, hl393_1, hi393_1, hl393_2, hi393_2, hl393_3, hi393_3⟩ := Al5 HR0.out q393
       have hw393_4 := hx393_4
       have hw393_3 := hx393_3
       have hw393_2 := hx393_2
       have hw393_1 := hx393_1
       have hw393_0 := hx393_0
       obtain rfl : ad358 = ad393 := (by injection e393)
       have qi393 : (0 < l0.length) = True := eq_true (by omega)
       replace hx393_0 := bcB HB.out hx393_0
       replace hx393_1 := bcB HB.out hx393_1
       replace hx393_2 := bcB HB.out hx393_2
       replace hx393_3 := bcB HB.out hx393_3
       replace hx393_4 := bcB HB.out hx393_4
       have HR393_0 := am hi393_0
       have HC393_0 := am hl393_0
       clear hi393_0 hl393_0
       have HR393_1 := am hi393_1
       have HC393_1 := am hl393_1
       clear hi393_1 hl393_1
       have HR393_2 := am hi393_2
       have HC393_2 := am hl393_2
       clear hi393_2 hl393_2
       have HR393_3 := am hi393_3
       have HC393_3 := am hl393_3
       clear hi393_3 hl393_3
       replace p393 := eq_true p393
       replace q393 := eq_true q393
       have ea_ := Option.some.inj (hx389_0.symm.trans hx393_0)
       injection ea_ with ea_ en_ ec_
       subst ea_
       subst ec_
       clear en_
       have ea_ := Option.some.inj (hx389_1.symm.trans hx393_1)
       injection ea_ with ea_ en_ ec_
       subst ea_
       subst ec_
       clear en_
       have ea_ := Option.some.inj (hx389_2.symm.trans hx393_2)
       injection ea_ with ea_ en_ ec_
       subst ea_
       subst ec_
       clear en_
       have ea_ := Option.some.inj (hx389_3.symm.trans hx393_3)
       injection ea_ with ea_ en_ ec_
       subst ea_
       subst ec_
       clear en_
       refine Ad5 (n := 14) (S := fun w' => w'.cell? ad358 = some (.slice A389_0 ((Aa2 l0 0).f0.f0).length c389_0) ∧ w'.cell? ⟨ad358.block, ad358.off + 1, none⟩ = some (.slice A389_1 ((Aa2 l0 0).f1).length c389_1) ∧ w'.cell? ⟨ad358.block, ad358.off + 2, none⟩ = some (.slice A389_2 ((Aa2 l0 0).f2).length c389_2) ∧ w'.cell? ⟨ad358.block, ad358.off + 3, none⟩ = some (.slice A389_3 ((Aa2 l0 0).f3).length c389_3) ∧ w'.cell? ⟨ad358.block, ad358.off + 4, none⟩ = some (.map (some ((Aa2 l0 0).f4).toNat)) ∧ w'.cell? ad358 = some (.slice A389_0 ((Aa2 l0 0).f0.f0).length c389_0) ∧ w'.cell? ⟨ad358.block, ad358.off + 1, none⟩ = some (.slice A389_1 ((Aa2 l0 0).f1).length c389_1) ∧ w'.cell? ⟨ad358.block, ad358.off + 2, none⟩ = some (.slice A389_2 ((Aa2 l0 0).f2).length c389_2) ∧ w'.cell? ⟨ad358.block, ad358.off + 3, none⟩ = some (.slice A389_3 ((Aa2 l0 0).f3).length c389_3) ∧ w'.cell? ⟨ad358.block, ad358.off + 4, none⟩ = some (.map (some ((Aa2 l0 0).f4).toNat)) ∧ w'.cell? ad358 = some (.slice A389_0 ((Aa2 l0 0).f0.f0).length c389_0) ∧ w'.cell? ⟨ad358.block, ad358.off + 1, none⟩ = some (.slice A389_1 ((Aa2 l0 0).f1).length c389_1) ∧ w'.cell? ⟨ad358.block, ad358.off + 2, none⟩ = some (.slice A389_2 ((Aa2 l0 0).f2).length c389_2) ∧ w'.cell? ⟨ad358.block, ad358.off + 3, none⟩ = some (.slice A389_3 ((Aa2 l0 0).f3).length c389_3) ∧ w'.cell? ⟨ad358.block, ad358.off + 4, none⟩ = some (.map (some ((Aa2 l0 0).f4).toNat)) ∧ w'.cell? ad358 = some (.slice A389_0 ((Aa2 l0 0).f0.f0).length c389_0) ∧ w'.cell? ⟨ad358.block, ad358.off + 1, none⟩ = some (.slice A389_1 ((Aa2 l0 0).f1).length c389_1) ∧ w'.cell? ⟨ad358.block, ad358.off + 2, none⟩ = some (.slice A389_2 ((Aa2 l0 0).f2).length c389_2) ∧ w'.cell? ⟨ad358.block, ad358.off + 3, none⟩ = some (.slice A389_3 ((Aa2 l0 0).f3).length c389_3) ∧ w'.cell? ⟨ad358.block, ad358.off + 4, none⟩ = some (.map (some ((Aa2 l0 0).f4).toNat))) (ds := []) #[false, false, false, false, false, false, false, false, false, false, false, false, false, false] (by kernel_rfl) rfl rfl ⟨(bcB HB.out hw389_0), (bcB HB.out hw389_1), (bcB HB.out hw389_2), (bcB HB.out hw389_3), (bcB HB.out hw389_4), (bcB HB.out hw390_0), (bcB HB.out hw390_1), (bcB HB.out hw390_2), (bcB HB.out hw390_3), (bcB HB.out hw390_4), (bcB HB.out hw392_0), (bcB HB.out hw392_1), (bcB HB.out hw392_2), (bcB HB.out hw392_3), (bcB HB.out hw392_4), (bcB HB.out hw393_0), (bcB HB.out hw393_1), (bcB HB.out hw393_2), (bcB HB.out hw393_3), (bcB HB.out hw393_4)⟩ (fun hHeld => ?_); refine Ac1 impl_comparer_isGreater.tab13 impl_comparer_isGreater.bits13 (fun HT_ HW_ => ?_)
       generalize wr.drew = w44 at HO_9 HO_10 HO_72 HB HR389_0 HR389_1 HR389_2 HR389_3 HR390_0 HR390_1 HR390_2 HR390_3 HR392_0 HR392_1 HR392_2 HR392_3 HR393_0 HR393_1 HR393_2 HR393_3 hx389_0 hx389_1 hx389_2 hx389_3 hx389_4 hx390_0 hx390_1 hx390_2 hx390_3 hx390_4 hx392_0 hx392_1 hx392_2 hx392_3 hx392_4 hx393_0 hx393_1 hx393_2 hx393_3 hx393_4 hHeld ⊢
       refine pu 0 89 rfl rfl HT_ ?_
       refine pu 1 90 rfl rfl HT_ ?_
       refine pu 2 91 rfl rfl HT_ ?_
       refine pu 4 93 rfl rfl HT_ ?_
       refine pu 6 95 rfl rfl HT_ ?_
       refine pu 7 96 rfl rfl HT_ ?_
       refine pu 8 97 rfl rfl HT_ ?_
       refine pu 10 99 rfl rfl HT_ ?_
       refine tk 3 92 rfl rfl HT_ HW_ hHeld ?_
       refine tk 9 98 rfl rfl HT_ HW_ hHeld ?_
       refine on_ 5 (some 94) rfl rfl HT_ (fun K hK => ?_)
       refine gs Tryz.func86 #[.slice A389_1 ((Aa2 l0 0).f1).length c389_1, .int .i64 (rd ((Aa2 l0 0).f2) a1)] ?_
       refine (slices_Index_int64_int64.calls k1 _ _ ((Aa2 l0 0).f1) (rd ((Aa2 l0 0).f2) a1) t391 _ (cq (Au7 HR390_1.out HB.out)) HC390_1.out A41.out).mono ?_
       rintro e w' ⟨rfl, ⟨nd, rfl⟩⟩
       refine ⟨_, rfl, ?_⟩
       refine hK.out _ _ ⟨(bcB HB.out hw389_0), (bcB HB.out hw389_1), (bcB HB.out hw389_2), (bcB HB.out hw389_3), (bcB HB.out hw389_4), (bcB HB.out hw390_0), (bcB HB.out hw390_1), (bcB HB.out hw390_2), (bcB HB.out hw390_3), (bcB HB.out hw390_4), (bcB HB.out hw392_0), (bcB HB.out hw392_1), (bcB HB.out hw392_2), (bcB HB.out hw392_3), (bcB HB.out hw392_4), (bcB HB.out hw393_0), (bcB HB.out hw393_1), (bcB HB.out hw393_2), (bcB HB.out hw393_3), (bcB HB.out hw393_4)⟩ (fun hHeld => ?_)
       clear hK K
       refine nr (some 94) ?_
       refine on_ 11 (some 100) rfl rfl HT_ (fun K hK => ?_)
       refine gs Tryz.func86 #[.slice A389_1 ((Aa2 l0 0).f1).length c389_1, .int .i64 (rd ((Aa2 l0 0).f3) a2)] ?_
       refine (slices_Index_int64_int64.calls k1 _ _ ((Aa2 l0 0).f1) (rd ((Aa2 l0 0).f3) a2) t394 _ (cq (Au7 HR393_1.out (by repeat (first | (with_reducible first | exact HB.out | apply Ab8 | apply Ab9 | apply Ac0) | exact HB.out)))) HC393_1.out A42.out).mono ?_
       rintro e w' ⟨rfl, ⟨nd, rfl⟩⟩
       refine ⟨_, rfl, ?_⟩
       refine hK.out _ _ ⟨(bcB HB.out hw389_0), (bcB HB.out hw389_1), (bcB HB.out hw389_2), (bcB HB.out hw389_3), (bcB HB.out hw389_4), (bcB HB.out hw390_0), (bcB HB.out hw390_1), (bcB HB.out hw390_2), (bcB HB.out hw390_3), (bcB HB.out hw390_4), (bcB HB.out hw392_0), (bcB HB.out hw392_1), (bcB HB.out hw392_2), (bcB HB.out hw392_3), (bcB HB.out hw392_4), (bcB HB.out hw393_0), (bcB HB.out hw393_1), (bcB HB.out hw393_2), (bcB HB.out hw393_3), (bcB HB.out hw393_4)⟩ (fun hHeld => ?_)
       clear hK K
       refine nr (some 100) ?_
       refine pu 12 101 rfl rfl HT_ ?_
       refine pu 13 13 rfl rfl HT_ ?_
       refine Ag1 (Ac8 HT_.out (by kernel_rfl)) ?_
       try go_wp2
       go_ret
       exact ⟨er, by repeat (first | (with_reducible first | exact HB.out | apply Ab8 | apply Ab9 | apply Ac0) | exact HB.out)⟩
      ·rw [if_neg c43] at H
       have c43b0 : decide ((wrap64 (t391 - t394)) < 0) = false := decide_eq_false c43
       clear c43
       have H' := am H
       clear H
       try go_wp2
       replace HO_9 := am (Kd.R_drew HO_9.out)
       replace HO_10 := am (Kd.R_drew HO_10.out)
       replace HO_72 := am (Kd.R_drew HO_72.out)
       replace HB := am (Ac0 HB.out)
       have p389 : 0 ≤ (0 : Int) := (by omega)
       have q389 : 0 < (l0.length : Int) := od
       obtain ⟨ad389, A389_0, c389_0, A389_1, c389_1, A389_2, c389_2, A389_3, c389_3, e389, hx389_0, hx389_1, hx389_2, hx389_3, hx389_4, hl389_0, hi389_0, hl389_1, hi389_1, hl389_2, hi389_2, hl389_3, hi389_3⟩ := Al5 HR0.out q389
       have hw389_4 := hx389_4
       have hw389_3 := hx389_3
       have hw389_2 := hx389_2
       have hw389_1 := hx389_1
       have hw389_0 := hx389_0
       obtain rfl : ad358 = ad389 := (by injection e389)
       have qi389 : (0 < l0.length) = True := eq_true (by omega)
       replace hx389_0 := bcB HB.out hx389_0
       replace hx389_1 := bcB HB.out hx389_1
       replace hx389_2 := bcB HB.out hx389_2
       replace hx389_3 := bcB HB.out hx389_3
       replace hx389_4 := bcB HB.out hx389_4
       have HR389_0 := am hi389_0
       have HC389_0 := am hl389_0
       clear hi389_0 hl389_0
       have HR389_1 := am hi389_1
       have HC389_1 := am hl389_1
       clear hi389_1 hl389_1
       have HR389_2 := am hi389_2
       have HC389_2 := am hl389_2
       clear hi389_2 hl389_2
       have HR389_3 := am hi389_3
       have HC389_3 := am hl389_3
       clear hi389_3 hl389_3
       replace p389 := eq_true p389
       replace q389 := eq_true q389
       have p390 : 0 ≤ (0 : Int) := (by omega)
       have q390 : 0 < (l0.length : Int) := od
       obtain ⟨ad390, A390_0, c390_0, A390_1, c390_1, A390_2, c390_2, A390_3, c390_3, e390, hx390_0, hx390_1, hx390_2, hx390_3, hx390_4, hl390_0, hi390_0, hl390_1, hi390_1, hl390_2, hi390_2, hl390_3, hi390_3⟩ := Al5 HR0.out q390
       have hw390_4 := hx390_4
       have hw390_3 := hx390_3
       have hw390_2 := hx390_2
       have hw390_1 := hx390_1
       have hw390_0 := hx390_0
       obtain rfl : ad358 = ad390 := (by injection e390)
       have qi390 : (0 < l0.length) = True := eq_true (by omega)
       replace hx390_0 := bcB HB.out hx390_0
       replace hx390_1 := bcB HB.out hx390_1
       replace hx390_2 := bcB HB.out hx390_2
       replace hx390_3 := bcB HB.out hx390_3
       replace hx390_4 := bcB HB.out hx390_4
       have HR390_0 := am hi390_0
       have HC390_0 := am hl390_0
       clear hi390_0 hl390_0
       have HR390_1 := am hi390_1
       have HC390_1 := am hl390_1
       clear hi390_1 hl390_1
       have HR390_2 := am hi390_2
       have HC390_2 := am hl390_2
       clear hi390_2 hl390_2
       have HR390_3 := am hi390_3
       have HC390_3 := am hl390_3
       clear hi390_3 hl390_3
       replace p390 := eq_true p390
       replace q390 := eq_true q390
       have ea_ := Option.some.inj (hx389_0.symm.trans hx390_0)
       injection ea_ with ea_ en_ ec_
       subst ea_
       subst ec_
       clear en_
       have ea_ := Option.some.inj (hx389_1.symm.trans hx390_1)
       injection ea_ with ea_ en_ ec_
       subst ea_
       subst ec_
       clear en_
       have ea_ := Option.some.inj (hx389_2.symm.trans hx390_2)
       injection ea_ with ea_ en_ ec_
       subst ea_
       subst ec_
       clear en_
       have ea_ := Option.some.inj (hx389_3.symm.trans hx390_3)
       injection ea_ with ea_ en_ ec_
       subst ea_
       subst ec_
       clear en_
       have p392 : 0 ≤ (0 : Int) := (by omega)
       have q392 : 0 < (l0.length : Int) := od
       obtain ⟨ad392, A392_0, c392_0, A392_1, c392_1, A392_2, c392_2, A392_3, c392_3, e392, hx392_0, hx392_1, hx392_2, hx392_3, hx392_4, hl392_0, hi392_0, hl392_1, hi392_1, hl392_2, hi392_2, hl392_3, hi392_3⟩ := Al5 HR0.out q392
       have hw392_4 := hx392_4
       have hw392_3 := hx392_3
       have hw392_2 := hx392_2
       have hw392_1 := hx392_1
       have hw392_0 := hx392_0
       obtain rfl : ad358 = ad392 := (by injection e392)
       have qi392 : (0 < l0.length) = True := eq_true (by omega)
       replace hx392_0 := bcB HB.out hx392_0
       replace hx392_1 := bcB HB.out hx392_1
       replace hx392_2 := bcB HB.out hx392_2
       replace hx392_3 := bcB HB.out hx392_3
       replace hx392_4 := bcB HB.out hx392_4
       have HR392_0 := am hi392_0
       have HC392_0 := am hl392_0
       clear hi392_0 hl392_0
       have HR392_1 := am hi392_1
       have HC392_1 := am hl392_1
       clear hi392_1 hl392_1
       have HR392_2 := am hi392_2
       have HC392_2 := am hl392_2
       clear hi392_2 hl392_2
       have HR392_3 := am hi392_3
       have HC392_3 := am hl392_3
       clear hi392_3 hl392_3
       replace p392 := eq_true p392
       replace q392 := eq_true q392
       have ea_ := Option.some.inj (hx389_0.symm.trans hx392_0)
       injection ea_ with ea_ en_ ec_
       subst ea_
       subst ec_
       clear en_
       have ea_ := Option.some.inj (hx389_1.symm.trans hx392_1)
       injection ea_ with ea_ en_ ec_
       subst ea_
       subst ec_
       clear en_
       have ea_ := Option.some.inj (hx389_2.symm.trans hx392_2)
       injection ea_ with ea_ en_ ec_
       subst ea_
       subst ec_
       clear en_
       have ea_ := Option.some.inj (hx389_3.symm.trans hx392_3)
       injection ea_ with ea_ en_ ec_
       subst ea_
       subst ec_
       clear en_
       have p393 : 0 ≤ (0 : Int) := (by omega)
       have q393 : 0 < (l0.length : Int) := od
       obtain ⟨ad393, A393_0, c393_0, A393_1, c393_1, A393_2, c393_2, A393_3, c393_3, e393, hx393_0, hx393_1, hx393_2, hx393_3, hx393_4, hl393_0, hi393_0, hl393_1, hi393_1, hl393_2, hi393_2, hl393_3, hi393_3⟩ := Al5 HR0.out q393
       have hw393_4 := hx393_4
       have hw393_3 := hx393_3
       have hw393_2 := hx393_2
       have hw393_1 := hx393_1
       have hw393_0 := hx393_0
       obtain rfl : ad358 = ad393 := (by injection e393)
       have qi393 : (0 < l0.length) = True := eq_true (by omega)
       replace hx393_0 := bcB HB.out hx393_0
       replace hx393_1 := bcB HB.out hx393_1
       replace hx393_2 := bcB HB.out hx393_2
       replace hx393_3 := bcB HB.out hx393_3
       replace hx393_4 := bcB HB.out hx393_4
       have HR393_0 := am hi393_0
       have HC393_0 := am hl393_0
       clear hi393_0 hl393_0
       have HR393_1 := am hi393_1
       have HC393_1 := am hl393_1
       clear hi393_1 hl393_1
       have HR393_2 := am hi393_2
       have HC393_2 := am hl393_2
       clear hi393_2 hl393_2
       have HR393_3 := am hi393_3
       have HC393_3 := am hl393_3
       clear hi393_3 hl393_3
       replace p393 := eq_true p393
       replace q393 := eq_true q393
       have ea_ := Option.some.inj (hx389_0.symm.trans hx393_0)
       injection ea_ with ea_ en_ ec_
       subst ea_
       subst ec_
       clear en_
       have ea_ := Option.some.inj (hx389_1.symm.trans hx393_1)
       injection ea_ with ea_ en_ ec_
       subst ea_
       subst ec_
       clear en_
       have ea_ := Option.some.inj (hx389_2.symm.trans hx393_2)
       injection ea_ with ea_ en_ ec_
       subst ea_
       subst ec_
       clear en_
       have ea_ := Option.some.inj (hx389_3.symm.trans hx393_3)
       injection ea_ with ea_ en_ ec_
       subst ea_
       subst ec_
       clear en_
       refine Ad5 (n := 14) (S := fun w' => w'.cell? ad358 = some (.slice A389_0 ((Aa2 l0 0).f0.f0).length c389_0) ∧ w'.cell? ⟨ad358.block, ad358.off + 1, none⟩ = some (.slice A389_1 ((Aa2 l0 0).f1).length c389_1) ∧ w'.cell? ⟨ad358.block, ad358.off + 2, none⟩ = some (.slice A389_2 ((Aa2 l0 0).f2).length c389_2) ∧ w'.cell? ⟨ad358.block, ad358.off + 3, none⟩ = some (.slice A389_3 ((Aa2 l0 0).f3).length c389_3) ∧ w'.cell? ⟨ad358.block, ad358.off + 4, none⟩ = some (.map (some ((Aa2 l0 0).f4).toNat)) ∧ w'.cell? ad358 = some (.slice A389_0 ((Aa2 l0 0).f0.f0).length c389_0) ∧ w'.cell? ⟨ad358.block, ad358.off + 1, none⟩ = some (.slice A389_1 ((Aa2 l0 0).f1).length c389_1) ∧ w'.cell? ⟨ad358.block, ad358.off + 2, none⟩ = some (.slice A389_2 ((Aa2 l0 0).f2).length c389_2) ∧ w'.cell? ⟨ad358.block, ad358.off + 3, none⟩ = some (.slice A389_3 ((Aa2 l0 0).f3).length c389_3) ∧ w'.cell? ⟨ad358.block, ad358.off + 4, none⟩ = some (.map (some ((Aa2 l0 0).f4).toNat)) ∧ w'.cell? ad358 = some (.slice A389_0 ((Aa2 l0 0).f0.f0).length c389_0) ∧ w'.cell? ⟨ad358.block, ad358.off + 1, none⟩ = some (.slice A389_1 ((Aa2 l0 0).f1).length c389_1) ∧ w'.cell? ⟨ad358.block, ad358.off + 2, none⟩ = some (.slice A389_2 ((Aa2 l0 0).f2).length c389_2) ∧ w'.cell? ⟨ad358.block, ad358.off + 3, none⟩ = some (.slice A389_3 ((Aa2 l0 0).f3).length c389_3) ∧ w'.cell? ⟨ad358.block, ad358.off + 4, none⟩ = some (.map (some ((Aa2 l0 0).f4).toNat)) ∧ w'.cell? ad358 = some (.slice A389_0 ((Aa2 l0 0).f0.f0).length c389_0) ∧ w'.cell? ⟨ad358.block, ad358.off + 1, none⟩ = some (.slice A389_1 ((Aa2 l0 0).f1).length c389_1) ∧ w'.cell? ⟨ad358.block, ad358.off + 2, none⟩ = some (.slice A389_2 ((Aa2 l0 0).f2).length c389_2) ∧ w'.cell? ⟨ad358.block, ad358.off + 3, none⟩ = some (.slice A389_3 ((Aa2 l0 0).f3).length c389_3) ∧ w'.cell? ⟨ad358.block, ad358.off + 4, none⟩ = some (.map (some ((Aa2 l0 0).f4).toNat))) (ds := []) #[false, false, false, false, false, false, false, false, false, false, false, false, false, false] (by kernel_rfl) rfl rfl ⟨(bcB HB.out hw389_0), (bcB HB.out hw389_1), (bcB HB.out hw389_2), (bcB HB.out hw389_3), (bcB HB.out hw389_4), (bcB HB.out hw390_0), (bcB HB.out hw390_1), (bcB HB.out hw390_2), (bcB HB.out hw390_3), (bcB HB.out hw390_4), (bcB HB.out hw392_0), (bcB HB.out hw392_1), (bcB HB.out hw392_2), (bcB HB.out hw392_3), (bcB HB.out hw392_4), (bcB HB.out hw393_0), (bcB HB.out hw393_1), (bcB HB.out hw393_2), (bcB HB.out hw393_3), (bcB HB.out hw393_4)⟩ (fun hHeld => ?_); refine Ac1 impl_comparer_isGreater.tab13 impl_comparer_isGreater.bits13 (fun HT_ HW_ => ?_)
       generalize wr.drew = w45 at HO_9 HO_10 HO_72 HB HR389_0 HR389_1 HR389_2 HR389_3 HR390_0 HR390_1 HR390_2 HR390_3 HR392_0 HR392_1 HR392_2 HR392_3 HR393_0 HR393_1 HR393_2 HR393_3 hx389_0 hx389_1 hx389_2 hx389_3 hx389_4 hx390_0 hx390_1 hx390_2 hx390_3 hx390_4 hx392_0 hx392_1 hx392_2 hx392_3 hx392_4 hx393_0 hx393_1 hx393_2 hx393_3 hx393_4 hHeld ⊢
       refine pu 0 89 rfl rfl HT_ ?_
       refine pu 1 90 rfl rfl HT_ ?_
       refine pu 2 91 rfl rfl HT_ ?_
       refine pu 4 93 rfl rfl HT_ ?_
       refine pu 6 95 rfl rfl HT_ ?_
       refine pu 7 96 rfl rfl HT_ ?_
       refine pu 8 97 rfl rfl HT_ ?_
       refine pu 10 99 rfl rfl HT_ ?_
       refine tk 3 92 rfl rfl HT_ HW_ hHeld ?_
       refine tk 9 98 rfl rfl HT_ HW_ hHeld ?_
       refine on_ 5 (some 94) rfl rfl HT_ (fun K hK => ?_)
       refine gs Tryz.func86 #[.slice A389_1 ((Aa2 l0 0).f1).length c389_1, .int .i64 (rd ((Aa2 l0 0).f2) a1)] ?_
       refine (slices_Index_int64_int64.calls k1 _ _ ((Aa2 l0 0).f1) (rd ((Aa2 l0 0).f2) a1) t391 _ (cq (Au7 HR390_1.out HB.out)) HC390_1.out A41.out).mono ?_
       rintro e w' ⟨rfl, ⟨nd, rfl⟩⟩
       refine ⟨_, rfl, ?_⟩
       refine hK.out _ _ ⟨(bcB HB.out hw389_0), (bcB HB.out hw389_1), (bcB HB.out hw389_2), (bcB HB.out hw389_3), (bcB HB.out hw389_4), (bcB HB.out hw390_0), (bcB HB.out hw390_1), (bcB HB.out hw390_2), (bcB HB.out hw390_3), (bcB HB.out hw390_4), (bcB HB.out hw392_0), (bcB HB.out hw392_1), (bcB HB.out hw392_2), (bcB HB.out hw392_3), (bcB HB.out hw392_4), (bcB HB.out hw393_0), (bcB HB.out hw393_1), (bcB HB.out hw393_2), (bcB HB.out hw393_3), (bcB HB.out hw393_4)⟩ (fun hHeld => ?_)
       clear hK K
       refine nr (some 94) ?_
       refine on_ 11 (some 100) rfl rfl HT_ (fun K hK => ?_)
       refine gs Tryz.func86 #[.slice A389_1 ((Aa2 l0 0).f1).length c389_1, .int .i64 (rd ((Aa2 l0 0).f3) a2)] ?_
       refine (slices_Index_int64_int64.calls k1 _ _ ((Aa2 l0 0).f1) (rd ((Aa2 l0 0).f3) a2) t394 _ (cq (Au7 HR393_1.out (by repeat (first | (with_reducible first | exact HB.out | apply Ab8 | apply Ab9 | apply Ac0) | exact HB.out)))) HC393_1.out A42.out).mono ?_
       rintro e w' ⟨rfl, ⟨nd, rfl⟩⟩
       refine ⟨_, rfl, ?_⟩
       refine hK.out _ _ ⟨(bcB HB.out hw389_0), (bcB HB.out hw389_1), (bcB HB.out hw389_2), (bcB HB.out hw389_3), (bcB HB.out hw389_4), (bcB HB.out hw390_0), (bcB HB.out hw390_1), (bcB HB.out hw390_2), (bcB HB.out hw390_3), (bcB HB.out hw390_4), (bcB HB.out hw392_0), (bcB HB.out hw392_1), (bcB HB.out hw392_2), (bcB HB.out hw392_3), (bcB HB.out hw392_4), (bcB HB.out hw393_0), (bcB HB.out hw393_1), (bcB HB.out hw393_2), (bcB HB.out hw393_3), (bcB HB.out hw393_4)⟩ (fun hHeld => ?_)
       clear hK K
       refine nr (some 100) ?_
       refine pu 12 101 rfl rfl HT_ ?_
       refine pu 13 13 rfl rfl HT_ ?_
       refine Ag1 (Ac8 HT_.out (by kernel_rfl)) ?_
       obtain ⟨Ao46, co46, eo46⟩ := Kd.R_slice HO_10.out
       subst eo46
       try go_wp2
       go_loopg [106] k1 (fun kq v106 w' => ∃ (x106_2 : Int), v106 = .int .i64 x106_2 ∧ Aside0 (impl_comparer_isGreater.l1 g kq l0 a1 t376 t383 (wrap64 (t391 - t394)) t383 (t383.length : Int) x106_2 = some r) ∧ Aside0 (kq ≤ k1) ∧ Aside0 (Kd.R (Kd.int .i64) 3 w' w.heap.size (fun k_ => some k_ ≠ ((.slice Ao46 t383.length co46) : Value).ownBlock ∧ some k_ ≠ ((.slice Ao46 t383.length co46) : Value).ownBlock) (.slice Ao27 t376.length co27) t376) ∧ Aside0 (Kd.R (Kd.int .i64) 3 w' w.heap.size (fun k_ => some k_ ≠ ((.slice Ao27 t376.length co27) : Value).ownBlock) (.slice Ao46 t383.length co46) t383) ∧ Aside0 (Kd.R (Kd.int .i64) 3 w' w.heap.size (fun k_ => some k_ ≠ ((.slice Ao27 t376.length co27) : Value).ownBlock) (.slice Ao46 t383.length co46) t383) ∧ Aside0 (Bel G mb w.heap.size w w'))
       case atStart => exact ⟨(0), et, H', ⟨Nat.le_refl _⟩, ⟨rq (Kd.R_mono HO_9.out (fun _ hk => ⟨hk, hk⟩))⟩, ⟨rq (Kd.R_mono HO_10.out (fun _ hk => hk.1))⟩, ⟨rq (Kd.R_mono HO_10.out (fun _ hk => hk.1))⟩, ⟨by repeat (first | (with_reducible first | exact HB.out | apply Ab8 | apply Ab9 | apply Ac0) | exact HB.out)⟩⟩
       case round =>
        clear H'
        try clear c4; try clear c43; try clear c43b0; try clear hx389_0; try clear hx389_1; try clear hx389_2; try clear hx389_3; try clear hx389_4; try clear hx390_0; try clear hx390_1; try clear hx390_2; try clear hx390_3; try clear hx390_4; try clear hx392_0; try clear hx392_1; try clear hx392_2; try clear hx392_3; try clear hx392_4; try clear hx393_0; try clear hx393_1; try clear hx393_2; try clear hx393_3; try clear hx393_4; try clear p389; try clear p390; try clear p392; try clear p393; try clear q389; try clear q390; try clear q392; try clear q393
        obtain ⟨x106_2, rfl, HA, HK2, HO_9, HO_10, HO_104, HB⟩ := hrel
        cases gk with
        | zero => exact absurd HA.out (by simp [impl_comparer_isGreater.l1])
        | succ k2 =>
         have H := HA.out
         clear HA
         simp only [impl_comparer_isGreater.l1] at H
         by_cases c47 : x106_2 < (t383.length : Int)
         ·rw [if_pos c47] at H
          have c47b0 : decide (x106_2 < (t383.length : Int)) = true := decide_eq_true c47
          clear c47
          obtain ⟨c48b0, H⟩ := ife H
          obtain ⟨c49b0, H⟩ := ife H
          obtain ⟨t396, A50, H⟩ := ob H
          try dsimp only at H
          by_cases c51 : t396 = true
          ·subst c51
           rw [if_pos rfl] at H
           have H' := am H
           clear H
           have p395 : 0 ≤ (x106_2 : Int) := od
           have q395 : x106_2 < (t383.length : Int) := od
           obtain ⟨ad395, e395, hx395_0⟩ := Kd.at_int (Kd.R_reads' HO_104.out).2.2 x106_2 p395 q395
           cases e395
           replace p395 := eq_true p395
           replace q395 := eq_true q395
           go_wp2_with (first | (refine gl (some 113) Tryz.func88 rfl #[.pointer (some ad358), .int .i64 a1, .int .i64 (rd t383 x106_2)] ?_; refine (HG.out _ a1 (rd t383 x106_2) true (As9 HF0.out (by repeat (first | (with_reducible first | exact HB.out | apply Ab8 | apply Ab9 | apply Ac0) | exact HB.out))) (Bel.inv (by repeat (first | (with_reducible first | exact HB.out | apply Ab8 | apply Ab9 | apply Ac0) | exact HB.out))) A50.out).mono ?_; rintro e w52 ⟨rfl, hb⟩; refine ⟨_, rfl, ?_⟩; replace HO_9 := am (An2 (rq HO_9.out) hb); replace HO_10 := am (An2 (rq HO_10.out) hb); replace HO_104 := am (An2 (rq HO_104.out) hb); replace HB := am (Ak9 (by repeat (first | (with_reducible first | exact HB.out | apply Ab8 | apply Ab9 | apply Ac0) | exact HB.out)) hb); (try clear hb); (try clear hk)))
           go_roundg k2
           case measure => have := HK1.out; have := HK2.out; omega
           case rel => exact ⟨(wrap64 (x106_2 + 1)), et, H', ⟨by have := HK1.out; have := HK2.out; omega⟩, ⟨rq HO_9.out⟩, ⟨rq HO_10.out⟩, ⟨rq HO_104.out⟩, ⟨by repeat (first | (with_reducible first | exact HB.out | apply Ab8 | apply Ab9 | apply Ac0) | exact HB.out)⟩⟩
          ·replace c51 := Bool.eq_false_iff.mpr c51
           subst c51
           rw [if_neg (show ¬ (false = true) by decide)] at H
           obtain rfl := Option.some.inj H
           have p395 : 0 ≤ (x106_2 : Int) := od
           have q395 : x106_2 < (t383.length : Int) := od
           obtain ⟨ad395, e395, hx395_0⟩ := Kd.at_int (Kd.R_reads' HO_104.out).2.2 x106_2 p395 q395
           cases e395
           replace p395 := eq_true p395
           replace q395 := eq_true q395
           go_wp2_with (first | (refine gl (some 113) Tryz.func88 rfl #[.pointer (some ad358), .int .i64 a1, .int .i64 (rd t383 x106_2)] ?_; refine (HG.out _ a1 (rd t383 x106_2) false (As9 HF0.out (by repeat (first | (with_reducible first | exact HB.out | apply Ab8 | apply Ab9 | apply Ac0) | exact HB.out))) (Bel.inv (by repeat (first | (with_reducible first | exact HB.out | apply Ab8 | apply Ab9 | apply Ac0) | exact HB.out))) A50.out).mono ?_; rintro e w53 ⟨rfl, hb⟩; refine ⟨_, rfl, ?_⟩; replace HO_9 := am (An2 (rq HO_9.out) hb); replace HO_10 := am (An2 (rq HO_10.out) hb); replace HO_104 := am (An2 (rq HO_104.out) hb); replace HB := am (Ak9 (by repeat (first | (with_reducible first | exact HB.out | apply Ab8 | apply Ab9 | apply Ac0) | exact HB.out)) hb); (try clear hb); (try clear hk)))
           go_ret
           exact ⟨er, by repeat (first | (with_reducible first | exact HB.out | apply Ab8 | apply Ab9 | apply Ac0) | exact HB.out)⟩
         ·rw [if_neg c47] at H
          have c47b0 : decide (x106_2 < (t383.length : Int)) = false := decide_eq_false c47
          clear c47
          by_cases c54 : (wrap64 (t391 - t394)) > 0
          ·rw [if_pos c54] at H
           have c54b0 : decide (0 < (wrap64 (t391 - t394))) = true := decide_eq_true c54
           clear c54
           obtain rfl := Option.some.inj H
           go_wp2
           go_ret
           exact ⟨er, by repeat (first | (with_reducible first | exact HB.out | apply Ab8 | apply Ab9 | apply Ac0) | exact HB.out)⟩
          ·rw [if_neg c54] at H
           have c54b0 : decide (0 < (wrap64 (t391 - t394))) = false := decide_eq_false c54
           clear c54
           have H' := am H
           clear H
           go_wp2
           go_loopg [120] k2 (fun kq v120 w' => ∃ (x120_3 : Int), v120 = .int .i64 x120_3 ∧ Aside0 (impl_comparer_isGreater.l2 g kq l0 t383 t376 (t376.length : Int) x120_3 = some r) ∧ Aside0 (kq ≤ k2) ∧ Aside0 (Kd.R (Kd.int .i64) 3 w' w.heap.size (fun k_ => some k_ ≠ ((.slice Ao27 t376.length co27) : Value).ownBlock) (.slice Ao46 t383.length co46) t383) ∧ Aside0 (Kd.R (Kd.int .i64) 3 w' w.heap.size (fun k_ => some k_ ≠ ((.slice Ao46 t383.length co46) : Value).ownBlock) (.slice Ao27 t376.length co27) t376) ∧ Aside0 (Bel G mb w.heap.size w w'))
           case atStart => exact ⟨(0), et, H', ⟨Nat.le_refl _⟩, ⟨rq HO_10.out⟩, ⟨rq (Kd.R_mono HO_9.out (fun _ hk => hk.1))⟩, ⟨by repeat (first | (with_reducible first | exact HB.out | apply Ab8 | apply Ab9 | apply Ac0) | exact HB.out)⟩⟩
           case round =>
            clear H'
            try clear c4; try clear c43; try clear c43b0; try clear c47; try clear c47b0; try clear c48b0; try clear c49b0; try clear c51; try clear c54; try clear c54b0; try clear hx389_0; try clear hx389_1; try clear hx389_2; try clear hx389_3; try clear hx389_4; try clear hx390_0; try clear hx390_1; try clear hx390_2; try clear hx390_3; try clear hx390_4; try clear hx392_0; try clear hx392_1; try clear hx392_2; try clear hx392_3; try clear hx392_4; try clear hx393_0; try clear hx393_1; try clear hx393_2; try clear hx393_3; try clear hx393_4; try clear hx395_0; try clear p389; try clear p390; try clear p392; try clear p393; try clear p395; try clear q389; try clear q390; try clear q392; try clear q393; try clear q395
            obtain ⟨x120_3, rfl, HA, HK3, HO_10, HO_118, HB⟩ := hrel
            cases gk with
            | zero => exact absurd HA.out (by simp [impl_comparer_isGreater.l2])
            | succ k3 =>
             have H := HA.out
             clear HA
             simp only [impl_comparer_isGreater.l2] at H
             by_cases c55 : x120_3 < (t376.length : Int)
             ·rw [if_pos c55] at H
              have c55b0 : decide (x120_3 < (t376.length : Int)) = true := decide_eq_true c55
              clear c55
              obtain ⟨c56b0, H⟩ := ife H
              obtain ⟨c57b0, H⟩ := ife H
              obtain ⟨c58b0, H⟩ := ife H
              obtain ⟨t399, A59, H⟩ := ob H
              try dsimp only at H
              by_cases c60 : t399 = true
              ·subst c60
               rw [if_pos rfl] at H
               have H' := am H
               clear H
               have p397 : 0 ≤ (x120_3 : Int) := od
               have q397 : x120_3 < (t376.length : Int) := od
               obtain ⟨ad397, e397, hx397_0⟩ := Kd.at_int (Kd.R_reads' HO_118.out).2.2 x120_3 p397 q397
               cases e397
               replace p397 := eq_true p397
               replace q397 := eq_true q397
               have p398 : 0 ≤ (x120_3 : Int) := od
               have q398 : x120_3 < (t383.length : Int) := od
               obtain ⟨ad398, e398, hx398_0⟩ := Kd.at_int (Kd.R_reads' HO_10.out).2.2 x120_3 p398 q398
               cases e398
               replace p398 := eq_true p398
               replace q398 := eq_true q398
               go_wp2_with (first | (refine gl (some 131) Tryz.func116 rfl #[.pointer (some ad358), .int .i64 (rd t376 x120_3), .int .i64 (rd t383 x120_3)] ?_; refine (impl_comparer_same.calls k3 _ l0 (rd t376 x120_3) (rd t383 x120_3) true _ (cq (As6 HF0.out HB.out)) A59.out).mono ?_; rintro e w61 ⟨rfl, hb⟩; refine ⟨_, rfl, ?_⟩; replace HO_10 := rb HO_10 hb; replace HO_118 := rb HO_118 hb; replace HB := am (Ai8 (by repeat (first | (with_reducible first | exact HB.out | apply Ab8 | apply Ab9 | apply Ac0) | exact HB.out)) hb); (try clear hb); (try clear hk)))
               go_roundg k3
               case measure => have := HK1.out; have := HK2.out; have := HK3.out; omega
               case rel => exact ⟨(wrap64 (x120_3 + 1)), et, H', ⟨by have := HK1.out; have := HK2.out; have := HK3.out; omega⟩, ⟨rq HO_10.out⟩, ⟨rq HO_118.out⟩, ⟨by repeat (first | (with_reducible first | exact HB.out | apply Ab8 | apply Ab9 | apply Ac0) | exact HB.out)⟩⟩
              ·replace c60 := Bool.eq_false_iff.mpr c60
               subst c60
               rw [if_neg (show ¬ (false = true) by decide)] at H
               obtain ⟨t401, A62, H⟩ := ob H
               try dsimp only at H
               obtain rfl := Option.some.inj H
               have p397 : 0 ≤ (x120_3 : Int) := od
               have q397 : x120_3 < (t376.length : Int) := od
               obtain ⟨ad397, e397, hx397_0⟩ := Kd.at_int (Kd.R_reads' HO_118.out).2.2 x120_3 p397 q397
               cases e397
               replace p397 := eq_true p397
               replace q397 := eq_true q397
               have p398 : 0 ≤ (x120_3 : Int) := od
               have q398 : x120_3 < (t383.length : Int) := od
               obtain ⟨ad398, e398, hx398_0⟩ := Kd.at_int (Kd.R_reads' HO_10.out).2.2 x120_3 p398 q398
               cases e398
               replace p398 := eq_true p398
               replace q398 := eq_true q398
               go_wp2_with (first | (refine gl (some 131) Tryz.func116 rfl #[.pointer (some ad358), .int .i64 (rd t376 x120_3), .int .i64 (rd t383 x120_3)] ?_; refine (impl_comparer_same.calls k3 _ l0 (rd t376 x120_3) (rd t383 x120_3) false _ (cq (As6 HF0.out HB.out)) A59.out).mono ?_; rintro e w63 ⟨rfl, hb⟩; refine ⟨_, rfl, ?_⟩; replace HO_10 := rb HO_10 hb; replace HO_118 := rb HO_118 hb; replace HB := am (Ai8 (by repeat (first | (with_reducible first | exact HB.out | apply Ab8 | apply Ab9 | apply Ac0) | exact HB.out)) hb); (try clear hb); (try clear hk); have p400 : 0 ≤ (x120_3 : Int) := od; have q400 : x120_3 < (t383.length : Int) := od; obtain ⟨ad400, e400, hx400_0⟩ := Kd.at_int (Kd.R_reads' HO_10.out).2.2 x120_3 p400 q400; obtain rfl : ad398 = ad400 := (by injection e400); replace p400 := eq_true p400; replace q400 := eq_true q400) | (refine gl (some 139) Tryz.func88 rfl #[.pointer (some ad358), .int .i64 (rd t376 x120_3), .int .i64 (rd t383 x120_3)] ?_; refine (HG.out _ (rd t376 x120_3) (rd t383 x120_3) t401 (As9 HF0.out (by repeat (first | (with_reducible first | exact HB.out | apply Ab8 | apply Ab9 | apply Ac0) | exact HB.out))) (Bel.inv (by repeat (first | (with_reducible first | exact HB.out | apply Ab8 | apply Ab9 | apply Ac0) | exact HB.out))) A62.out).mono ?_; rintro e w64 ⟨rfl, hb⟩; refine ⟨_, rfl, ?_⟩; replace HO_10 := am (An2 (rq HO_10.out) hb); replace HO_118 := am (An2 (rq HO_118.out) hb); replace HB := am (Ak9 (by repeat (first | (with_reducible first | exact HB.out | apply Ab8 | apply Ab9 | apply Ac0) | exact HB.out)) hb); (try clear hb); (try clear hk)))
               go_ret
               exact ⟨er, by repeat (first | (with_reducible first | exact HB.out | apply Ab8 | apply Ab9 | apply Ac0) | exact HB.out)⟩
             ·rw [if_neg c55] at H
              have c55b0 : decide (x120_3 < (t376.length : Int)) = false := decide_eq_false c55
              clear c55
              obtain rfl := Option.some.inj H
              go_wp2
              go_ret
              exact ⟨er, by repeat (first | (with_reducible first | exact HB.out | apply Ab8 | apply Ab9 | apply Ac0) | exact HB.out)⟩
set_option maxHeartbeats 8000000 in
set_option maxRecDepth 100000 in
theorem impl_comparer_greater.walk (G : Int → Int → Bool → Prop) (mb : Nat) (A0 : Option Addr) (l0 : List S114) (i j : Nat) (w : World) (hr0 : Kd.F Au8 w (fun k_ => k_ ≠ mb) A0 l0.length l0) (hl : 0 < l0.length) (hm : (Aa2 l0 0).f4.toNat = mb) (hI : Aj0 G mb w) (hi : i < 1000000) (hj : j < 1000000) (r : Bool)
  (hold : ∀ b, G i j b → b = r) (hnew : G i j r)
  (hcall : ∀ W : World, Kd.F Au8 W (fun k_ => k_ ≠ mb) A0 l0.length l0 → Aj0 G mb W → Calls Tryz.prog 100 #[.pointer A0, .int .i64 i, .int .i64 j] W fun e w' => e = .returned (.bool r) ∧ Bel G mb W.heap.size W w') :
  Calls Tryz.prog 88 #[.pointer A0, .int .i64 i, .int .i64 j] w fun e w' => e = .returned (.bool r) ∧ Bel G mb w.heap.size w w' := by
 have hu_ := Tryz.underlying122
 obtain ⟨ad_, _, _, _, _, _, _, _, _, eA, _, _, _, _, hc_, _, _, _, _, _, _, _, _⟩ := Ak1 (Kd.F_now hr0) 0 (by omega) (by omega)
 rw [show ((0 : Int)).toNat = 0 from rfl, show 0 * 5 = 0 from rfl, Addr.add_zero', hm] at hc_
 subst eA
 go_enter Tryz.func88, Tryz.ntmps88
 try go_wp2
 have hb_ : Below w.heap.size w (w.alloc (.cells #[.int .i64 i, .int .i64 j] 122)) := Ac5 (Below.refl _ _) _
 have hk_ : (w.alloc (.cells #[.int .i64 i, .int .i64 j] 122)).heap[w.heap.size]? = some (.cells #[.int .i64 i, .int .i64 j] 122 (0, 0)) := (Go.MapKept.heap_alloc w _).1
 generalize w.alloc (.cells #[.int .i64 i, .int .i64 j] 122) = W1_ at hb_ hk_ ⊢
 have hI1_ := hI.below hb_
 have hF1_ := As9 hr0 (Bel.of hI hb_)
 replace hc_ : W1_.drew.cell? ⟨ad_.block, ad_.off + 4, none⟩ = some (.map (some mb)) := ((hb_.cell (World.block_lt_of_cell? w ⟨ad_.block, ad_.off + 4, none⟩ hc_)).trans hc_)
 have hk0_ : W1_.drew.cell? ⟨w.heap.size, 0, none⟩ = some (.int .i64 i) := (Aa0 hk_ 0).trans rfl
 have hk1_ : W1_.drew.cell? ⟨w.heap.size, 1, none⟩ = some (.int .i64 j) := (Aa0 hk_ 1).trans rfl
 have hB1_ : Bel G mb w.heap.size w W1_.drew := Ac0 (Bel.of hI hb_)
 have hF1_ : Kd.F Au8 W1_.drew (fun k_ => k_ ≠ mb) (some ad_) l0.length l0 := As9 hr0 hB1_
 have hlt_ : w.heap.size < W1_.drew.heap.size := (Array.getElem?_eq_some_iff.1 hk_).1
 have hbt_ : ad_.block < W1_.drew.heap.size := World.block_lt_of_cell? W1_.drew ⟨ad_.block, ad_.off + 4, none⟩ hc_
 obtain ⟨es_, clock_, hm_, F_, hG_⟩ := hB1_.inv
 obtain ⟨kl_, hkl_⟩ := cmpKey_of i j hi hj
 rcases Go.Maps.fit_look true As0 Tryz.underlying112 (show (zeroValue 4).run Tryz.prog W1_.drew = .ok (.bool false) W1_.drew by kernel_rfl) hm_ F_ hkl_ with ⟨hrun_, hno_, _⟩ | ⟨e0_, _, hin_, hkey_, hrun_, _⟩
 ·replace hrun_ : (Instr.lookup 112 (.map (some mb)) (.agg #[.int .i64 i, .int .i64 j]) true).run Tryz.prog W1_.drew = .ok (.tuple #[.bool false, .bool false]) W1_.drew := hrun_
  clear hm_ F_ hG_ hno_
  refine Ad5 (n := 11) (S := fun w' => w'.cell? ⟨ad_.block, ad_.off + 4, none⟩ = some (.map (some mb)) ∧ w'.cell? ⟨w.heap.size, 0, none⟩ = some (.int .i64 i) ∧ w'.cell? ⟨w.heap.size, 1, none⟩ = some (.int .i64 j) ∧ (Instr.lookup 112 (.map (some mb)) (.agg #[.int .i64 i, .int .i64 j]) true).run Tryz.prog w' = .ok (.tuple #[.bool false, .bool false]) w') (ds := []) #[false, false, false, false, false, false, false, false, false, false, false] (by kernel_rfl) rfl rfl ⟨hc_, hk0_, hk1_, hrun_⟩ (fun hHeld => ?_)
  refine Ah8 (i := 0) (N := some 15) (v := ?_) (a' := ?_) #[true, false, false, false, false, false, false, false, false, false, false] rfl rfl (by kernel_rfl) (fun _ _ _ h => h) (Or.inl ⟨by rfl, ?_⟩) ?_ ?_
  rotate_left
  ·intro w'
   go_simp
   with_reducible rfl
  rotate_left
  ·simp only [Act.put, lsp, Ac9, Ad4]
   rfl
  refine Ah8 (i := 1) (N := some 16) (v := ?_) (a' := ?_) #[true, true, false, false, false, false, false, false, false, false, false] rfl rfl (by kernel_rfl) (fun _ _ _ h => h) (Or.inl ⟨by rfl, ?_⟩) ?_ ?_
  rotate_left
  ·intro w'
   go_simp
   with_reducible rfl
  rotate_left
  ·simp only [Act.put, lsp, Ac9, Ad4]
   rfl
  refine Ah8 (i := 2) (N := some 17) (v := ?_) (a' := ?_) #[true, true, true, false, false, false, false, false, false, false, false] rfl rfl (by kernel_rfl) (fun _ _ _ h => h) (Or.inl ⟨by rfl, ?_⟩) ?_ ?_
  rotate_left
  ·intro w'
   go_simp
   with_reducible rfl
  rotate_left
  ·simp only [Act.put, lsp, Ac9, Ad4]
   rfl
  refine take_ (i := 3) (N := some 18) (v := ?_) (a' := ?_) #[true, true, true, true, false, false, false, false, false, false, false] rfl rfl (by kernel_rfl) (fun _ _ _ h => h) (Or.inl ⟨by rfl, ?_⟩) hHeld ?_ ?_
  rotate_left
  ·rintro w' ⟨s0, s1, s2, s3⟩
   go_simp
   with_reducible rfl
  rotate_left
  ·simp only [Act.put, lsp, Ac9, Ad4]
   rfl
  refine take_ (i := 4) (N := some 19) (v := ?_) (a' := ?_) #[true, true, true, true, true, false, false, false, false, false, false] rfl rfl (by kernel_rfl) (fun _ _ _ h => h) (Or.inl ⟨by rfl, ?_⟩) hHeld ?_ ?_
  rotate_left
  ·rintro w' ⟨s0, s1, s2, s3⟩
   go_simp
   with_reducible rfl
  rotate_left
  ·simp only [Act.put, lsp, Ac9, Ad4]
   rfl
  refine take_ (i := 5) (N := some 20) (v := ?_) (a' := ?_) #[true, true, true, true, true, true, false, false, false, false, false] rfl rfl (by kernel_rfl) (fun _ _ _ h => h) (Or.inl ⟨by rfl, ?_⟩) hHeld ?_ ?_
  rotate_left
  ·rintro w' ⟨s0, s1, s2, s3⟩
   go_simp
   with_reducible rfl
  rotate_left
  ·simp only [Act.put, lsp, Ac9, Ad4]
   rfl
  refine Ah8 (i := 6) (N := some 14) (v := ?_) (a' := ?_) #[true, true, true, true, true, true, true, false, false, false, false] rfl rfl (by kernel_rfl) (fun _ _ _ h => h) (Or.inl ⟨by rfl, ?_⟩) ?_ ?_
  rotate_left
  ·intro w'
   go_simp
   with_reducible rfl
  rotate_left
  ·simp only [Act.put, lsp, Ac9, Ad4]
   rfl
  refine Ah8 (i := 7) (N := some 21) (v := ?_) (a' := ?_) #[true, true, true, true, true, true, true, true, false, false, false] rfl rfl (by kernel_rfl) (fun _ _ _ h => h) (Or.inl ⟨by rfl, ?_⟩) ?_ ?_
  rotate_left
  ·intro w'
   go_simp
   with_reducible rfl
  rotate_left
  ·simp only [Act.put, lsp, Ac9, Ad4]
   rfl
  refine Ah8 (i := 8) (N := some 22) (v := ?_) (a' := ?_) #[true, true, true, true, true, true, true, true, true, false, false] rfl rfl (by kernel_rfl) (fun _ _ _ h => h) (Or.inl ⟨by rfl, ?_⟩) ?_ ?_
  rotate_left
  ·intro w'
   go_simp
   with_reducible rfl
  rotate_left
  ·simp only [Act.put, lsp, Ac9, Ad4]
   rfl
  refine Ah8 (i := 9) (N := some 8) (v := ?_) (a' := ?_) #[true, true, true, true, true, true, true, true, true, true, false] rfl rfl (by kernel_rfl) (fun _ _ _ h => h) (Or.inl ⟨by rfl, ?_⟩) ?_ ?_
  rotate_left
  ·intro w'
   go_simp
   with_reducible rfl
  rotate_left
  ·simp only [Act.put, lsp, Ac9, Ad4]
   rfl
  refine Ah8 (i := 10) (N := some 9) (v := ?_) (a' := ?_) #[true, true, true, true, true, true, true, true, true, true, true] rfl rfl (by kernel_rfl) (fun _ _ _ h => h) (Or.inl ⟨by rfl, ?_⟩) ?_ ?_
  rotate_left
  ·intro w'
   go_simp
   with_reducible rfl
  rotate_left
  ·simp only [Act.put, lsp, Ac9, Ad4]
   rfl
  refine Ag1 (by kernel_rfl) ?_
  go_wp2_with (first | ((with_reducible refine Ai2 (f := 100) rfl ?_); refine Aq2 (some 28) rfl rfl Tryz.func100 (by kernel_rfl) rfl #[.pointer (some ad_), .int .i64 i, .int .i64 j] rfl (by (try simp only [List.map_toArray, List.map_cons, List.map_nil]); first | done | rfl) ?_; (refine (hcall _ hF1_ hB1_.inv).mono ?_); rintro e w2_ ⟨rfl, hb2_⟩; refine ⟨_, rfl, ?_⟩))
  replace hc_ : w2_.drew.cell? ⟨ad_.block, ad_.off + 4, none⟩ = some (.map (some mb)) := (hb2_.cell (p := ⟨ad_.block, ad_.off + 4, none⟩) hbt_).trans hc_
  replace hk0_ : w2_.drew.cell? ⟨w.heap.size, 0, none⟩ = some (.int .i64 i) := (hb2_.cell (p := ⟨w.heap.size, 0, none⟩) hlt_).trans hk0_
  replace hk1_ : w2_.drew.cell? ⟨w.heap.size, 1, none⟩ = some (.int .i64 j) := (hb2_.cell (p := ⟨w.heap.size, 1, none⟩) hlt_).trans hk1_
  have hB2_ : Bel G mb w.heap.size w w2_.drew := Ac0 (Ak9 hB1_ hb2_)
  obtain ⟨es_, clock_, hm_, hsz_⟩ := hB2_.inv.size
  obtain ⟨es1_, clock1_, hm1_, F_, hG_⟩ := hB2_.inv
  rw [hm_] at hm1_
  injection hm1_ with hm1_
  injection hm1_ with e1_ e2_
  subst e1_ e2_
  obtain ⟨es2_, clock2_, hrun_, F2_, _, _, _, hw_⟩ := Go.Maps.fit_store (R' := plainElem Tryz.prog 4) (yv := (.lit (.bool r), [])) As0 Tryz.underlying112 hm_ F_ (by simp only [maxLen]; omega) (fun _ _ _ _ hz => hz) hkl_ (plainElem_bool Tryz.underlying4 r)
  replace hrun_ : (Instr.mapUpdate 112 (.map (some mb)) (.agg #[.int .i64 i, .int .i64 j]) (.bool r)).run Tryz.prog w2_.drew = .ok () (Go.ChangeMaps.setBlock w2_.drew mb (.map es2_ clock2_)) := hrun_
  have hB3_ : Bel G mb w.heap.size w (Go.ChangeMaps.setBlock w2_.drew mb (.map es2_ clock2_)) :=
   ⟨hB2_.os, hB2_.tape, hB2_.output, by simp [Go.ChangeMaps.setBlock]; exact hB2_.size, fun k_ hk_ hne_ => (Go.ChangeMaps.heap_setBlock_other hm_ _ (fun e_ => hne_ e_)).trans (hB2_.block k_ hk_ hne_), hI,
    ⟨es2_, clock2_, Go.ChangeMaps.heap_setBlock_same hm_ _, F2_, fun x_ hx_ => by
     rcases hw_ x_ hx_ with ⟨hx1_, _⟩ | ⟨hx1_, hx2_⟩
     ·exact hG_ x_ hx1_
     ·exact ⟨i, j, r, hi, hj, hx1_, hx2_, hnew⟩⟩⟩
  generalize Go.ChangeMaps.setBlock w2_.drew mb (.map es2_ clock2_) = w3_ at hrun_ hB3_
  refine Ad5 (n := 7) (S := fun w' => w'.cell? ⟨ad_.block, ad_.off + 4, none⟩ = some (.map (some mb)) ∧ w'.cell? ⟨w.heap.size, 0, none⟩ = some (.int .i64 i) ∧ w'.cell? ⟨w.heap.size, 1, none⟩ = some (.int .i64 j)) (ds := [6]) #[false, false, false, false, false, false, false] (by kernel_rfl) rfl rfl ⟨hc_, hk0_, hk1_⟩ (fun hHeld => ?_)
  refine Ah8 (i := 0) (N := some 29) (v := ?_) (a' := ?_) #[true, false, false, false, false, false, false] rfl rfl (by kernel_rfl) (fun _ _ _ h => h) (Or.inl ⟨by rfl, ?_⟩) ?_ ?_
  rotate_left
  ·intro w'
   go_simp
   with_reducible rfl
  rotate_left
  ·simp only [Act.put, lsp, Ac9, Ad4]
   rfl
  refine Ah8 (i := 1) (N := some 30) (v := ?_) (a' := ?_) #[true, true, false, false, false, false, false] rfl rfl (by kernel_rfl) (fun _ _ _ h => h) (Or.inl ⟨by rfl, ?_⟩) ?_ ?_
  rotate_left
  ·intro w'
   go_simp
   with_reducible rfl
  rotate_left
  ·simp only [Act.put, lsp, Ac9, Ad4]
   rfl
  refine Ah8 (i := 2) (N := some 31) (v := ?_) (a' := ?_) #[true, true, true, false, false, false, false] rfl rfl (by kernel_rfl) (fun _ _ _ h => h) (Or.inl ⟨by rfl, ?_⟩) ?_ ?_
  rotate_left
  ·intro w'
   go_simp
   with_reducible rfl
  rotate_left
  ·simp only [Act.put, lsp, Ac9, Ad4]
   rfl
  refine Ah8 (i := 5) (N := some 34) (v := ?_) (a' := ?_) #[true, true, true, false, false, true, false] rfl rfl (by kernel_rfl) (fun _ _ _ h => h) (Or.inl ⟨by rfl, ?_⟩) ?_ ?_
  rotate_left
  ·intro w'
   go_simp
   with_reducible rfl
  rotate_left
  ·simp only [Act.put, lsp, Ac9, Ad4]
   rfl
  refine take_ (i := 3) (N := some 32) (v := ?_) (a' := ?_) #[true, true, true, true, false, true, false] rfl rfl (by kernel_rfl) (fun _ _ _ h => h) (Or.inl ⟨by rfl, ?_⟩) hHeld ?_ ?_
  rotate_left
  ·rintro w' ⟨s0, s1, s2⟩
   go_simp
   with_reducible rfl
  rotate_left
  ·simp only [Act.put, lsp, Ac9, Ad4]
   rfl
  refine take_ (i := 4) (N := some 33) (v := ?_) (a' := ?_) #[true, true, true, true, true, true, false] rfl rfl (by kernel_rfl) (fun _ _ _ h => h) (Or.inl ⟨by rfl, ?_⟩) hHeld ?_ ?_
  rotate_left
  ·rintro w' ⟨s0, s1, s2⟩
   go_simp
   with_reducible rfl
  rotate_left
  ·simp only [Act.put, lsp, Ac9, Ad4]
   rfl
  refine last_ (i := 6) (N := none) #[true, true, true, true, true, true, true] rfl rfl (by kernel_rfl) (by decide) (fun K hK => ?_)
  refine Au9 (w1 := w3_) (by rfl) rfl ?_ ?_
  ·go_simp
  refine hK.out _ _ ?_
  clear hK K
  refine Ag1 (by kernel_rfl) ?_
  try go_wp2
  go_ret
  exact ⟨et, hB3_⟩
 ·obtain ⟨i_, j_, b_, _, _, hk2_, hv_, hg_⟩ := hG_ e0_ hin_
  rw [hkey_] at hk2_
  obtain ⟨rfl, rfl⟩ := cmpKey_inj hk2_
  have hbr_ := hold b_ hg_
  subst hbr_
  replace hrun_ : (Instr.lookup 112 (.map (some mb)) (.agg #[.int .i64 i, .int .i64 j]) true).run Tryz.prog W1_.drew = .ok (.tuple #[.bool b_, .bool true]) W1_.drew := by rw [hv_] at hrun_; exact hrun_
  clear hm_ F_ hG_ hin_
  refine Ad5 (n := 11) (S := fun w' => w'.cell? ⟨ad_.block, ad_.off + 4, none⟩ = some (.map (some mb)) ∧ w'.cell? ⟨w.heap.size, 0, none⟩ = some (.int .i64 i) ∧ w'.cell? ⟨w.heap.size, 1, none⟩ = some (.int .i64 j) ∧ (Instr.lookup 112 (.map (some mb)) (.agg #[.int .i64 i, .int .i64 j]) true).run Tryz.prog w' = .ok (.tuple #[.bool b_, .bool true]) w') (ds := []) #[false, false, false, false, false, false, false, false, false, false, false] (by kernel_rfl) rfl rfl ⟨hc_, hk0_, hk1_, hrun_⟩ (fun hHeld => ?_)
  refine Ah8 (i := 0) (N := some 15) (v := ?_) (a' := ?_) #[true, false, false, false, false, false, false, false, false, false, false] rfl rfl (by kernel_rfl) (fun _ _ _ h => h) (Or.inl ⟨by rfl, ?_⟩) ?_ ?_
  rotate_left
  ·intro w'
   go_simp
   with_reducible rfl
  rotate_left
  ·simp only [Act.put, lsp, Ac9, Ad4]
   rfl
  refine Ah8 (i := 1) (N := some 16) (v := ?_) (a' := ?_) #[true, true, false, false, false, false, false, false, false, false, false] rfl rfl (by kernel_rfl) (fun _ _ _ h => h) (Or.inl ⟨by rfl, ?_⟩) ?_ ?_
  rotate_left
  ·intro w'
   go_simp
   with_reducible rfl
  rotate_left
  ·simp only [Act.put, lsp, Ac9, Ad4]
   rfl
  refine Ah8 (i := 2) (N := some 17) (v := ?_) (a' := ?_) #[true, true, true, false, false, false, false, false, false, false, false] rfl rfl (by kernel_rfl) (fun _ _ _ h => h) (Or.inl ⟨by rfl, ?_⟩) ?_ ?_
  rotate_left
  ·intro w'
   go_simp
   with_reducible rfl
  rotate_left
  ·simp only [Act.put, lsp, Ac9, Ad4]
   rfl
  refine take_ (i := 3) (N := some 18) (v := ?_) (a' := ?_) #[true, true, true, true, false, false, false, false, false, false, false] rfl rfl (by kernel_rfl) (fun _ _ _ h => h) (Or.inl ⟨by rfl, ?_⟩) hHeld ?_ ?_
  rotate_left
  ·rintro w' ⟨s0, s1, s2, s3⟩
   go_simp
   with_reducible rfl
  rotate_left
  ·simp only [Act.put, lsp, Ac9, Ad4]
   rfl
  refine take_ (i := 4) (N := some 19) (v := ?_) (a' := ?_) #[true, true, true, true, true, false, false, false, false, false, false] rfl rfl (by kernel_rfl) (fun _ _ _ h => h) (Or.inl ⟨by rfl, ?_⟩) hHeld ?_ ?_
  rotate_left
  ·rintro w' ⟨s0, s1, s2, s3⟩
   go_simp
   with_reducible rfl
  rotate_left
  ·simp only [Act.put, lsp, Ac9, Ad4]
   rfl
  refine take_ (i := 5) (N := some 20) (v := ?_) (a' := ?_) #[true, true, true, true, true, true, false, false, false, false, false] rfl rfl (by kernel_rfl) (fun _ _ _ h => h) (Or.inl ⟨by rfl, ?_⟩) hHeld ?_ ?_
  rotate_left
  ·rintro w' ⟨s0, s1, s2, s3⟩
   go_simp
   with_reducible rfl
  rotate_left
  ·simp only [Act.put, lsp, Ac9, Ad4]
   rfl
  refine Ah8 (i := 6) (N := some 14) (v := ?_) (a' := ?_) #[true, true, true, true, true, true, true, false, false, false, false] rfl rfl (by kernel_rfl) (fun _ _ _ h => h) (Or.inl ⟨by rfl, ?_⟩) ?_ ?_
  rotate_left
  ·intro w'
   go_simp
   with_reducible rfl
  rotate_left
  ·simp only [Act.put, lsp, Ac9, Ad4]
   rfl
  refine Ah8 (i := 7) (N := some 21) (v := ?_) (a' := ?_) #[true, true, true, true, true, true, true, true, false, false, false] rfl rfl (by kernel_rfl) (fun _ _ _ h => h) (Or.inl ⟨by rfl, ?_⟩) ?_ ?_
  rotate_left
  ·intro w'
   go_simp
   with_reducible rfl
  rotate_left
  ·simp only [Act.put, lsp, Ac9, Ad4]
   rfl
  refine Ah8 (i := 8) (N := some 22) (v := ?_) (a' := ?_) #[true, true, true, true, true, true, true, true, true, false, false] rfl rfl (by kernel_rfl) (fun _ _ _ h => h) (Or.inl ⟨by rfl, ?_⟩) ?_ ?_
  rotate_left
  ·intro w'
   go_simp
   with_reducible rfl
  rotate_left
  ·simp only [Act.put, lsp, Ac9, Ad4]
   rfl
  refine Ah8 (i := 9) (N := some 8) (v := ?_) (a' := ?_) #[true, true, true, true, true, true, true, true, true, true, false] rfl rfl (by kernel_rfl) (fun _ _ _ h => h) (Or.inl ⟨by rfl, ?_⟩) ?_ ?_
  rotate_left
  ·intro w'
   go_simp
   with_reducible rfl
  rotate_left
  ·simp only [Act.put, lsp, Ac9, Ad4]
   rfl
  refine Ah8 (i := 10) (N := some 9) (v := ?_) (a' := ?_) #[true, true, true, true, true, true, true, true, true, true, true] rfl rfl (by kernel_rfl) (fun _ _ _ h => h) (Or.inl ⟨by rfl, ?_⟩) ?_ ?_
  rotate_left
  ·intro w'
   go_simp
   with_reducible rfl
  rotate_left
  ·simp only [Act.put, lsp, Ac9, Ad4]
   rfl
  refine Ag1 (by kernel_rfl) ?_
  try go_wp2
  go_ret
  exact ⟨et, hB1_⟩
theorem cmp_told {w W : World} {g : Nat} (A0 : Option Addr) (c0 : Nat) (ls : List S79) (A1 : Option Addr) (c1 : Nat) (lo : List Int) (A2 : Option Addr) (c2 : Nat) (la : List Int) (A3 : Option Addr) (c3 : Nat) (lb : List Int) (mb : Nat)
  (hr0 : Kd.C k79 w A0 ls.length ls) (hc0 : ls.length ≤ c0) (hr1 : Kd.C (Kd.int .i64) w A1 lo.length lo) (hc1 : lo.length ≤ c1) (hr2 : Kd.C (Kd.int .i64) w A2 la.length la) (hc2 : la.length ≤ c2) (hr3 : Kd.C (Kd.int .i64) w A3 lb.length lb) (hc3 : lb.length ≤ c3)
  (hb : Below w.heap.size w W) (hw : w.heap.size ≤ mb) (hne : g ≠ mb) (hg : W.heap[g]? = some (.cells #[.slice A0 ls.length c0, .slice A1 lo.length c1, .slice A2 la.length c2, .slice A3 lb.length c3, .map (some mb)] 114 (0, 0))) :
  Kd.F Au8 W (fun k_ => k_ ≠ mb) (some ⟨g, 0, none⟩) [(⟨⟨ls⟩, lo, la, lb, (mb : Int)⟩ : S114)].length [(⟨⟨ls⟩, lo, la, lb, (mb : Int)⟩ : S114)] := by
 intro W' hW
 have hlt := Ao3 hg
 have hg' := (hW g hne hlt).trans hg
 have old : ∀ k, k < w.heap.size → W'.heap[k]? = w.heap[k]? := fun k hk => (hW k (by omega) (Nat.lt_of_lt_of_le hk hb.size)).trans (hb.block k hk)
 have g0 : Kd.C k79 W' A0 ls.length ls := Kd.C_F k79_heap hr0 W' (fun k hk _ => old k hk)
 have g1 : Kd.C (Kd.int .i64) W' A1 lo.length lo := Kd.C_F (Kd.heap_int .i64) hr1 W' (fun k hk _ => old k hk)
 have g2 : Kd.C (Kd.int .i64) W' A2 la.length la := Kd.C_F (Kd.heap_int .i64) hr2 W' (fun k hk _ => old k hk)
 have g3 : Kd.C (Kd.int .i64) W' A3 lb.length lb := Kd.C_F (Kd.heap_int .i64) hr3 W' (fun k hk _ => old k hk)
 have hK := k114_mk W' (⟨⟨ls⟩, lo, la, lb, (mb : Int)⟩ : S114) hc0 g0 hc1 g1 hc2 g2 hc3 g3
 refine ⟨rfl, by simp, fun _ => ⟨⟨g, 0, none⟩, rfl, fun j p hj => ?_⟩⟩
 cases j with
 | succ j => simp at hj
 | zero =>
  simp only [List.getElem?_cons_zero, Option.some.injEq] at hj
  subst hj
  refine ⟨_, rfl, hK, fun i u hu => ?_⟩
  have hc := Aa0 hg' i
  have ha : ((⟨g, 0, none⟩ : Addr).add (0 * Au8.sz + i)) = ⟨g, i, none⟩ := by simp [Addr.add]; omega
  rw [ha, hc, ← hu]
  simp
set_option maxHeartbeats 8000000 in
set_option maxRecDepth 100000 in
theorem impl_isGreater.walk (A0 : Option Addr) (c0 : Nat) (ls : List S79) (A1 : Option Addr) (c1 : Nat) (lo : List Int) (A2 : Option Addr) (c2 : Nat) (la : List Int) (A3 : Option Addr) (c3 : Nat) (lb : List Int) (r : Bool) (w : World)
  (hr0 : Kd.C k79 w A0 ls.length ls) (hc0 : ls.length ≤ c0) (hr1 : Kd.C (Kd.int .i64) w A1 lo.length lo) (hc1 : lo.length ≤ c1) (hr2 : Kd.C (Kd.int .i64) w A2 la.length la) (hc2 : la.length ≤ c2) (hr3 : Kd.C (Kd.int .i64) w A3 lb.length lb) (hc3 : lb.length ≤ c3)
  (G : Int → Int → Bool → Prop)
  (hcall : ∀ (W : World) (g : Nat), Kd.F Au8 W (fun k_ => k_ ≠ w.heap.size + 1) (some ⟨g, 0, none⟩) [(⟨⟨ls⟩, lo, la, lb, ((w.heap.size + 1 : Nat) : Int)⟩ : S114)].length [(⟨⟨ls⟩, lo, la, lb, ((w.heap.size + 1 : Nat) : Int)⟩ : S114)] → Aj0 G (w.heap.size + 1) W →
   Calls Tryz.prog 88 #[.pointer (some ⟨g, 0, none⟩), .int .i64 0, .int .i64 0] W fun e w' => e = .returned (.bool r) ∧ Bel G (w.heap.size + 1) W.heap.size W w') :
  Calls Tryz.prog 62 #[.agg #[.slice A0 ls.length c0], .slice A1 lo.length c1, .slice A2 la.length c2, .slice A3 lb.length c3] w fun e w' => e = .returned (.bool r) ∧ Below w.heap.size w w' := by
 have hu_ := Tryz.underlying36
 have hmk_ : ∀ w_ : World, (Instr.makeMap 112 none).run Tryz.prog w_ = .ok (.map (some w_.heap.size)) (w_.alloc (.map #[] 0)) := fun _ => rfl
 have hb_ : Below w.heap.size w (((w.alloc (.cells #[.slice A0 ls.length c0] 36)).alloc (.map #[] 0)).alloc (.cells #[.slice A0 ls.length c0, .slice A1 lo.length c1, .slice A2 la.length c2, .slice A3 lb.length c3, .map (some (w.heap.size + 1))] 114)) :=
  Ac5 (Ac5 (Ac5 (Below.refl _ _) _) _) _
 have hm_ : ((w.alloc (.cells #[.slice A0 ls.length c0] 36)).alloc (.map #[] 0)).heap[w.heap.size + 1]? = some (.map #[] 0) := by
  have := (Go.MapKept.heap_alloc (w.alloc (.cells #[.slice A0 ls.length c0] 36)) (.map #[] 0)).1
  simpa using this
 have hm2_ := (Go.MapKept.heap_alloc ((w.alloc (.cells #[.slice A0 ls.length c0] 36)).alloc (.map #[] 0)) (.cells #[.slice A0 ls.length c0, .slice A1 lo.length c1, .slice A2 la.length c2, .slice A3 lb.length c3, .map (some (w.heap.size + 1))] 114)).2 (w.heap.size + 1) (by simp)
 have hg_ : (((w.alloc (.cells #[.slice A0 ls.length c0] 36)).alloc (.map #[] 0)).alloc (.cells #[.slice A0 ls.length c0, .slice A1 lo.length c1, .slice A2 la.length c2, .slice A3 lb.length c3, .map (some (w.heap.size + 1))] 114)).heap[w.heap.size + 1 + 1]? = some (.cells #[.slice A0 ls.length c0, .slice A1 lo.length c1, .slice A2 la.length c2, .slice A3 lb.length c3, .map (some (w.heap.size + 1))] 114 (0, 0)) := by
  have := (Go.MapKept.heap_alloc ((w.alloc (.cells #[.slice A0 ls.length c0] 36)).alloc (.map #[] 0)) (.cells #[.slice A0 ls.length c0, .slice A1 lo.length c1, .slice A2 la.length c2, .slice A3 lb.length c3, .map (some (w.heap.size + 1))] 114)).1
  simpa using this
 replace hm2_ := hm2_.trans hm_
 have hI_ : Aj0 G (w.heap.size + 1) (((w.alloc (.cells #[.slice A0 ls.length c0] 36)).alloc (.map #[] 0)).alloc (.cells #[.slice A0 ls.length c0, .slice A1 lo.length c1, .slice A2 la.length c2, .slice A3 lb.length c3, .map (some (w.heap.size + 1))] 114)) :=
  ⟨#[], 0, hm2_, ⟨by simp, Go.MapKept.stamped_empty 0, by simp⟩, by simp⟩
 have hF_ := cmp_told A0 c0 ls A1 c1 lo A2 c2 la A3 c3 lb (w.heap.size + 1) hr0 hc0 hr1 hc1 hr2 hc2 hr3 hc3 hb_ (by omega) (by omega) hg_
 have hcall_ := hcall _ _ hF_ hI_
 clear hF_ hm2_ hm_
 go_enter Tryz.func62, Tryz.ntmps62
 go_wp2_with (first | ((with_reducible refine Ai2 (f := 88) rfl ?_); refine Aq2 (some 18) rfl rfl Tryz.func88 (by kernel_rfl) rfl #[.pointer (some ⟨w.heap.size + 1 + 1, 0, none⟩), .int .i64 0, .int .i64 0] rfl (by (try simp only [List.map_toArray, List.map_cons, List.map_nil]); first | done | rfl) ?_; (refine hcall_.mono ?_); rintro e w2_ ⟨rfl, hb2_⟩; refine ⟨_, rfl, ?_⟩))
 go_ret
 exact ⟨et, ⟨hb2_.os.trans hb_.os, hb2_.tape.trans hb_.tape, hb2_.output.trans hb_.output, Nat.le_trans hb_.size hb2_.size, fun k_ hk_ => (hb2_.block k_ (Nat.lt_of_lt_of_le hk_ hb_.size) (by omega)).trans (hb_.block k_ hk_)⟩⟩
def impl_comparer_greater.f : Nat → List S114 → Int → Int → Option Bool
 | 0, _, _, _ => none
 | k + 1, l, i, j => if 0 ≤ i ∧ i < 1000000 ∧ 0 ≤ j ∧ j < 1000000 then impl_comparer_isGreater.f (fun p q => impl_comparer_greater.f k l p q) k l i j else none
theorem impl_comparer_greater.f_succ (k : Nat) (l : List S114) (i j : Int) : impl_comparer_greater.f (k + 1) l i j = if 0 ≤ i ∧ i < 1000000 ∧ 0 ≤ j ∧ j < 1000000 then impl_comparer_isGreater.f (fun p q => impl_comparer_greater.f k l p q) k l i j else none := rfl
theorem impl_comparer_greater.mono : ∀ (k : Nat) (l : List S114) (i j : Int), LeO (impl_comparer_greater.f k l i j) (impl_comparer_greater.f (k + 1) l i j)
 | 0, _, _, _ => fun r h => by cases h
 | k + 1, l, i, j => by
  have ih := impl_comparer_greater.mono k l
  rw [impl_comparer_greater.f_succ k, impl_comparer_greater.f_succ (k + 1)]
  exact LeO.ite (impl_comparer_isGreater.mono ih _ _ _ _) (LeO.none _)
theorem impl_comparer_greater.more {k : Nat} {l : List S114} {i j : Int} {r : Bool} (h : impl_comparer_greater.f k l i j = some r) : ∀ d, impl_comparer_greater.f (k + d) l i j = some r
 | 0 => h
 | d + 1 => impl_comparer_greater.mono (k + d) l i j r (impl_comparer_greater.more h d)
theorem impl_comparer_greater.det {k n : Nat} {l : List S114} {i j : Int} {r b : Bool} (h : impl_comparer_greater.f k l i j = some r) (h2 : impl_comparer_greater.f n l i j = some b) : b = r := by
 have h3 := impl_comparer_greater.more h n
 have h4 := impl_comparer_greater.more h2 k
 rw [Nat.add_comm n k, h3] at h4
 exact (Option.some.inj h4).symm
section
variable {l l' : List S114} (hlen : l.length = l'.length) (h0 : (Aa2 l 0).f0.f0 = (Aa2 l' 0).f0.f0) (h1 : (Aa2 l 0).f1 = (Aa2 l' 0).f1) (h2 : (Aa2 l 0).f2 = (Aa2 l' 0).f2) (h3 : (Aa2 l 0).f3 = (Aa2 l' 0).f3)
include hlen h0 h2 h3
theorem impl_comparer_same.cong (k : Nat) (a b : Int) : impl_comparer_same.f k l a b = impl_comparer_same.f k l' a b := by
 unfold impl_comparer_same.f
 rw [hlen, h0, h2, h3]
include h1
theorem impl_comparer_isGreater.cong_l (g : Int → Int → Option Bool) : ∀ k, (∀ y1 y2 y3 y4 y5 y6 y7 y8 y9, impl_comparer_isGreater.l0 g k l y1 y2 y3 y4 y5 y6 y7 y8 y9 = impl_comparer_isGreater.l0 g k l' y1 y2 y3 y4 y5 y6 y7 y8 y9) ∧ (∀ y1 y2 y3 y4 y5 y6 y7, impl_comparer_isGreater.l1 g k l y1 y2 y3 y4 y5 y6 y7 = impl_comparer_isGreater.l1 g k l' y1 y2 y3 y4 y5 y6 y7) ∧ (∀ y1 y2 y3 y4, impl_comparer_isGreater.l2 g k l y1 y2 y3 y4 = impl_comparer_isGreater.l2 g k l' y1 y2 y3 y4)
 | 0 => ⟨fun _ _ _ _ _ _ _ _ _ => by simp only [impl_comparer_isGreater.l0], fun _ _ _ _ _ _ _ => by simp only [impl_comparer_isGreater.l1], fun _ _ _ _ => by simp only [impl_comparer_isGreater.l2]⟩
 | k + 1 => by
  obtain ⟨i0, i1, i2⟩ := impl_comparer_isGreater.cong_l g k
  have hs := impl_comparer_same.cong hlen h0 h2 h3 k
  refine ⟨fun _ _ _ _ _ _ _ _ _ => ?_, fun _ _ _ _ _ _ _ => ?_, fun _ _ _ _ => ?_⟩
  ·simp only [impl_comparer_isGreater.l0, i0, i1, hs, hlen, h1]
  ·simp only [impl_comparer_isGreater.l1, i1, i2]
  ·simp only [impl_comparer_isGreater.l2, i2, hs]
theorem impl_comparer_isGreater.cong (g : Int → Int → Option Bool) (k : Nat) (i j : Int) : impl_comparer_isGreater.f g k l i j = impl_comparer_isGreater.f g k l' i j := by
 unfold impl_comparer_isGreater.f
 simp only [hlen, h0, h2, h3, (impl_comparer_isGreater.cong_l hlen h0 h1 h2 h3 g k).1]
theorem impl_comparer_greater.cong : ∀ (k : Nat) (i j : Int), impl_comparer_greater.f k l i j = impl_comparer_greater.f k l' i j
 | 0, _, _ => rfl
 | k + 1, i, j => by
  rw [impl_comparer_greater.f_succ, impl_comparer_greater.f_succ, impl_comparer_isGreater.cong hlen h0 h1 h2 h3]
  have : (fun p q => impl_comparer_greater.f k l p q) = (fun p q => impl_comparer_greater.f k l' p q) := funext fun p => funext fun q => impl_comparer_greater.cong k p q
  rw [this]
end
theorem impl_comparer_greater.calls (mb : Nat) (A0 : Option Addr) (l0 : List S114) (hl : 0 < l0.length) (hm : (Aa2 l0 0).f4.toNat = mb) : ∀ (k : Nat) (i j : Int) (r : Bool) (w : World), Kd.F Au8 w (fun k_ => k_ ≠ mb) A0 l0.length l0 → Aj0 (fun i j b => ∃ n, impl_comparer_greater.f n l0 i j = some b) mb w → impl_comparer_greater.f k l0 i j = some r →
  Calls Tryz.prog 88 #[.pointer A0, .int .i64 i, .int .i64 j] w fun e w' => e = .returned (.bool r) ∧ Bel (fun i j b => ∃ n, impl_comparer_greater.f n l0 i j = some b) mb w.heap.size w w'
 | 0, _, _, _, _, _, _, h => by cases h
 | k + 1, i, j, r, w, hF, hM, h => by
  have hs := h
  rw [impl_comparer_greater.f_succ] at h
  by_cases hc : 0 ≤ i ∧ i < 1000000 ∧ 0 ≤ j ∧ j < 1000000
  ·rw [if_pos hc] at h
   obtain ⟨i', rfl⟩ : ∃ n : Nat, i = n := ⟨i.toNat, by omega⟩
   obtain ⟨j', rfl⟩ : ∃ n : Nat, j = n := ⟨j.toNat, by omega⟩
   exact impl_comparer_greater.walk _ mb A0 l0 i' j' w hF hl hm hM (by omega) (by omega) r (fun b ⟨n, hn⟩ => impl_comparer_greater.det hs hn) ⟨k + 1, hs⟩
    (fun W hF hM => impl_comparer_isGreater.calls _ mb (fun p q => impl_comparer_greater.f k l0 p q) k A0 l0 (fun W p q b hF hM hb => impl_comparer_greater.calls mb A0 l0 hl hm k p q b W hF hM hb) _ _ r W hF hM h)
  ·rw [if_neg hc] at h
   cases h
def impl_isGreater.f (k : Nat) (l0_0 : List S79) (l1 l2 l3 : List Int) : Option Bool := impl_comparer_greater.f k [⟨⟨l0_0⟩, l1, l2, l3, 0⟩] 0 0
theorem impl_isGreater.calls (k : Nat) (A0_0 : Option Addr) (c0_0 : Nat) (l0_0 : List S79) (A1 : Option Addr) (c1 : Nat) (l1 : List Int) (A2 : Option Addr) (c2 : Nat) (l2 : List Int) (A3 : Option Addr) (c3 : Nat) (l3 : List Int) (r : Bool) (w : World)
  (hr0_0 : Kd.C k79 w A0_0 l0_0.length l0_0) (hc0_0 : l0_0.length ≤ c0_0) (hr1 : Kd.C (Kd.int .i64) w A1 l1.length l1) (hc1 : l1.length ≤ c1) (hr2 : Kd.C (Kd.int .i64) w A2 l2.length l2) (hc2 : l2.length ≤ c2) (hr3 : Kd.C (Kd.int .i64) w A3 l3.length l3) (hc3 : l3.length ≤ c3) (h : impl_isGreater.f k l0_0 l1 l2 l3 = some r) :
  Calls Tryz.prog 62 #[.agg #[.slice A0_0 l0_0.length c0_0], .slice A1 l1.length c1, .slice A2 l2.length c2, .slice A3 l3.length c3] w fun e w' => e = .returned (.bool r) ∧ Below w.heap.size w w' := by
 unfold impl_isGreater.f at h
 rw [impl_comparer_greater.cong (l := [⟨⟨l0_0⟩, l1, l2, l3, 0⟩]) (l' := [⟨⟨l0_0⟩, l1, l2, l3, ((w.heap.size + 1 : Nat) : Int)⟩]) rfl rfl rfl rfl rfl] at h
 exact impl_isGreater.walk A0_0 c0_0 l0_0 A1 c1 l1 A2 c2 l2 A3 c3 l3 r w hr0_0 hc0_0 hr1 hc1 hr2 hc2 hr3 hc3 _ (fun W g hF hM => impl_comparer_greater.calls (w.heap.size + 1) _ _ (by simp) (by show ((w.heap.size + 1 : Nat) : Int).toNat = w.heap.size + 1; exact Int.toNat_natCast _) k 0 0 r W hF hM h)
end Go.Proofs.YtgichahebemmiaaGreatDoor.P
