/- A part of the proof of the law FnStrict. -/
import Derived.Test.YtgichahebemmiaaGreatDoorCFnStrict6
set_option maxHeartbeats 8000000
set_option maxRecDepth 100000
namespace Go.Proofs.YtgichahebemmiaaGreatDoor.P
open Go.RowKit Go.Proofs.YtgichahebemmiaaGreatDoorW.PrintWords Go.Proofs.YtgichahebemmiaaGreatDoorW.PrintLast Go.Proofs.YtgichahebemmiaaGreatDoorW.PrintMore
attribute [local go_sem] Ai1 Ah9 Ak5 Ak4 Ah0 Ag9 Ai2 Ai0   -- for this text's walks alone
set_option linter.unusedVariables false
set_option linter.unusedSimpArgs false
open Go.WideMaps
theorem nodup_lt : ∀ (N : Nat) (l : List Nat), l.Pairwise (fun a b => a ≠ b) → (∀ x ∈ l, x < N) → l.length ≤ N
 | 0, l, _, h => by
  cases l with
  | nil => simp
  | cons x r => exact absurd (h x (by simp)) (by omega)
 | N + 1, l, hd, h => by
  have h1 := nodup_lt N (l.filter (fun x => decide (x ≠ N))) (hd.filter _) (fun x hx => by
   rw [List.mem_filter] at hx
   have := h x hx.1
   have := of_decide_eq_true hx.2
   omega)
  have h2 : ∀ l : List Nat, l.Pairwise (fun a b => a ≠ b) → l.length ≤ (l.filter (fun x => decide (x ≠ N))).length + 1 := by
   intro l
   induction l with
   | nil => intro _; simp
   | cons x r ih =>
    intro hp
    rw [List.pairwise_cons] at hp
    have := ih hp.2
    by_cases e : x = N
    ·have e2 : r.filter (fun x => decide (x ≠ N)) = r := by
      rw [List.filter_eq_self]
      intro y hy
      have := hp.1 y hy
      exact decide_eq_true (by omega)
     rw [List.filter_cons_of_neg (by simp [e]), e2]
     simp
    ·rw [List.filter_cons_of_pos (by simpa using e)]
     simp only [List.length_cons]; omega
  have := h2 l hd
  omega
def Bc4 (i j : Nat) : Value := .agg #[.int .i64 i, .int .i64 j]
theorem cmpKey_inj {i j i' j' : Nat} (h : Bc4 i j = Bc4 i' j') : i = i' ∧ j = j' := by
 unfold Bc4 at h
 injection h with h
 have h := congrArg Array.toList h
 simp at h
 omega
theorem cmpArr : ArrKey Tryz.prog 122 3 2 := ⟨Tryz.underlying122, by kernel_rfl, by kernel_rfl, by kernel_rfl⟩
theorem cmpSize : ∃ m, Tryz.prog.types.size = m + 1 := ⟨Tryz.prog.types.size - 1, by have : (0 : Nat) < Tryz.prog.types.size := of_decide_eq_true (by kernel_rfl); omega⟩
theorem Bg6 : Go.Maps.Keyed Tryz.prog 122 := Go.Maps.Keyed.of_law cmpArr.law
theorem cmp_wf (i : Nat) (hi : i < 1000000) : (Lit.int .i64 (i : Int)).wf = true := by
 simp only [Lit.wf, decide_eq_true_eq, Bool.and_eq_true, IntKind.min, IntKind.max]
 first | omega | (constructor <;> omega) | (simp [IntKind.bits, IntKind.signed] <;> omega)
theorem cmpKey_of (i j : Nat) (hi : i < 1000000) (hj : j < 1000000) : ∃ l, keyOf Tryz.prog 122 (Bc4 i j) = some l :=
 ⟨_, Go.WideMaps.keyOf_pair cmpArr Tryz.underlying3 cmpSize (cmp_wf i hi) (cmp_wf j hj)⟩
def Au6 (G : Int → Int → Bool → Prop) (mb : Nat) (w : World) : Prop :=
 ∃ es clock, w.heap[mb]? = some (.map es clock) ∧ Go.WideElems.Fit (H := Unit) Tryz.prog 122 (plainElem Tryz.prog 4) es clock ∧
  ∀ x ∈ es.toList, ∃ (i j : Nat) (b : Bool), i < 1000000 ∧ j < 1000000 ∧ x.key = Bc4 i j ∧ x.val = .bool b ∧ G i j b
section
variable {G : Int → Int → Bool → Prop} {mb : Nat} {w w1 w2 : World}
theorem Au6.same (h : Au6 G mb w) (he : w1.heap[mb]? = w.heap[mb]?) : Au6 G mb w1 := by
 obtain ⟨es, c, h1, h2⟩ := h
 exact ⟨es, c, he.trans h1, h2⟩
theorem Au6.lt (h : Au6 G mb w) : mb < w.heap.size := by
 obtain ⟨es, c, h1, _⟩ := h
 exact (Array.getElem?_eq_some_iff.1 h1).1
theorem Au6.below (h : Au6 G mb w) (hb : Below w.heap.size w w1) : Au6 G mb w1 := h.same (hb.block mb h.lt)
theorem Au6.no_cell (h : Au6 G mb w) {p : Addr} (hp : p.block = mb) : w.cell? p = none := by
 obtain ⟨es, c, h1, _⟩ := h
 unfold World.cell?
 rw [hp, h1]
theorem Au6.no_cells (h : Au6 G mb w) {k : Nat} {cs : Array Value} {q : Nat} {z : Nat × Nat} (hk : w.heap[k]? = some (.cells cs q z)) : k ≠ mb := by
 rintro rfl
 obtain ⟨es, c, h1, _⟩ := h
 rw [h1] at hk
 cases hk
theorem Au6.size (h : Au6 G mb w) : ∃ es clock, w.heap[mb]? = some (.map es clock) ∧ es.size ≤ 1000000000000 := by
 obtain ⟨es, c, h1, F, h2⟩ := h
 refine ⟨es, c, h1, ?_⟩
 have hd := Go.Maps.fit_apart Bg6 F
 have hn : es.toList.Pairwise (fun x y => x.key ≠ y.key) := ((Go.MapKept.stamped_iff es c).1 F.stamped).2.2
 have code : ∀ x ∈ es.toList, ∃ n, n < 1000000000000 ∧ ∃ i j : Nat, i < 1000000 ∧ j < 1000000 ∧ x.key = Bc4 i j ∧ n = i * 1000000 + j := by
  intro x hx
  obtain ⟨i, j, b, hi, hj, hk, _⟩ := h2 x hx
  exact ⟨i * 1000000 + j, by omega, i, j, hi, hj, hk, rfl⟩
 clear hd h2 F h1
 have go : ∀ l : List MapEntry, l.Pairwise (fun x y => x.key ≠ y.key) → (∀ x ∈ l, ∃ n, n < 1000000000000 ∧ ∃ i j : Nat, i < 1000000 ∧ j < 1000000 ∧ x.key = Bc4 i j ∧ n = i * 1000000 + j) →
   ∃ ns : List Nat, ns.length = l.length ∧ ns.Pairwise (fun a b => a ≠ b) ∧ (∀ n ∈ ns, n < 1000000000000) ∧ ∀ n ∈ ns, ∃ x ∈ l, ∃ i j : Nat, i < 1000000 ∧ j < 1000000 ∧ x.key = Bc4 i j ∧ n = i * 1000000 + j := by
  intro l
  induction l with
  | nil => intro _ _; exact ⟨[], rfl, List.Pairwise.nil, by simp, by simp⟩
  | cons x r ih =>
   intro hp hc
   rw [List.pairwise_cons] at hp
   obtain ⟨ns, a1, a2, a3, a4⟩ := ih hp.2 (fun y hy => hc y (by simp [hy]))
   obtain ⟨n, hn, i, j, hi, hj, hk, e⟩ := hc x (by simp)
   refine ⟨n :: ns, by simp [a1], List.pairwise_cons.2 ⟨fun m hm hnm => ?_, a2⟩, fun m hm => ?_, fun m hm => ?_⟩
   ·obtain ⟨y, hy, i', j', hi', hj', hk', e'⟩ := a4 m hm
    refine hp.1 y hy ?_
    have : i = i' ∧ j = j' := by omega
    rw [hk, hk', this.1, this.2]
   ·rcases List.mem_cons.1 hm with rfl | hm
    ·exact hn
    ·exact a3 m hm
   ·rcases List.mem_cons.1 hm with rfl | hm
    ·exact ⟨x, by simp, i, j, hi, hj, hk, e⟩
    ·obtain ⟨y, hy, q⟩ := a4 m hm
     exact ⟨y, by simp [hy], q⟩
 obtain ⟨ns, a1, a2, a3, _⟩ := go es.toList hn code
 have := nodup_lt 1000000000000 ns a2 a3
 have e : es.size = es.toList.length := by simp
 omega
structure Bel (G : Int → Int → Bool → Prop) (mb B : Nat) (w w1 : World) : Prop where
 os : w1.os = w.os
 tape : w1.tape = w.tape
 output : w1.output = w.output
 size : w.heap.size ≤ w1.heap.size
 block : ∀ k, k < B → k ≠ mb → w1.heap[k]? = w.heap[k]?
 old : Au6 G mb w
 inv : Au6 G mb w1
theorem Bel.of (hI : Au6 G mb w) (h : Below w.heap.size w w1) : Bel G mb w.heap.size w w1 := ⟨h.os, h.tape, h.output, h.size, fun k hk _ => h.block k hk, hI, hI.below h⟩
theorem Bel.cell {B : Nat} (h : Bel G mb B w w1) {p : Addr} (hp : p.block < B) : w1.cell? p = w.cell? p := by
 by_cases e : p.block = mb
 ·rw [h.inv.no_cell e, h.old.no_cell e]
 ·exact World.cell?_of_block (w := w) (h.block p.block hp e)
theorem Bb1 (h : Bel G mb w.heap.size w w1) (k : Bel G mb w1.heap.size w1 w2) : Bel G mb w.heap.size w w2 :=
 ⟨k.os.trans h.os, k.tape.trans h.tape, k.output.trans h.output, Nat.le_trans h.size k.size, fun i hi hne => (k.block i (Nat.lt_of_lt_of_le hi h.size) hne).trans (h.block i hi hne), h.old, k.inv⟩
theorem Aw8 (h : Bel G mb w.heap.size w w1) (k : Below w1.heap.size w1 w2) : Bel G mb w.heap.size w w2 := Bb1 h (Bel.of h.inv k)
theorem Ai6 (h : Bel G mb w.heap.size w w1) (o : Obj) : Bel G mb w.heap.size w (w1.alloc o) := Aw8 h (Ah3 (Below.refl _ _) o)
theorem Ai7 (h : Bel G mb w.heap.size w w1) (n : Nat) : Bel G mb w.heap.size w (w1.drewN n) := Aw8 h (Ak1 (Below.refl _ _) n)
theorem Aj8 (h : Bel G mb w.heap.size w w1) : Bel G mb w.heap.size w w1.drew := Aw8 h (Af1 (Below.refl _ _))
theorem Bh7 {α : Type} {d : Kd α} {e base : Nat} {ok : Nat → Prop} {v : Value} {xs : List α} (h : d.R e w base ok v xs) (hb : Bel G mb w.heap.size w w1) : d.R e w1 base ok v xs :=
 Kd.R_mono (Kd.R_move (Kd.R_bound h) (fun k hk => hb.block k hk.2.2.1 (by
  obtain ⟨_, _, _, q, _, cells, hc⟩ := hk
  exact hb.old.no_cells hc))) (fun _ hk => hk.1)
theorem Bk3 {α : Type} {d : Kd α} {A : Option Addr} {n : Nat} {xs : List α} (h : Kd.F d w (fun k_ => k_ ≠ mb) A n xs) (hb : Bel G mb w.heap.size w w1) : Kd.F d w1 (fun k_ => k_ ≠ mb) A n xs := Kd.F_step h (fun k hk hlt => hb.block k hlt hk)
theorem Bk9 {α : Type} {d : Kd α} {A : Option Addr} {n : Nat} {xs : List α} (h : Kd.F d w (fun k_ => k_ ≠ mb) A n xs) (hb : Bel G mb w.heap.size w w1) : Kd.C d w1 A n xs := Kd.F_now (Bk3 h hb)
theorem C_belI {q : IntKind} {A : Option Addr} {n : Nat} {xs : List Int} (h : Kd.C (Kd.int q) w A n xs) (hb : Bel G mb w.heap.size w w1) : Kd.C (Kd.int q) w1 A n xs :=
 ⟨h.1, h.2.1, fun hn => by
  obtain ⟨ad, e, hc⟩ := h.2.2 hn
  refine ⟨ad, e, fun j p hj => ?_⟩
  obtain ⟨c, hs, hr, hcell⟩ := hc j p hj
  exact ⟨c, hs, hr, fun i u hu => by
   have := hcell i u hu
   rw [hb.cell (World.block_lt_of_cell? _ _ this)]
   exact this⟩⟩
theorem bcB (h : Bel G mb w.heap.size w w1) {p : Addr} {v : Value} (hx : w.cell? p = some v) : w1.cell? p = some v := (h.cell (World.block_lt_of_cell? w p hx)).trans hx
theorem bcL (h : Below w.heap.size w w1) {p : Addr} {v : Value} (hx : w.cell? p = some v) : w1.cell? p = some v := (h.cell (World.block_lt_of_cell? w p hx)).trans hx
end
theorem Bf4 {w : World} {A : Option Addr} {n : Nat} {xs : List S114} (h : Kd.C Bj7 w A n xs) (h1 : (0 : Int) < (n : Int)) : ∃ ad A0 c0 A1 c1 A2 c2 A3 c3, A = some ad ∧ w.cell? ad = some (.slice A0 ((Ac1 xs 0).f0.f0).length c0) ∧ w.cell? ⟨ad.block, ad.off + 1, none⟩ = some (.slice A1 ((Ac1 xs 0).f1).length c1) ∧ w.cell? ⟨ad.block, ad.off + 2, none⟩ = some (.slice A2 ((Ac1 xs 0).f2).length c2) ∧ w.cell? ⟨ad.block, ad.off + 3, none⟩ = some (.slice A3 ((Ac1 xs 0).f3).length c3) ∧ w.cell? ⟨ad.block, ad.off + 4, none⟩ = some (.map (some ((Ac1 xs 0).f4).toNat)) ∧
  (Ac1 xs 0).f0.f0.length ≤ c0 ∧ k79.C w A0 (Ac1 xs 0).f0.f0.length (Ac1 xs 0).f0.f0 ∧ (Ac1 xs 0).f1.length ≤ c1 ∧ (Kd.int .i64).C w A1 (Ac1 xs 0).f1.length (Ac1 xs 0).f1 ∧ (Ac1 xs 0).f2.length ≤ c2 ∧ (Kd.int .i64).C w A2 (Ac1 xs 0).f2.length (Ac1 xs 0).f2 ∧ (Ac1 xs 0).f3.length ≤ c3 ∧ (Kd.int .i64).C w A3 (Ac1 xs 0).f3.length (Ac1 xs 0).f3 := by
 obtain ⟨ad, A0, c0, A1, c1, A2, c2, A3, c3, e, x0, x1, x2, x3, x4, r⟩ := Av9 h 0 (by omega) h1
 rw [show ((0 : Int)).toNat = 0 from rfl, show 0 * 5 = 0 from rfl, Addr.add_zero'] at x0 x1 x2 x3 x4
 exact ⟨ad, A0, c0, A1, c1, A2, c2, A3, c3, e, x0, x1, x2, x3, x4, r⟩
mutual
def Aa1.l0 (g : Int → Int → Option Bool) : Nat → List (S114) → Int → Int → Int → Int → List Int → List Int → List Int → Int → Int → Option (Bool)
 | 0, _, _, _, _, _, _, _, _, _, _ => none
 | k + 1, x0, x1, x2, x7, x8, x9, x10, x72, x73, x74 => if x74 < x73 then (if 0 ≤ x74 then (if x74 < (x72.length : Int) then ((Ac9.f k x0 (rd x72 x74) x2).bind fun t728 => (if t728 = true then (some true) else ((g (rd x72 x74) x2).bind fun t729 => (if t729 = true then (some true) else (Aa1.l0 g k x0 x1 x2 x7 x8 x9 x10 x72 x73 (wrap64 (x74 + 1))))))) else (none)) else (none)) else (if 0 < (x0.length : Int) then ((Aa7.f k ((Ac1 x0 0).f1) x7).bind fun t732 => ((Aa7.f k ((Ac1 x0 0).f1) x8).bind fun t735 => (if (wrap64 (t732 - t735)) < 0 then (some false) else (Aa1.l1 g k x0 x1 x9 x10 (wrap64 (t732 - t735)) x10 (x10.length : Int) 0)))) else (none))
def Aa1.l1 (g : Int → Int → Option Bool) : Nat → List (S114) → Int → List Int → List Int → Int → List Int → Int → Int → Option (Bool)
 | 0, _, _, _, _, _, _, _, _ => none
 | k + 1, x0, x1, x9, x10, x13, x104, x105, x106 => if x106 < x105 then (if 0 ≤ x106 then (if x106 < (x104.length : Int) then ((g x1 (rd x104 x106)).bind fun t737 => (if t737 = true then (Aa1.l1 g k x0 x1 x9 x10 x13 x104 x105 (wrap64 (x106 + 1))) else (some false))) else (none)) else (none)) else (if x13 > 0 then (some true) else (Aa1.l2 g k x0 x10 x9 (x9.length : Int) 0))
def Aa1.l2 (g : Int → Int → Option Bool) : Nat → List (S114) → List Int → List Int → Int → Int → Option (Bool)
 | 0, _, _, _, _, _ => none
 | k + 1, x0, x10, x118, x119, x120 => if x120 < x119 then (if 0 ≤ x120 then (if x120 < (x118.length : Int) then (if x120 < (x10.length : Int) then ((Ac9.f k x0 (rd x118 x120) (rd x10 x120)).bind fun t740 => (if t740 = true then (Aa1.l2 g k x0 x10 x118 x119 (wrap64 (x120 + 1))) else ((g (rd x118 x120) (rd x10 x120)).bind fun t742 => (some t742)))) else (none)) else (none)) else (none)) else (some false)
end
def Aa1.f (g : Int → Int → Option Bool) (k : Nat) (l0 : List (S114)) (a1 : Int) (a2 : Int) : Option (Bool) := if 0 < (l0.length : Int) then (if 0 ≤ a1 then (if a1 < (((Ac1 l0 0).f2).length : Int) then (if 0 ≤ a2 then (if a2 < (((Ac1 l0 0).f3).length : Int) then (if (rd ((Ac1 l0 0).f3) a2) < 0 then (if (rd ((Ac1 l0 0).f2) a1) ≥ 0 then ((Ag6.f k ((Ac1 l0 0).f0.f0) ((Ac1 l0 0).f2) a1).bind fun t709 => ((Ad0.f k t709 (rd ((Ac1 l0 0).f3) a2)).bind fun t712 => (some t712))) else (some false)) else (if (rd ((Ac1 l0 0).f2) a1) < 0 then (some false) else ((Ac8.f k ((Ac1 l0 0).f0.f0) ((Ac1 l0 0).f2) a1).bind fun t717 => ((Ac8.f k ((Ac1 l0 0).f0.f0) ((Ac1 l0 0).f3) a2).bind fun t724 => (Aa1.l0 g k l0 a1 a2 (rd ((Ac1 l0 0).f2) a1) (rd ((Ac1 l0 0).f3) a2) t717 t724 t717 (t717.length : Int) 0))))) else (none)) else (none)) else (none)) else (none)) else (none)
theorem Aa1.mono_l {g g' : Int → Int → Option Bool} (hg : ∀ p q, LeO (g p q) (g' p q)) : ∀ k, (∀ y0 y1 y2 y3 y4 y5 y6 y7 y8 y9, LeO (Aa1.l0 g k y0 y1 y2 y3 y4 y5 y6 y7 y8 y9) (Aa1.l0 g' (k + 1) y0 y1 y2 y3 y4 y5 y6 y7 y8 y9)) ∧ (∀ y0 y1 y2 y3 y4 y5 y6 y7, LeO (Aa1.l1 g k y0 y1 y2 y3 y4 y5 y6 y7) (Aa1.l1 g' (k + 1) y0 y1 y2 y3 y4 y5 y6 y7)) ∧ (∀ y0 y1 y2 y3 y4, LeO (Aa1.l2 g k y0 y1 y2 y3 y4) (Aa1.l2 g' (k + 1) y0 y1 y2 y3 y4))
 | 0 => ⟨fun _ _ _ _ _ _ _ _ _ _ r h => by simp [Aa1.l0] at h, fun _ _ _ _ _ _ _ _ r h => by simp [Aa1.l1] at h, fun _ _ _ _ _ r h => by simp [Aa1.l2] at h⟩
 | k + 1 => by
  obtain ⟨ih0, ih1, ih2⟩ := Aa1.mono_l hg k
  refine ⟨fun y0 y1 y2 y3 y4 y5 y6 y7 y8 y9 => ?_, fun y0 y1 y2 y3 y4 y5 y6 y7 => ?_, fun y0 y1 y2 y3 y4 => ?_⟩
  unfold Aa1.l0
  rotate_left
  unfold Aa1.l1
  rotate_left
  unfold Aa1.l2
  rotate_left
  all_goals (repeat' first | (with_reducible first | apply ih0 | apply ih1 | apply ih2 | apply Ac8.mono | exact hg _ _ | apply Ac9.mono | apply Ag6.mono | apply Ad0.mono | apply Aa7.mono | exact LeO.refl _ | exact LeO.none _ | refine LeO.ite ?_ ?_ | refine LeO.bind ?_ (fun _ => ?_)) | apply ih0 | apply ih1 | apply ih2 | apply Ac8.mono | exact hg _ _ | apply Ac9.mono | apply Ag6.mono | apply Ad0.mono | apply Aa7.mono | exact LeO.none _ | refine LeO.ite ?_ ?_ | refine LeO.bind ?_ (fun _ => ?_))
theorem Aa1.mono {g g' : Int → Int → Option Bool} (hg : ∀ p q, LeO (g p q) (g' p q)) : ∀ a0 a1 a2 k, LeO (Aa1.f g k a0 a1 a2) (Aa1.f g' (k + 1) a0 a1 a2) := by
 intro a0 a1 a2 k
 obtain ⟨ih0, ih1, ih2⟩ := Aa1.mono_l hg k
 unfold Aa1.f
 repeat' first | (with_reducible first | apply ih0 | apply ih1 | apply ih2 | apply Ac8.mono | exact hg _ _ | apply Ac9.mono | apply Ag6.mono | apply Ad0.mono | apply Aa7.mono | exact LeO.refl _ | exact LeO.none _ | refine LeO.ite ?_ ?_ | refine LeO.bind ?_ (fun _ => ?_)) | apply ih0 | apply ih1 | apply ih2 | apply Ac8.mono | exact hg _ _ | apply Ac9.mono | apply Ag6.mono | apply Ad0.mono | apply Aa7.mono | exact LeO.none _ | refine LeO.ite ?_ ?_ | refine LeO.bind ?_ (fun _ => ?_)
def Aa1.T1 : Bool × List (List Nat × List Nat) := (true, [([], []), ([0], [0]), ([1], [1]), ([2], [2]), ([], []), ([3, 4], [3, 4]), ([5], [5]), ([], []), ([7], [7]), ([8], [8]), ([9], [9]), ([], []), ([10, 11], [10, 11]), ([12], [12]), ([6, 0, 1, 2, 3, 4, 5, 6], [6]), ([13, 14, 0, 1, 2, 3, 4, 5, 6, 7, 8, 9, 10, 11, 12, 13, 14], [13])])
def Aa1.B1 : List Nat := [0, 1, 3, 7, 0, 31, 63, 0, 128, 384, 896, 0, 3968, 8064, 127, 32767]
theorem Aa1.tab1 : Au3 .any (Au5 Tryz.f100 1) = Aa1.T1 := by kernel_rfl
theorem Aa1.bits1 : Al2 Aa1.T1.2 Aa1.B1 = true := by kernel_rfl
def Aa1.T3 : Bool × List (List Nat × List Nat) := (true, [([], []), ([0], [0]), ([1], [1]), ([2], [2]), ([3, 2], [2, 3]), ([4, 2], [2, 4]), ([5, 2], [2, 5]), ([2], [2]), ([7, 2], [2, 7]), ([8, 2], [2, 8]), ([9, 2], [2, 9]), ([2], [2]), ([6, 10, 11, 2, 2], [2, 6, 10, 11]), ([2], [2]), ([12, 13, 12, 2], [2, 12, 13]), ([2, 14], [2, 14]), ([15, 14, 0, 1, 2, 3, 4, 5, 6, 7, 8, 9, 10, 11, 12, 13, 14, 15], [15])])
def Aa1.B3 : List Nat := [0, 1, 3, 7, 15, 31, 63, 7, 135, 391, 903, 7, 4095, 7, 16383, 32767, 65535]
theorem Aa1.tab3 : Au3 .any (Au5 Tryz.f100 3) = Aa1.T3 := by kernel_rfl
theorem Aa1.bits3 : Al2 Aa1.T3.2 Aa1.B3 = true := by kernel_rfl
def Aa1.T6 : Bool × List (List Nat × List Nat) := (true, [([], []), ([0], [0]), ([1], [1]), ([2], [2]), ([], []), ([4], [4]), ([5], [5]), ([6], [6]), ([], []), ([3, 7, 8], [3, 7, 8]), ([], []), ([10], [10]), ([11], [11]), ([12], [12]), ([], []), ([14], [14]), ([15], [15]), ([16], [16]), ([], []), ([13, 17, 18, 9], [13, 17, 18]), ([9, 19, 0, 1, 2, 3, 4, 5, 6, 7, 8, 9], [9]), ([19, 20, 0, 1, 2, 3, 4, 5, 6, 7, 8, 9, 10, 11, 12, 13, 14, 15, 16, 17, 18, 19, 20], [19])])
def Aa1.B6 : List Nat := [0, 1, 3, 7, 0, 16, 48, 112, 0, 511, 0, 1024, 3072, 7168, 0, 16384, 49152, 114688, 0, 524287, 1048575, 2097151]
theorem Aa1.tab6 : Au3 .any (Au5 Tryz.f100 6) = Aa1.T6 := by kernel_rfl
theorem Aa1.bits6 : Al2 Aa1.T6.2 Aa1.B6 = true := by kernel_rfl
def Aa1.T13 : Bool × List (List Nat × List Nat) := (true, [([], []), ([0], [0]), ([1], [1]), ([2], [2]), ([], []), ([3, 4], [3, 4]), ([], []), ([6], [6]), ([7], [7]), ([8], [8]), ([], []), ([9, 10, 5], [9, 10]), ([5, 11], [5, 11]), ([12, 11, 0, 1, 2, 3, 4, 5, 6, 7, 8, 9, 10, 11, 12], [12])])
def Aa1.B13 : List Nat := [0, 1, 3, 7, 0, 31, 0, 64, 192, 448, 0, 2047, 4095, 8191]
theorem Aa1.tab13 : Au3 .any (Au5 Tryz.f100 13) = Aa1.T13 := by kernel_rfl
theorem Aa1.bits13 : Al2 Aa1.T13.2 Aa1.B13 = true := by kernel_rfl
theorem Aa1.calls (G : Int → Int → Bool → Prop) (mb : Nat) (g : Int → Int → Option Bool) (k : Nat) (A0 : Option Addr) (l0 : List S114)
  (hg : ∀ (W : World) (p q : Int) (b : Bool), Kd.F Bj7 W (fun k_ => k_ ≠ mb) A0 l0.length l0 → Au6 G mb W → g p q = some b → Calls Tryz.prog 88 #[.pointer A0, .int .i64 p, .int .i64 q] W fun e w' => e = .returned (.bool b) ∧ Bel G mb W.heap.size W w')
  (a1 : Int) (a2 : Int) (r : Bool) (w : World) (hr0 : Kd.F Bj7 w (fun k_ => k_ ≠ mb) A0 l0.length l0) (hI : Au6 G mb w) (h : Aa1.f g k l0 a1 a2 = some r) :
  Calls Tryz.prog 100 #[.pointer A0, .int .i64 a1, .int .i64 a2] w fun e w' => e = .returned (.bool r) ∧ Bel G mb w.heap.size w w' := by
 have hu36 := Tryz.underlying36
 have HF0 := am hr0
 have HI := am hI
 have HG := am hg
 have HR0 := am (Kd.F_now hr0)
 clear hr0 hI hg
 have HB := am (Below.refl w.heap.size w)
 have H : (if 0 < (l0.length : Int) then (if 0 ≤ a1 then (if a1 < (((Ac1 l0 0).f2).length : Int) then (if 0 ≤ a2 then (if a2 < (((Ac1 l0 0).f3).length : Int) then (if (rd ((Ac1 l0 0).f3) a2) < 0 then (if (rd ((Ac1 l0 0).f2) a1) ≥ 0 then ((Ag6.f k ((Ac1 l0 0).f0.f0) ((Ac1 l0 0).f2) a1).bind fun t709 => ((Ad0.f k t709 (rd ((Ac1 l0 0).f3) a2)).bind fun t712 => (some t712))) else (some false)) else (if (rd ((Ac1 l0 0).f2) a1) < 0 then (some false) else ((Ac8.f k ((Ac1 l0 0).f0.f0) ((Ac1 l0 0).f2) a1).bind fun t717 => ((Ac8.f k ((Ac1 l0 0).f0.f0) ((Ac1 l0 0).f3) a2).bind fun t724 => (Aa1.l0 g k l0 a1 a2 (rd ((Ac1 l0 0).f2) a1) (rd ((Ac1 l0 0).f3) a2) t717 t724 t717 (t717.length : Int) 0))))) else (none)) else (none)) else (none)) else (none)) else (none)) = some r := h
 clear h
 obtain ⟨c4, H⟩ := ifs H
 have c4b0 := decide_eq_true c4
 have c4b1 : decide (0 < l0.length) = true := decide_eq_true (by omega)
 clear c4
 obtain ⟨c5b0, H⟩ := ife H
 obtain ⟨c6b0, H⟩ := ife H
 obtain ⟨c7b0, H⟩ := ife H
 obtain ⟨c8b0, H⟩ := ife H
 have HC9 := am H
 clear H
 go_enter Tryz.func100, Tryz.ntmps100
 try go_wp2
 replace HB := am (Af1 HB.out)
 have p699 : 0 ≤ (0 : Int) := (by omega)
 have q699 : 0 < (l0.length : Int) := od
 obtain ⟨ad699, A699_0, c699_0, A699_1, c699_1, A699_2, c699_2, A699_3, c699_3, e699, hx699_0, hx699_1, hx699_2, hx699_3, hx699_4, hl699_0, hi699_0, hl699_1, hi699_1, hl699_2, hi699_2, hl699_3, hi699_3⟩ := Bf4 HR0.out q699
 have hw699_4 := hx699_4
 have hw699_3 := hx699_3
 have hw699_2 := hx699_2
 have hw699_1 := hx699_1
 have hw699_0 := hx699_0
 cases e699
 have qi699 : (0 < l0.length) = True := eq_true (by omega)
 replace hx699_0 := bcL HB.out hx699_0
 replace hx699_1 := bcL HB.out hx699_1
 replace hx699_2 := bcL HB.out hx699_2
 replace hx699_3 := bcL HB.out hx699_3
 replace hx699_4 := bcL HB.out hx699_4
 have HR699_0 := am hi699_0
 have HC699_0 := am hl699_0
 clear hi699_0 hl699_0
 have HR699_1 := am hi699_1
 have HC699_1 := am hl699_1
 clear hi699_1 hl699_1
 have HR699_2 := am hi699_2
 have HC699_2 := am hl699_2
 clear hi699_2 hl699_2
 have HR699_3 := am hi699_3
 have HC699_3 := am hl699_3
 clear hi699_3 hl699_3
 obtain ⟨p699, q699⟩ := ee p699 q699
 have p700 : 0 ≤ (0 : Int) := (by omega)
 have q700 : 0 < (l0.length : Int) := od
 obtain ⟨ad700, A700_0, c700_0, A700_1, c700_1, A700_2, c700_2, A700_3, c700_3, e700, hx700_0, hx700_1, hx700_2, hx700_3, hx700_4, hl700_0, hi700_0, hl700_1, hi700_1, hl700_2, hi700_2, hl700_3, hi700_3⟩ := Bf4 HR0.out q700
 have hw700_4 := hx700_4
 have hw700_3 := hx700_3
 have hw700_2 := hx700_2
 have hw700_1 := hx700_1
 have hw700_0 := hx700_0
 obtain rfl : ad699 = ad700 := (by injection e700)
 have qi700 : (0 < l0.length) = True := eq_true (by omega)
 replace hx700_0 := bcL HB.out hx700_0
 replace hx700_1 := bcL HB.out hx700_1
 replace hx700_2 := bcL HB.out hx700_2
 replace hx700_3 := bcL HB.out hx700_3
 replace hx700_4 := bcL HB.out hx700_4
 have HR700_0 := am hi700_0
 have HC700_0 := am hl700_0
 clear hi700_0 hl700_0
 have HR700_1 := am hi700_1
 have HC700_1 := am hl700_1
 clear hi700_1 hl700_1
 have HR700_2 := am hi700_2
 have HC700_2 := am hl700_2
 clear hi700_2 hl700_2
 have HR700_3 := am hi700_3
 have HC700_3 := am hl700_3
 clear hi700_3 hl700_3
 obtain ⟨p700, q700⟩ := ee p700 q700
 obtain ⟨rfl, rfl⟩ := sj hx699_0 hx700_0
 obtain ⟨rfl, rfl⟩ := sj hx699_1 hx700_1
 obtain ⟨rfl, rfl⟩ := sj hx699_2 hx700_2
 obtain ⟨rfl, rfl⟩ := sj hx699_3 hx700_3
 have p701 : 0 ≤ (a1 : Int) := od
 have q701 : a1 < (((Ac1 l0 0).f2).length : Int) := od
 obtain ⟨ad701, e701, hx701_0⟩ := Kd.at_int HR700_2.out a1 p701 q701
 have hw701_0 := hx701_0
 cases e701
 replace hx701_0 := bcL HB.out hx701_0
 obtain ⟨p701, q701⟩ := ee p701 q701
 have p702 : 0 ≤ (0 : Int) := (by omega)
 have q702 : 0 < (l0.length : Int) := od
 obtain ⟨ad702, A702_0, c702_0, A702_1, c702_1, A702_2, c702_2, A702_3, c702_3, e702, hx702_0, hx702_1, hx702_2, hx702_3, hx702_4, hl702_0, hi702_0, hl702_1, hi702_1, hl702_2, hi702_2, hl702_3, hi702_3⟩ := Bf4 HR0.out q702
 have hw702_4 := hx702_4
 have hw702_3 := hx702_3
 have hw702_2 := hx702_2
 have hw702_1 := hx702_1
 have hw702_0 := hx702_0
 obtain rfl : ad699 = ad702 := (by injection e702)
 have qi702 : (0 < l0.length) = True := eq_true (by omega)
 replace hx702_0 := bcL HB.out hx702_0
 replace hx702_1 := bcL HB.out hx702_1
 replace hx702_2 := bcL HB.out hx702_2
 replace hx702_3 := bcL HB.out hx702_3
 replace hx702_4 := bcL HB.out hx702_4
 have HR702_0 := am hi702_0
 have HC702_0 := am hl702_0
 clear hi702_0 hl702_0
 have HR702_1 := am hi702_1
 have HC702_1 := am hl702_1
 clear hi702_1 hl702_1
 have HR702_2 := am hi702_2
 have HC702_2 := am hl702_2
 clear hi702_2 hl702_2
 have HR702_3 := am hi702_3
 have HC702_3 := am hl702_3
 clear hi702_3 hl702_3
 obtain ⟨p702, q702⟩ := ee p702 q702
 obtain ⟨rfl, rfl⟩ := sj hx699_0 hx702_0
 obtain ⟨rfl, rfl⟩ := sj hx699_1 hx702_1
 obtain ⟨rfl, rfl⟩ := sj hx699_2 hx702_2
 obtain ⟨rfl, rfl⟩ := sj hx699_3 hx702_3
 have p703 : 0 ≤ (0 : Int) := (by omega)
 have q703 : 0 < (l0.length : Int) := od
 obtain ⟨ad703, A703_0, c703_0, A703_1, c703_1, A703_2, c703_2, A703_3, c703_3, e703, hx703_0, hx703_1, hx703_2, hx703_3, hx703_4, hl703_0, hi703_0, hl703_1, hi703_1, hl703_2, hi703_2, hl703_3, hi703_3⟩ := Bf4 HR0.out q703
 have hw703_4 := hx703_4
 have hw703_3 := hx703_3
 have hw703_2 := hx703_2
 have hw703_1 := hx703_1
 have hw703_0 := hx703_0
 obtain rfl : ad699 = ad703 := (by injection e703)
 have qi703 : (0 < l0.length) = True := eq_true (by omega)
 replace hx703_0 := bcL HB.out hx703_0
 replace hx703_1 := bcL HB.out hx703_1
 replace hx703_2 := bcL HB.out hx703_2
 replace hx703_3 := bcL HB.out hx703_3
 replace hx703_4 := bcL HB.out hx703_4
 have HR703_0 := am hi703_0
 have HC703_0 := am hl703_0
 clear hi703_0 hl703_0
 have HR703_1 := am hi703_1
 have HC703_1 := am hl703_1
 clear hi703_1 hl703_1
 have HR703_2 := am hi703_2
 have HC703_2 := am hl703_2
 clear hi703_2 hl703_2
 have HR703_3 := am hi703_3
 have HC703_3 := am hl703_3
 clear hi703_3 hl703_3
 obtain ⟨p703, q703⟩ := ee p703 q703
 obtain ⟨rfl, rfl⟩ := sj hx699_0 hx703_0
 obtain ⟨rfl, rfl⟩ := sj hx699_1 hx703_1
 obtain ⟨rfl, rfl⟩ := sj hx699_2 hx703_2
 obtain ⟨rfl, rfl⟩ := sj hx699_3 hx703_3
 have p704 : 0 ≤ (a2 : Int) := od
 have q704 : a2 < (((Ac1 l0 0).f3).length : Int) := od
 obtain ⟨ad704, e704, hx704_0⟩ := Kd.at_int HR703_3.out a2 p704 q704
 have hw704_0 := hx704_0
 cases e704
 replace hx704_0 := bcL HB.out hx704_0
 obtain ⟨p704, q704⟩ := ee p704 q704
 refine st_ (n := 16) (S := fun w' => w'.cell? ad699 = some (.slice A699_0 ((Ac1 l0 0).f0.f0).length c699_0) ∧ w'.cell? ⟨ad699.block, ad699.off + 1, none⟩ = some (.slice A699_1 ((Ac1 l0 0).f1).length c699_1) ∧ w'.cell? ⟨ad699.block, ad699.off + 2, none⟩ = some (.slice (some ad701) ((Ac1 l0 0).f2).length c699_2) ∧ w'.cell? ⟨ad699.block, ad699.off + 3, none⟩ = some (.slice (some ad704) ((Ac1 l0 0).f3).length c699_3) ∧ w'.cell? ⟨ad699.block, ad699.off + 4, none⟩ = some (.map (some ((Ac1 l0 0).f4).toNat)) ∧ w'.cell? (ad701.add (a1).toNat) = some (.int .i64 (rd ((Ac1 l0 0).f2) a1)) ∧ w'.cell? (ad704.add (a2).toNat) = some (.int .i64 (rd ((Ac1 l0 0).f3) a2))) (ds := []) ⟨(bcL HB.out hw699_0), (bcL HB.out hw699_1), (bcL HB.out hw699_2), (bcL HB.out hw699_3), (bcL HB.out hw699_4), (bcL HB.out hw701_0), (bcL HB.out hw704_0)⟩ (fun hHeld => ?_); refine Ah6 Aa1.tab1 Aa1.bits1 (fun HT_ HW_ => ?_)
 generalize w.drew = w10 at HB HR699_0 HR699_1 HR699_2 HR699_3 HR700_0 HR700_1 HR700_2 HR700_3 HR702_0 HR702_1 HR702_2 HR702_3 HR703_0 HR703_1 HR703_2 HR703_3 hx699_0 hx699_1 hx699_2 hx699_3 hx699_4 hx700_0 hx700_1 hx700_2 hx700_3 hx700_4 hx701_0 hx702_0 hx702_1 hx702_2 hx702_3 hx702_4 hx703_0 hx703_1 hx703_2 hx703_3 hx703_4 hx704_0 hHeld ⊢
 refine pu 0 18 rfl rfl HT_ ?_
 refine pu 1 19 rfl rfl HT_ ?_
 refine pu 2 20 rfl rfl HT_ ?_
 refine pu 4 22 rfl rfl HT_ ?_
 refine pu 7 25 rfl rfl HT_ ?_
 refine pu 8 26 rfl rfl HT_ ?_
 refine pu 9 27 rfl rfl HT_ ?_
 refine pu 11 29 rfl rfl HT_ ?_
 refine tk 3 21 rfl rfl HT_ HW_ hHeld ?_
 refine pu 5 23 rfl rfl HT_ ?_
 refine tk 6 24 rfl rfl HT_ HW_ hHeld ?_
 refine pu 14 7 rfl rfl HT_ ?_
 refine tk 10 28 rfl rfl HT_ HW_ hHeld ?_
 refine pu 12 30 rfl rfl HT_ ?_
 refine tk 13 31 rfl rfl HT_ HW_ hHeld ?_
 refine pu 15 8 rfl rfl HT_ ?_
 refine Ar3 (Al8 HT_.out (by kernel_rfl)) ?_
 go_upto_if 33 with (fail)
 have H := HC9.out
 clear HC9
 by_cases c11 : (rd ((Ac1 l0 0).f3) a2) < 0
 ·rw [if_pos c11] at H
  have c11b0 := decide_eq_true c11
  clear c11
  (first | rw [c11b0] | (simp only [Ae6, Ae7]; rw [c11b0]) | skip)
  by_cases c12 : (rd ((Ac1 l0 0).f2) a1) ≥ 0
  ·rw [if_pos c12] at H
   have c12b0 := decide_eq_true c12
   clear c12
   obtain ⟨t709, A13, H⟩ := ob H
   try dsimp only at H
   obtain ⟨t712, A14, H⟩ := ob H
   try dsimp only at H
   obtain rfl := Option.some.inj H
   try go_wp2
   replace HB := am (Af1 HB.out)
   have p705 : 0 ≤ (0 : Int) := (by omega)
   have q705 : 0 < (l0.length : Int) := od
   obtain ⟨ad705, A705_0, c705_0, A705_1, c705_1, A705_2, c705_2, A705_3, c705_3, e705, hx705_0, hx705_1, hx705_2, hx705_3, hx705_4, hl705_0, hi705_0, hl705_1, hi705_1, hl705_2, hi705_2, hl705_3, hi705_3⟩ := Bf4 HR0.out q705
   have hw705_4 := hx705_4
   have hw705_3 := hx705_3
   have hw705_2 := hx705_2
   have hw705_1 := hx705_1
   have hw705_0 := hx705_0
   obtain rfl : ad699 = ad705 := (by injection e705)
   have qi705 : (0 < l0.length) = True := eq_true (by omega)
   replace hx705_0 := bcL HB.out hx705_0
   replace hx705_1 := bcL HB.out hx705_1
   replace hx705_2 := bcL HB.out hx705_2
   replace hx705_3 := bcL HB.out hx705_3
   replace hx705_4 := bcL HB.out hx705_4
   have HR705_0 := am hi705_0
   have HC705_0 := am hl705_0
   clear hi705_0 hl705_0
   have HR705_1 := am hi705_1
   have HC705_1 := am hl705_1
   clear hi705_1 hl705_1
   have HR705_2 := am hi705_2
   have HC705_2 := am hl705_2
   clear hi705_2 hl705_2
   have HR705_3 := am hi705_3
   have HC705_3 := am hl705_3
   clear hi705_3 hl705_3
   obtain ⟨p705, q705⟩ := ee p705 q705
   have p706 : 0 ≤ (0 : Int) := (by omega)
   have q706 : 0 < (l0.length : Int) := od
   obtain ⟨ad706, A706_0, c706_0, A706_1, c706_1, A706_2, c706_2, A706_3, c706_3, e706, hx706_0, hx706_1, hx706_2, hx706_3, hx706_4, hl706_0, hi706_0, hl706_1, hi706_1, hl706_2, hi706_2, hl706_3, hi706_3⟩ := Bf4 HR0.out q706
   have hw706_4 := hx706_4
   have hw706_3 := hx706_3
   have hw706_2 := hx706_2
   have hw706_1 := hx706_1
   have hw706_0 := hx706_0
   obtain rfl : ad699 = ad706 := (by injection e706)
   have qi706 : (0 < l0.length) = True := eq_true (by omega)
   replace hx706_0 := bcL HB.out hx706_0
   replace hx706_1 := bcL HB.out hx706_1
   replace hx706_2 := bcL HB.out hx706_2
   replace hx706_3 := bcL HB.out hx706_3
   replace hx706_4 := bcL HB.out hx706_4
   have HR706_0 := am hi706_0
   have HC706_0 := am hl706_0
   clear hi706_0 hl706_0
   have HR706_1 := am hi706_1
   have HC706_1 := am hl706_1
   clear hi706_1 hl706_1
   have HR706_2 := am hi706_2
   have HC706_2 := am hl706_2
   clear hi706_2 hl706_2
   have HR706_3 := am hi706_3
   have HC706_3 := am hl706_3
   clear hi706_3 hl706_3
   obtain ⟨p706, q706⟩ := ee p706 q706
   obtain ⟨rfl, rfl⟩ := sj hx705_0 hx706_0
   obtain ⟨rfl, rfl⟩ := sj hx705_1 hx706_1
   obtain ⟨rfl, rfl⟩ := sj hx705_2 hx706_2
   obtain ⟨rfl, rfl⟩ := sj hx705_3 hx706_3
   have p707 : 0 ≤ (0 : Int) := (by omega)
   have q707 : 0 < (l0.length : Int) := od
   obtain ⟨ad707, A707_0, c707_0, A707_1, c707_1, A707_2, c707_2, A707_3, c707_3, e707, hx707_0, hx707_1, hx707_2, hx707_3, hx707_4, hl707_0, hi707_0, hl707_1, hi707_1, hl707_2, hi707_2, hl707_3, hi707_3⟩ := Bf4 HR0.out q707
   have hw707_4 := hx707_4
   have hw707_3 := hx707_3
   have hw707_2 := hx707_2
   have hw707_1 := hx707_1
   have hw707_0 := hx707_0
   obtain rfl : ad699 = ad707 := (by injection e707)
   have qi707 : (0 < l0.length) = True := eq_true (by omega)
   replace hx707_0 := bcL HB.out hx707_0
   replace hx707_1 := bcL HB.out hx707_1
   replace hx707_2 := bcL HB.out hx707_2
   replace hx707_3 := bcL HB.out hx707_3
   replace hx707_4 := bcL HB.out hx707_4
   have HR707_0 := am hi707_0
   have HC707_0 := am hl707_0
   clear hi707_0 hl707_0
   have HR707_1 := am hi707_1
   have HC707_1 := am hl707_1
   clear hi707_1 hl707_1
   have HR707_2 := am hi707_2
   have HC707_2 := am hl707_2
   clear hi707_2 hl707_2
   have HR707_3 := am hi707_3
   have HC707_3 := am hl707_3
   clear hi707_3 hl707_3
   obtain ⟨p707, q707⟩ := ee p707 q707
   obtain ⟨rfl, rfl⟩ := sj hx705_0 hx707_0
   obtain ⟨rfl, rfl⟩ := sj hx705_1 hx707_1
   obtain ⟨rfl, rfl⟩ := sj hx705_2 hx707_2
   obtain ⟨rfl, rfl⟩ := sj hx705_3 hx707_3
   have p708 : 0 ≤ (0 : Int) := (by omega)
   have q708 : 0 < (l0.length : Int) := od
   obtain ⟨ad708, A708_0, c708_0, A708_1, c708_1, A708_2, c708_2, A708_3, c708_3, e708, hx708_0, hx708_1, hx708_2, hx708_3, hx708_4, hl708_0, hi708_0, hl708_1, hi708_1, hl708_2, hi708_2, hl708_3, hi708_3⟩ := Bf4 HR0.out q708
   have hw708_4 := hx708_4
   have hw708_3 := hx708_3
   have hw708_2 := hx708_2
   have hw708_1 := hx708_1
   have hw708_0 := hx708_0
   obtain rfl : ad699 = ad708 := (by injection e708)
   have qi708 : (0 < l0.length) = True := eq_true (by omega)
   replace hx708_0 := bcL HB.out hx708_0
   replace hx708_1 := bcL HB.out hx708_1
   replace hx708_2 := bcL HB.out hx708_2
   replace hx708_3 := bcL HB.out hx708_3
   replace hx708_4 := bcL HB.out hx708_4
   have HR708_0 := am hi708_0
   have HC708_0 := am hl708_0
   clear hi708_0 hl708_0
   have HR708_1 := am hi708_1
   have HC708_1 := am hl708_1
   clear hi708_1 hl708_1
   have HR708_2 := am hi708_2
   have HC708_2 := am hl708_2
   clear hi708_2 hl708_2
   have HR708_3 := am hi708_3
   have HC708_3 := am hl708_3
   clear hi708_3 hl708_3
   obtain ⟨p708, q708⟩ := ee p708 q708
   obtain ⟨rfl, rfl⟩ := sj hx705_0 hx708_0
   obtain ⟨rfl, rfl⟩ := sj hx705_1 hx708_1
   obtain ⟨rfl, rfl⟩ := sj hx705_2 hx708_2
   obtain ⟨rfl, rfl⟩ := sj hx705_3 hx708_3
   refine st_ (n := 17) (S := fun w' => w'.cell? ad699 = some (.slice A705_0 ((Ac1 l0 0).f0.f0).length c705_0) ∧ w'.cell? ⟨ad699.block, ad699.off + 1, none⟩ = some (.slice A705_1 ((Ac1 l0 0).f1).length c705_1) ∧ w'.cell? ⟨ad699.block, ad699.off + 2, none⟩ = some (.slice A705_2 ((Ac1 l0 0).f2).length c705_2) ∧ w'.cell? ⟨ad699.block, ad699.off + 3, none⟩ = some (.slice A705_3 ((Ac1 l0 0).f3).length c705_3) ∧ w'.cell? ⟨ad699.block, ad699.off + 4, none⟩ = some (.map (some ((Ac1 l0 0).f4).toNat))) (ds := []) ⟨(bcL HB.out hw705_0), (bcL HB.out hw705_1), (bcL HB.out hw705_2), (bcL HB.out hw705_3), (bcL HB.out hw705_4)⟩ (fun hHeld => ?_); refine Ah6 Aa1.tab3 Aa1.bits3 (fun HT_ HW_ => ?_)
   generalize w10.drew = w15 at HB HR705_0 HR705_1 HR705_2 HR705_3 HR706_0 HR706_1 HR706_2 HR706_3 HR707_0 HR707_1 HR707_2 HR707_3 HR708_0 HR708_1 HR708_2 HR708_3 hx705_0 hx705_1 hx705_2 hx705_3 hx705_4 hx706_0 hx706_1 hx706_2 hx706_3 hx706_4 hx707_0 hx707_1 hx707_2 hx707_3 hx707_4 hx708_0 hx708_1 hx708_2 hx708_3 hx708_4 hHeld ⊢
   refine pu 0 34 rfl rfl HT_ ?_
   refine pu 1 35 rfl rfl HT_ ?_
   refine pu 2 36 rfl rfl HT_ ?_
   refine pu 3 37 rfl rfl HT_ ?_
   refine pu 4 38 rfl rfl HT_ ?_
   refine pu 5 39 rfl rfl HT_ ?_
   refine pu 7 41 rfl rfl HT_ ?_
   refine pu 8 42 rfl rfl HT_ ?_
   refine pu 9 43 rfl rfl HT_ ?_
   refine pu 11 45 rfl rfl HT_ ?_
   refine pu 13 47 rfl rfl HT_ ?_
   refine tk 6 40 rfl rfl HT_ HW_ hHeld ?_
   refine tk 10 44 rfl rfl HT_ HW_ hHeld ?_
   refine on_ 12 (some 46) rfl rfl HT_ (fun K hK => ?_)
   refine gs Tryz.func114 #[.agg #[.slice A705_0 ((Ac1 l0 0).f0.f0).length c705_0], .slice A705_2 ((Ac1 l0 0).f2).length c705_2, .int .i64 a1] ?_
   refine (Ag6.calls k _ _ ((Ac1 l0 0).f0.f0) (fun k_ => k_ < w.heap.size) _ _ ((Ac1 l0 0).f2) a1 t709 _ (cq (Kd.C_below HR706_0.out HB.out)) HC706_0.out (Kd.V_mk HC708_2.out (Kd.F_below (Kd.C_F (Kd.heap_int .i64) HR708_2.out) (hq HB.out))) A13.out).mono ?_
   rintro e w16 ⟨v710, rfl, ho0, hb⟩
   refine ⟨_, rfl, ?_⟩
   have HO711 := am (Kd.V_lower (Kd.V_mono (ok' := fun k_ => True) ho0 (fun k_ hk_ => trivial)) (Ac5 (hq HB.out)))
   replace HB := sb HB hb
   (try clear hb)
   (try clear hk)
   (try clear ho0)
   obtain ⟨Ao17, co17, eo17⟩ := Kd.V_slice HO711.out
   (first | subst eo17 | (injection eo17 with f1_ f2_ f3_; have f4_ := f1_.symm; have f5_ := f3_.symm; clear f1_ f2_ f3_; subst f4_; subst f5_))
   refine hK.out _ _ ⟨(bcL HB.out hw705_0), (bcL HB.out hw705_1), (bcL HB.out hw705_2), (bcL HB.out hw705_3), (bcL HB.out hw705_4)⟩ (fun hHeld => ?_)
   clear hK K
   refine nr (some 46) ?_
   refine on_ 14 (some 48) rfl rfl HT_ (fun K hK => ?_)
   refine gs Tryz.func57 #[.slice Ao17 t709.length co17, .int .i64 (rd ((Ac1 l0 0).f3) a2)] ?_
   refine (Ad0.calls k _ _ t709 (rd ((Ac1 l0 0).f3) a2) t712 _ (cq (Kd.V_reads' HO711.out).2.2) ((Kd.V_reads' HO711.out).2.1) A14.out).mono ?_
   rintro e w' ⟨rfl, ⟨nd, rfl⟩⟩
   refine ⟨_, rfl, ?_⟩
   refine hK.out _ _ ⟨(bcL HB.out hw705_0), (bcL HB.out hw705_1), (bcL HB.out hw705_2), (bcL HB.out hw705_3), (bcL HB.out hw705_4)⟩ (fun hHeld => ?_)
   clear hK K
   refine nr (some 48) ?_
   refine pu 15 49 rfl rfl HT_ ?_
   refine pu 16 6 rfl rfl HT_ ?_
   refine Ar3 (Al8 HT_.out (by kernel_rfl)) ?_
   try go_wp2
   go_ret
   exact ⟨er, Bel.of HI.out (hq HB.out)⟩
  ·rw [if_neg c12] at H
   have c12b0 := decide_eq_false c12
   clear c12
   obtain rfl := Option.some.inj H
   try go_wp2
   replace HB := am (Af1 HB.out)
   refine st_ (n := 17) (S := fun w' => True) (ds := []) trivial (fun hHeld => ?_); refine Ah6 Aa1.tab3 Aa1.bits3 (fun HT_ HW_ => ?_)
   generalize w10.drew = w18 at HB hHeld ⊢
   refine pu 0 34 rfl rfl HT_ ?_
   refine pu 1 35 rfl rfl HT_ ?_
   refine pu 2 36 rfl rfl HT_ ?_
   refine pz 3 37 rfl rfl HT_ ?_
   refine pz 4 38 rfl rfl HT_ ?_
   refine pz 5 39 rfl rfl HT_ ?_
   refine pz 6 40 rfl rfl HT_ ?_
   refine pz 7 41 rfl rfl HT_ ?_
   refine pz 8 42 rfl rfl HT_ ?_
   refine pz 9 43 rfl rfl HT_ ?_
   refine pz 10 44 rfl rfl HT_ ?_
   refine pz 11 45 rfl rfl HT_ ?_
   refine pz 12 46 rfl rfl HT_ ?_
   refine pz 13 47 rfl rfl HT_ ?_
   refine pz 14 48 rfl rfl HT_ ?_
   refine pu 15 49 rfl rfl HT_ ?_
   refine pu 16 6 rfl rfl HT_ ?_
   refine Ar3 (Al8 HT_.out (by kernel_rfl)) ?_
   try go_wp2
   go_ret
   exact ⟨er, Bel.of HI.out (hq HB.out)⟩
 ·rw [if_neg c11] at H
  have c11b0 := decide_eq_false c11
  clear c11
  (first | rw [c11b0] | (simp only [Ae6, Ae7]; rw [c11b0]) | skip)
  by_cases c19 : (rd ((Ac1 l0 0).f2) a1) < 0
  ·rw [if_pos c19] at H
   have c19b0 := decide_eq_true c19
   clear c19
   obtain rfl := Option.some.inj H
   go_wp2
   go_ret
   exact ⟨er, Bel.of HI.out (hq HB.out)⟩
  ·rw [if_neg c19] at H
   have c19b0 := decide_eq_false c19
   clear c19
   obtain ⟨t717, A20, H⟩ := ob H
   try dsimp only at H
   obtain ⟨t724, A21, H⟩ := ob H
   try dsimp only at H
   have H' := am H
   clear H
   try go_wp2
   replace HB := am (Af1 HB.out)
   have p713 : 0 ≤ (0 : Int) := (by omega)
   have q713 : 0 < (l0.length : Int) := od
   obtain ⟨ad713, A713_0, c713_0, A713_1, c713_1, A713_2, c713_2, A713_3, c713_3, e713, hx713_0, hx713_1, hx713_2, hx713_3, hx713_4, hl713_0, hi713_0, hl713_1, hi713_1, hl713_2, hi713_2, hl713_3, hi713_3⟩ := Bf4 HR0.out q713
   have hw713_4 := hx713_4
   have hw713_3 := hx713_3
   have hw713_2 := hx713_2
   have hw713_1 := hx713_1
   have hw713_0 := hx713_0
   obtain rfl : ad699 = ad713 := (by injection e713)
   have qi713 : (0 < l0.length) = True := eq_true (by omega)
   replace hx713_0 := bcL HB.out hx713_0
   replace hx713_1 := bcL HB.out hx713_1
   replace hx713_2 := bcL HB.out hx713_2
   replace hx713_3 := bcL HB.out hx713_3
   replace hx713_4 := bcL HB.out hx713_4
   have HR713_0 := am hi713_0
   have HC713_0 := am hl713_0
   clear hi713_0 hl713_0
   have HR713_1 := am hi713_1
   have HC713_1 := am hl713_1
   clear hi713_1 hl713_1
   have HR713_2 := am hi713_2
   have HC713_2 := am hl713_2
   clear hi713_2 hl713_2
   have HR713_3 := am hi713_3
   have HC713_3 := am hl713_3
   clear hi713_3 hl713_3
   obtain ⟨p713, q713⟩ := ee p713 q713
   have p714 : 0 ≤ (0 : Int) := (by omega)
   have q714 : 0 < (l0.length : Int) := od
   obtain ⟨ad714, A714_0, c714_0, A714_1, c714_1, A714_2, c714_2, A714_3, c714_3, e714, hx714_0, hx714_1, hx714_2, hx714_3, hx714_4, hl714_0, hi714_0, hl714_1, hi714_1, hl714_2, hi714_2, hl714_3, hi714_3⟩ := Bf4 HR0.out q714
   have hw714_4 := hx714_4
   have hw714_3 := hx714_3
   have hw714_2 := hx714_2
   have hw714_1 := hx714_1
   have hw714_0 := hx714_0
   obtain rfl : ad699 = ad714 := (by injection e714)
   have qi714 : (0 < l0.length) = True := eq_true (by omega)
   replace hx714_0 := bcL HB.out hx714_0
   replace hx714_1 := bcL HB.out hx714_1
   replace hx714_2 := bcL HB.out hx714_2
   replace hx714_3 := bcL HB.out hx714_3
   replace hx714_4 := bcL HB.out hx714_4
   have HR714_0 := am hi714_0
   have HC714_0 := am hl714_0
   clear hi714_0 hl714_0
   have HR714_1 := am hi714_1
   have HC714_1 := am hl714_1
   clear hi714_1 hl714_1
   have HR714_2 := am hi714_2
   have HC714_2 := am hl714_2
   clear hi714_2 hl714_2
   have HR714_3 := am hi714_3
   have HC714_3 := am hl714_3
   clear hi714_3 hl714_3
   obtain ⟨p714, q714⟩ := ee p714 q714
   obtain ⟨rfl, rfl⟩ := sj hx713_0 hx714_0
   obtain ⟨rfl, rfl⟩ := sj hx713_1 hx714_1
   obtain ⟨rfl, rfl⟩ := sj hx713_2 hx714_2
   obtain ⟨rfl, rfl⟩ := sj hx713_3 hx714_3
   have p715 : 0 ≤ (0 : Int) := (by omega)
   have q715 : 0 < (l0.length : Int) := od
   obtain ⟨ad715, A715_0, c715_0, A715_1, c715_1, A715_2, c715_2, A715_3, c715_3, e715, hx715_0, hx715_1, hx715_2, hx715_3, hx715_4, hl715_0, hi715_0, hl715_1, hi715_1, hl715_2, hi715_2, hl715_3, hi715_3⟩ := Bf4 HR0.out q715
   have hw715_4 := hx715_4
   have hw715_3 := hx715_3
   have hw715_2 := hx715_2
   have hw715_1 := hx715_1
   have hw715_0 := hx715_0
   obtain rfl : ad699 = ad715 := (by injection e715)
   have qi715 : (0 < l0.length) = True := eq_true (by omega)
   replace hx715_0 := bcL HB.out hx715_0
   replace hx715_1 := bcL HB.out hx715_1
   replace hx715_2 := bcL HB.out hx715_2
   replace hx715_3 := bcL HB.out hx715_3
   replace hx715_4 := bcL HB.out hx715_4
   have HR715_0 := am hi715_0
   have HC715_0 := am hl715_0
   clear hi715_0 hl715_0
   have HR715_1 := am hi715_1
   have HC715_1 := am hl715_1
   clear hi715_1 hl715_1
   have HR715_2 := am hi715_2
   have HC715_2 := am hl715_2
   clear hi715_2 hl715_2
   have HR715_3 := am hi715_3
   have HC715_3 := am hl715_3
   clear hi715_3 hl715_3
   obtain ⟨p715, q715⟩ := ee p715 q715
   obtain ⟨rfl, rfl⟩ := sj hx713_0 hx715_0
   obtain ⟨rfl, rfl⟩ := sj hx713_1 hx715_1
   obtain ⟨rfl, rfl⟩ := sj hx713_2 hx715_2
   obtain ⟨rfl, rfl⟩ := sj hx713_3 hx715_3
   have p716 : 0 ≤ (0 : Int) := (by omega)
   have q716 : 0 < (l0.length : Int) := od
   obtain ⟨ad716, A716_0, c716_0, A716_1, c716_1, A716_2, c716_2, A716_3, c716_3, e716, hx716_0, hx716_1, hx716_2, hx716_3, hx716_4, hl716_0, hi716_0, hl716_1, hi716_1, hl716_2, hi716_2, hl716_3, hi716_3⟩ := Bf4 HR0.out q716
   have hw716_4 := hx716_4
   have hw716_3 := hx716_3
   have hw716_2 := hx716_2
   have hw716_1 := hx716_1
   have hw716_0 := hx716_0
   obtain rfl : ad699 = ad716 := (by injection e716)
   have qi716 : (0 < l0.length) = True := eq_true (by omega)
   replace hx716_0 := bcL HB.out hx716_0
   replace hx716_1 := bcL HB.out hx716_1
   replace hx716_2 := bcL HB.out hx716_2
   replace hx716_3 := bcL HB.out hx716_3
   replace hx716_4 := bcL HB.out hx716_4
   have HR716_0 := am hi716_0
   have HC716_0 := am hl716_0
   clear hi716_0 hl716_0
   have HR716_1 := am hi716_1
   have HC716_1 := am hl716_1
   clear hi716_1 hl716_1
   have HR716_2 := am hi716_2
   have HC716_2 := am hl716_2
   clear hi716_2 hl716_2
   have HR716_3 := am hi716_3
   have HC716_3 := am hl716_3
   clear hi716_3 hl716_3
   obtain ⟨p716, q716⟩ := ee p716 q716
   obtain ⟨rfl, rfl⟩ := sj hx713_0 hx716_0
   obtain ⟨rfl, rfl⟩ := sj hx713_1 hx716_1
   obtain ⟨rfl, rfl⟩ := sj hx713_2 hx716_2
   obtain ⟨rfl, rfl⟩ := sj hx713_3 hx716_3
   have p720 : 0 ≤ (0 : Int) := (by omega)
   have q720 : 0 < (l0.length : Int) := od
   obtain ⟨ad720, A720_0, c720_0, A720_1, c720_1, A720_2, c720_2, A720_3, c720_3, e720, hx720_0, hx720_1, hx720_2, hx720_3, hx720_4, hl720_0, hi720_0, hl720_1, hi720_1, hl720_2, hi720_2, hl720_3, hi720_3⟩ := Bf4 HR0.out q720
   have hw720_4 := hx720_4
   have hw720_3 := hx720_3
   have hw720_2 := hx720_2
   have hw720_1 := hx720_1
   have hw720_0 := hx720_0
   obtain rfl : ad699 = ad720 := (by injection e720)
   have qi720 : (0 < l0.length) = True := eq_true (by omega)
   replace hx720_0 := bcL HB.out hx720_0
   replace hx720_1 := bcL HB.out hx720_1
   replace hx720_2 := bcL HB.out hx720_2
   replace hx720_3 := bcL HB.out hx720_3
   replace hx720_4 := bcL HB.out hx720_4
   have HR720_0 := am hi720_0
   have HC720_0 := am hl720_0
   clear hi720_0 hl720_0
   have HR720_1 := am hi720_1
   have HC720_1 := am hl720_1
   clear hi720_1 hl720_1
   have HR720_2 := am hi720_2
   have HC720_2 := am hl720_2
   clear hi720_2 hl720_2
   have HR720_3 := am hi720_3
   have HC720_3 := am hl720_3
   clear hi720_3 hl720_3
   obtain ⟨p720, q720⟩ := ee p720 q720
   obtain ⟨rfl, rfl⟩ := sj hx713_0 hx720_0
   obtain ⟨rfl, rfl⟩ := sj hx713_1 hx720_1
   obtain ⟨rfl, rfl⟩ := sj hx713_2 hx720_2
   obtain ⟨rfl, rfl⟩ := sj hx713_3 hx720_3
   have p721 : 0 ≤ (0 : Int) := (by omega)
   have q721 : 0 < (l0.length : Int) := od
   obtain ⟨ad721, A721_0, c721_0, A721_1, c721_1, A721_2, c721_2, A721_3, c721_3, e721, hx721_0, hx721_1, hx721_2, hx721_3, hx721_4, hl721_0, hi721_0, hl721_1, hi721_1, hl721_2, hi721_2, hl721_3, hi721_3⟩ := Bf4 HR0.out q721
   have hw721_4 := hx721_4
   have hw721_3 := hx721_3
   have hw721_2 := hx721_2
   have hw721_1 := hx721_1
   have hw721_0 := hx721_0
   obtain rfl : ad699 = ad721 := (by injection e721)
   have qi721 : (0 < l0.length) = True := eq_true (by omega)
   replace hx721_0 := bcL HB.out hx721_0
   replace hx721_1 := bcL HB.out hx721_1
   replace hx721_2 := bcL HB.out hx721_2
   replace hx721_3 := bcL HB.out hx721_3
   replace hx721_4 := bcL HB.out hx721_4
   have HR721_0 := am hi721_0
   have HC721_0 := am hl721_0
   clear hi721_0 hl721_0
   have HR721_1 := am hi721_1
   have HC721_1 := am hl721_1
   clear hi721_1 hl721_1
   have HR721_2 := am hi721_2
   have HC721_2 := am hl721_2
   clear hi721_2 hl721_2
   have HR721_3 := am hi721_3
   have HC721_3 := am hl721_3
   clear hi721_3 hl721_3
   obtain ⟨p721, q721⟩ := ee p721 q721
   obtain ⟨rfl, rfl⟩ := sj hx713_0 hx721_0
   obtain ⟨rfl, rfl⟩ := sj hx713_1 hx721_1
   obtain ⟨rfl, rfl⟩ := sj hx713_2 hx721_2
   obtain ⟨rfl, rfl⟩ := sj hx713_3 hx721_3
   have p722 : 0 ≤ (0 : Int) := (by omega)
   have q722 : 0 < (l0.length : Int) := od
   obtain ⟨ad722, A722_0, c722_0, A722_1, c722_1, A722_2, c722_2, A722_3, c722_3, e722, hx722_0, hx722_1, hx722_2, hx722_3, hx722_4, hl722_0, hi722_0, hl722_1, hi722_1, hl722_2, hi722_2, hl722_3, hi722_3⟩ := Bf4 HR0.out q722
   have hw722_4 := hx722_4
   have hw722_3 := hx722_3
   have hw722_2 := hx722_2
   have hw722_1 := hx722_1
   have hw722_0 := hx722_0
   obtain rfl : ad699 = ad722 := (by injection e722)
   have qi722 : (0 < l0.length) = True := eq_true (by omega)
   replace hx722_0 := bcL HB.out hx722_0
   replace hx722_1 := bcL HB.out hx722_1
   replace hx722_2 := bcL HB.out hx722_2
   replace hx722_3 := bcL HB.out hx722_3
   replace hx722_4 := bcL HB.out hx722_4
   have HR722_0 := am hi722_0
   have HC722_0 := am hl722_0
   clear hi722_0 hl722_0
   have HR722_1 := am hi722_1
   have HC722_1 := am hl722_1
   clear hi722_1 hl722_1
   have HR722_2 := am hi722_2
   have HC722_2 := am hl722_2
   clear hi722_2 hl722_2
   have HR722_3 := am hi722_3
   have HC722_3 := am hl722_3
   clear hi722_3 hl722_3
   obtain ⟨p722, q722⟩ := ee p722 q722
   obtain ⟨rfl, rfl⟩ := sj hx713_0 hx722_0
   obtain ⟨rfl, rfl⟩ := sj hx713_1 hx722_1
   obtain ⟨rfl, rfl⟩ := sj hx713_2 hx722_2
   obtain ⟨rfl, rfl⟩ := sj hx713_3 hx722_3
   have p723 : 0 ≤ (0 : Int) := (by omega)
   have q723 : 0 < (l0.length : Int) := od
   obtain ⟨ad723, A723_0, c723_0, A723_1, c723_1, A723_2, c723_2, A723_3, c723_3, e723, hx723_0, hx723_1, hx723_2, hx723_3, hx723_4, hl723_0, hi723_0, hl723_1, hi723_1, hl723_2, hi723_2, hl723_3, hi723_3⟩ := Bf4 HR0.out q723
   have hw723_4 := hx723_4
   have hw723_3 := hx723_3
   have hw723_2 := hx723_2
   have hw723_1 := hx723_1
   have hw723_0 := hx723_0
   obtain rfl : ad699 = ad723 := (by injection e723)
   have qi723 : (0 < l0.length) = True := eq_true (by omega)
   replace hx723_0 := bcL HB.out hx723_0
   replace hx723_1 := bcL HB.out hx723_1
   replace hx723_2 := bcL HB.out hx723_2
   replace hx723_3 := bcL HB.out hx723_3
   replace hx723_4 := bcL HB.out hx723_4
   have HR723_0 := am hi723_0
   have HC723_0 := am hl723_0
   clear hi723_0 hl723_0
   have HR723_1 := am hi723_1
   have HC723_1 := am hl723_1
   clear hi723_1 hl723_1
   have HR723_2 := am hi723_2
   have HC723_2 := am hl723_2
   clear hi723_2 hl723_2
   have HR723_3 := am hi723_3
   have HC723_3 := am hl723_3
   clear hi723_3 hl723_3
   obtain ⟨p723, q723⟩ := ee p723 q723
   obtain ⟨rfl, rfl⟩ := sj hx713_0 hx723_0
   obtain ⟨rfl, rfl⟩ := sj hx713_1 hx723_1
   obtain ⟨rfl, rfl⟩ := sj hx713_2 hx723_2
   obtain ⟨rfl, rfl⟩ := sj hx713_3 hx723_3
   refine st_ (n := 22) (S := fun w' => w'.cell? ad699 = some (.slice A713_0 ((Ac1 l0 0).f0.f0).length c713_0) ∧ w'.cell? ⟨ad699.block, ad699.off + 1, none⟩ = some (.slice A713_1 ((Ac1 l0 0).f1).length c713_1) ∧ w'.cell? ⟨ad699.block, ad699.off + 2, none⟩ = some (.slice A713_2 ((Ac1 l0 0).f2).length c713_2) ∧ w'.cell? ⟨ad699.block, ad699.off + 3, none⟩ = some (.slice A713_3 ((Ac1 l0 0).f3).length c713_3) ∧ w'.cell? ⟨ad699.block, ad699.off + 4, none⟩ = some (.map (some ((Ac1 l0 0).f4).toNat))) (ds := []) ⟨(bcL HB.out hw713_0), (bcL HB.out hw713_1), (bcL HB.out hw713_2), (bcL HB.out hw713_3), (bcL HB.out hw713_4)⟩ (fun hHeld => ?_); refine Ah6 Aa1.tab6 Aa1.bits6 (fun HT_ HW_ => ?_)
   generalize w10.drew = w22 at HB HR713_0 HR713_1 HR713_2 HR713_3 HR714_0 HR714_1 HR714_2 HR714_3 HR715_0 HR715_1 HR715_2 HR715_3 HR716_0 HR716_1 HR716_2 HR716_3 HR720_0 HR720_1 HR720_2 HR720_3 HR721_0 HR721_1 HR721_2 HR721_3 HR722_0 HR722_1 HR722_2 HR722_3 HR723_0 HR723_1 HR723_2 HR723_3 hx713_0 hx713_1 hx713_2 hx713_3 hx713_4 hx714_0 hx714_1 hx714_2 hx714_3 hx714_4 hx715_0 hx715_1 hx715_2 hx715_3 hx715_4 hx716_0 hx716_1 hx716_2 hx716_3 hx716_4 hx720_0 hx720_1 hx720_2 hx720_3 hx720_4 hx721_0 hx721_1 hx721_2 hx721_3 hx721_4 hx722_0 hx722_1 hx722_2 hx722_3 hx722_4 hx723_0 hx723_1 hx723_2 hx723_3 hx723_4 hHeld ⊢
   refine pu 0 52 rfl rfl HT_ ?_
   refine pu 1 53 rfl rfl HT_ ?_
   refine pu 2 54 rfl rfl HT_ ?_
   refine pu 4 56 rfl rfl HT_ ?_
   refine pu 5 57 rfl rfl HT_ ?_
   refine pu 6 58 rfl rfl HT_ ?_
   refine pu 8 60 rfl rfl HT_ ?_
   refine pu 10 62 rfl rfl HT_ ?_
   refine pu 11 63 rfl rfl HT_ ?_
   refine pu 12 64 rfl rfl HT_ ?_
   refine pu 14 66 rfl rfl HT_ ?_
   refine pu 15 67 rfl rfl HT_ ?_
   refine pu 16 68 rfl rfl HT_ ?_
   refine pu 18 70 rfl rfl HT_ ?_
   refine tk 3 55 rfl rfl HT_ HW_ hHeld ?_
   refine tk 7 59 rfl rfl HT_ HW_ hHeld ?_
   refine tk 13 65 rfl rfl HT_ HW_ hHeld ?_
   refine tk 17 69 rfl rfl HT_ HW_ hHeld ?_
   refine on_ 9 (some 61) rfl rfl HT_ (fun K hK => ?_)
   refine gs Tryz.func115 #[.agg #[.slice A713_0 ((Ac1 l0 0).f0.f0).length c713_0], .slice A713_2 ((Ac1 l0 0).f2).length c713_2, .int .i64 a1] ?_
   refine (Ac8.calls k _ _ ((Ac1 l0 0).f0.f0) _ _ ((Ac1 l0 0).f2) a1 t717 _ (cq (Kd.C_below HR714_0.out HB.out)) HC714_0.out (cq (Kd.C_below HR716_2.out HB.out)) HC716_2.out A20.out).mono ?_
   rintro e w23 ⟨v718, rfl, ho0, hb⟩
   refine ⟨_, rfl, ?_⟩
   have HO719 := am (Kd.R_lower ho0 (Ac5 (hq HB.out)))
   replace HB := sb HB hb
   (try clear hb)
   (try clear hk)
   (try clear ho0)
   refine hK.out _ _ ⟨(bcL HB.out hw713_0), (bcL HB.out hw713_1), (bcL HB.out hw713_2), (bcL HB.out hw713_3), (bcL HB.out hw713_4)⟩ (fun hHeld => ?_)
   clear hK K
   refine nr (some 61) ?_
   refine on_ 19 (some 71) rfl rfl HT_ (fun K hK => ?_)
   refine gs Tryz.func115 #[.agg #[.slice A713_0 ((Ac1 l0 0).f0.f0).length c713_0], .slice A713_3 ((Ac1 l0 0).f3).length c713_3, .int .i64 a2] ?_
   refine (Ac8.calls k _ _ ((Ac1 l0 0).f0.f0) _ _ ((Ac1 l0 0).f3) a2 t724 _ (cq (Kd.C_below HR721_0.out HB.out)) HC721_0.out (cq (Kd.C_below HR723_3.out HB.out)) HC723_3.out A21.out).mono ?_
   rintro e w24 ⟨v725, rfl, ho0, hb⟩
   refine ⟨_, rfl, ?_⟩
   have HO726 := am (Kd.R_lower (Kd.R_new' ho0 (Kd.R_lt (rq HO719.out))) (Ac5 (hq HB.out)))
   replace HO719 := am (Kd.R_elder' (rq HO719.out) (Kd.R_base ho0) hb)
   replace HB := sb HB hb
   (try clear hb)
   (try clear hk)
   (try clear ho0)
   refine hK.out _ _ ⟨(bcL HB.out hw713_0), (bcL HB.out hw713_1), (bcL HB.out hw713_2), (bcL HB.out hw713_3), (bcL HB.out hw713_4)⟩ (fun hHeld => ?_)
   clear hK K
   refine nr (some 71) ?_
   refine pu 20 9 rfl rfl HT_ ?_
   refine pu 21 10 rfl rfl HT_ ?_
   refine Ar3 (Al8 HT_.out (by kernel_rfl)) ?_
   obtain ⟨Ao25, co25, eo25⟩ := Kd.R_slice HO719.out
   subst eo25
   try go_wp2
   have HB_ := am (Bel.of HI.out HB.out)
   clear HB
   have HB := HB_
   clear HB_
   go_loopg [74] k (fun kq v74 w' => ∃ (x74_1 : Int), v74 = .int .i64 x74_1 ∧ Aside0 (Aa1.l0 g kq l0 a1 a2 (rd ((Ac1 l0 0).f2) a1) (rd ((Ac1 l0 0).f3) a2) t717 t724 t717 (t717.length : Int) x74_1 = some r) ∧ Aside0 (kq ≤ k) ∧ Aside0 (Kd.R (Kd.int .i64) 3 w' w.heap.size (fun k_ => some k_ ≠ (v725 : Value).ownBlock) (.slice Ao25 t717.length co25) t717) ∧ Aside0 (Kd.R (Kd.int .i64) 3 w' w.heap.size (fun k_ => some k_ ≠ ((.slice Ao25 t717.length co25) : Value).ownBlock ∧ some k_ ≠ ((.slice Ao25 t717.length co25) : Value).ownBlock) v725 t724) ∧ Aside0 (Kd.R (Kd.int .i64) 3 w' w.heap.size (fun k_ => some k_ ≠ (v725 : Value).ownBlock) (.slice Ao25 t717.length co25) t717) ∧ Aside0 (Bel G mb w.heap.size w w'))
   case atStart => exact ⟨(0), et, H', ⟨Nat.le_refl _⟩, ⟨rq (Kd.R_mono HO719.out (fun _ hk => hk.2))⟩, ⟨by (with_reducible repeat (first | apply Kd.R_alloc | apply Kd.R_drewN | apply Kd.R_drew)); exact Kd.R_mono HO726.out (fun _ hk => by first | exact ⟨hk.2, hk.2⟩ | exact ⟨hk.2, hk.2⟩ | trivial)⟩, ⟨rq (Kd.R_mono HO719.out (fun _ hk => hk.2))⟩, ⟨by repeat (first | (with_reducible first | exact HB.out | apply Ai6 | apply Ai7 | apply Aj8) | exact HB.out)⟩⟩
   case round =>
    clear H'
    try clear c11; try clear hx713_0; try clear hx713_1; try clear hx713_2; try clear hx713_3; try clear hx713_4; try clear hx714_0; try clear hx714_1; try clear hx714_2; try clear hx714_3; try clear hx714_4; try clear hx715_0; try clear hx715_1; try clear hx715_2; try clear hx715_3; try clear hx715_4; try clear hx716_0; try clear hx716_1; try clear hx716_2; try clear hx716_3; try clear hx716_4; try clear hx720_0; try clear hx720_1; try clear hx720_2; try clear hx720_3; try clear hx720_4; try clear hx721_0; try clear hx721_1; try clear hx721_2; try clear hx721_3; try clear hx721_4; try clear hx722_0; try clear hx722_1; try clear hx722_2; try clear hx722_3; try clear hx722_4; try clear hx723_0; try clear hx723_1; try clear hx723_2; try clear hx723_3; try clear hx723_4; try clear p716; try clear p720; try clear p721; try clear p722; try clear p723; try clear q716; try clear q720; try clear q721; try clear q722; try clear q723
    obtain ⟨x74_1, rfl, HA, HK1, HO_9, HO_10, HO_72, HB⟩ := hrel
    cases gk with
    | zero => exact absurd HA.out (by simp [Aa1.l0])
    | succ k1 =>
     have H := HA.out
     clear HA
     simp only [Aa1.l0] at H
     by_cases c26 : x74_1 < (t717.length : Int)
     ·rw [if_pos c26] at H
      have c26b0 := decide_eq_true c26
      clear c26
      obtain ⟨c27b0, H⟩ := ife H
      obtain ⟨c28b0, H⟩ := ife H
      obtain ⟨t728, A29, H⟩ := ob H
      try dsimp only at H
      by_cases c30 : t728 = true
      ·subst c30
       rw [if_pos rfl] at H
       obtain rfl := Option.some.inj H
       have p727 : 0 ≤ (x74_1 : Int) := od
       have q727 : x74_1 < (t717.length : Int) := od
       obtain ⟨ad727, e727, hx727_0⟩ := Kd.at_int (Kd.R_reads' HO_72.out).2.2 x74_1 p727 q727
       cases e727
       obtain ⟨p727, q727⟩ := ee p727 q727
       go_wp2_with (first | (refine gl (some 81) Tryz.func116 rfl #[.pointer (some ad699), .int .i64 (rd t717 x74_1), .int .i64 a2] ?_; refine (Ac9.calls k1 _ l0 (rd t717 x74_1) a2 true _ (cq (Bk9 HF0.out HB.out)) A29.out).mono ?_; rintro e w31 ⟨rfl, hb⟩; refine ⟨_, rfl, ?_⟩; replace HO_9 := rb HO_9 hb; replace HO_10 := rb HO_10 hb; replace HO_72 := rb HO_72 hb; replace HB := am (Aw8 (by repeat (first | (with_reducible first | exact HB.out | apply Ai6 | apply Ai7 | apply Aj8) | exact HB.out)) hb); clear hb; (try clear hk)))
       go_ret
       exact ⟨er, by repeat (first | (with_reducible first | exact HB.out | apply Ai6 | apply Ai7 | apply Aj8) | exact HB.out)⟩
      ·replace c30 := Bool.eq_false_iff.mpr c30
       subst c30
       rw [if_neg (show ¬ (false = true) by decide)] at H
       obtain ⟨t729, A32, H⟩ := ob H
       try dsimp only at H
       have HC33 := am H
       clear H
       have p727 : 0 ≤ (x74_1 : Int) := od
       have q727 : x74_1 < (t717.length : Int) := od
       obtain ⟨ad727, e727, hx727_0⟩ := Kd.at_int (Kd.R_reads' HO_72.out).2.2 x74_1 p727 q727
       cases e727
       obtain ⟨p727, q727⟩ := ee p727 q727
       go_upto_if 87 with (first | (refine gl (some 81) Tryz.func116 rfl #[.pointer (some ad699), .int .i64 (rd t717 x74_1), .int .i64 a2] ?_; refine (Ac9.calls k1 _ l0 (rd t717 x74_1) a2 false _ (cq (Bk9 HF0.out HB.out)) A29.out).mono ?_; rintro e w34 ⟨rfl, hb⟩; refine ⟨_, rfl, ?_⟩; replace HO_9 := rb HO_9 hb; replace HO_10 := rb HO_10 hb; replace HO_72 := rb HO_72 hb; replace HB := am (Aw8 (by repeat (first | (with_reducible first | exact HB.out | apply Ai6 | apply Ai7 | apply Aj8) | exact HB.out)) hb); clear hb; (try clear hk)) | (go_at_call 88; refine (HG.out _ (rd t717 x74_1) a2 t729 (Bk3 HF0.out (by repeat (first | (with_reducible first | exact HB.out | apply Ai6 | apply Ai7 | apply Aj8) | exact HB.out))) (Bel.inv (by repeat (first | (with_reducible first | exact HB.out | apply Ai6 | apply Ai7 | apply Aj8) | exact HB.out))) A32.out).mono ?_; rintro e w35 ⟨rfl, hb⟩; replace HO_9 := am (Bh7 (rq HO_9.out) hb); replace HO_10 := am (Bh7 (rq HO_10.out) hb); replace HO_72 := am (Bh7 (rq HO_72.out) hb); replace HB := am (Bb1 (by repeat (first | (with_reducible first | exact HB.out | apply Ai6 | apply Ai7 | apply Aj8) | exact HB.out)) hb); (try clear hb); (try clear hk)))
       have H := HC33.out
       clear HC33
       by_cases c36 : t729 = true
       ·subst c36
        rw [if_pos rfl] at H
        obtain rfl := Option.some.inj H
        go_wp2
        go_ret
        exact ⟨er, by repeat (first | (with_reducible first | exact HB.out | apply Ai6 | apply Ai7 | apply Aj8) | exact HB.out)⟩
       ·replace c36 := Bool.eq_false_iff.mpr c36
        subst c36
        rw [if_neg (show ¬ (false = true) by decide)] at H
        have H' := am H
        clear H
        go_wp2
        go_roundg k1
        case measure => have := HK1.out; omega
        case rel => exact ⟨(wrap64 (x74_1 + 1)), et, H', ⟨by have := HK1.out; omega⟩, ⟨rq HO_9.out⟩, ⟨rq HO_10.out⟩, ⟨rq HO_72.out⟩, ⟨by repeat (first | (with_reducible first | exact HB.out | apply Ai6 | apply Ai7 | apply Aj8) | exact HB.out)⟩⟩
     ·rw [if_neg c26] at H
      have c26b0 := decide_eq_false c26
      clear c26
      obtain ⟨c37, H⟩ := ifs H
      have c37b0 := decide_eq_true c37
      have c37b1 : decide (0 < l0.length) = true := decide_eq_true (by omega)
      clear c37
      obtain ⟨t732, A38, H⟩ := ob H
      try dsimp only at H
      obtain ⟨t735, A39, H⟩ := ob H
      try dsimp only at H
      have HC40 := am H
      clear H
      try go_wp2
      replace HO_9 := am (Kd.R_drew HO_9.out)
      replace HO_10 := am (Kd.R_drew HO_10.out)
      replace HO_72 := am (Kd.R_drew HO_72.out)
      replace HB := am (Aj8 HB.out)
      have p730 : 0 ≤ (0 : Int) := (by omega)
      have q730 : 0 < (l0.length : Int) := od
      obtain ⟨ad730, A730_0, c730_0, A730_1, c730_1, A730_2, c730_2, A730_3, c730_3, e730, hx730_0, hx730_1, hx730_2, hx730_3, hx730_4, hl730_0, hi730_0, hl730_1, hi730_1, hl730_2, hi730_2, hl730_3, hi730_3⟩ := Bf4 HR0.out q730
      have hw730_4 := hx730_4
      have hw730_3 := hx730_3
      have hw730_2 := hx730_2
      have hw730_1 := hx730_1
      have hw730_0 := hx730_0
      obtain rfl : ad699 = ad730 := (by injection e730)
      have qi730 : (0 < l0.length) = True := eq_true (by omega)
      replace hx730_0 := bcB HB.out hx730_0
      replace hx730_1 := bcB HB.out hx730_1
      replace hx730_2 := bcB HB.out hx730_2
      replace hx730_3 := bcB HB.out hx730_3
      replace hx730_4 := bcB HB.out hx730_4
      have HR730_0 := am hi730_0
      have HC730_0 := am hl730_0
      clear hi730_0 hl730_0
      have HR730_1 := am hi730_1
      have HC730_1 := am hl730_1
      clear hi730_1 hl730_1
      have HR730_2 := am hi730_2
      have HC730_2 := am hl730_2
      clear hi730_2 hl730_2
      have HR730_3 := am hi730_3
      have HC730_3 := am hl730_3
      clear hi730_3 hl730_3
      obtain ⟨p730, q730⟩ := ee p730 q730
      have p731 : 0 ≤ (0 : Int) := (by omega)
      have q731 : 0 < (l0.length : Int) := od
      obtain ⟨ad731, A731_0, c731_0, A731_1, c731_1, A731_2, c731_2, A731_3, c731_3, e731, hx731_0, hx731_1, hx731_2, hx731_3, hx731_4, hl731_0, hi731_0, hl731_1, hi731_1, hl731_2, hi731_2, hl731_3, hi731_3⟩ := Bf4 HR0.out q731
      have hw731_4 := hx731_4
      have hw731_3 := hx731_3
      have hw731_2 := hx731_2
      have hw731_1 := hx731_1
      have hw731_0 := hx731_0
      obtain rfl : ad699 = ad731 := (by injection e731)
      have qi731 : (0 < l0.length) = True := eq_true (by omega)
      replace hx731_0 := bcB HB.out hx731_0
      replace hx731_1 := bcB HB.out hx731_1
      replace hx731_2 := bcB HB.out hx731_2
      replace hx731_3 := bcB HB.out hx731_3
      replace hx731_4 := bcB HB.out hx731_4
      have HR731_0 := am hi731_0
      have HC731_0 := am hl731_0
      clear hi731_0 hl731_0
      have HR731_1 := am hi731_1
      have HC731_1 := am hl731_1
      clear hi731_1 hl731_1
      have HR731_2 := am hi731_2
      have HC731_2 := am hl731_2
      clear hi731_2 hl731_2
      have HR731_3 := am hi731_3
      have HC731_3 := am hl731_3
      clear hi731_3 hl731_3
      obtain ⟨p731, q731⟩ := ee p731 q731
      obtain ⟨rfl, rfl⟩ := sj hx730_0 hx731_0
      obtain ⟨rfl, rfl⟩ := sj hx730_1 hx731_1
      obtain ⟨rfl, rfl⟩ := sj hx730_2 hx731_2
      obtain ⟨rfl, rfl⟩ := sj hx730_3 hx731_3
      have p733 : 0 ≤ (0 : Int) := (by omega)
      have q733 : 0 < (l0.length : Int) := od
      obtain ⟨ad733, A733_0, c733_0, A733_1, c733_1, A733_2, c733_2, A733_3, c733_3, e733, hx733_0, hx733_1, hx733_2, hx733_3, hx733_4, hl733_0, hi733_0, hl733_1, hi733_1, hl733_2, hi733_2, hl733_3, hi733_3⟩ := Bf4 HR0.out q733
      have hw733_4 := hx733_4
      have hw733_3 := hx733_3
      have hw733_2 := hx733_2
      have hw733_1 := hx733_1
      have hw733_0 := hx733_0
      obtain rfl : ad699 = ad733 := (by injection e733)
      have qi733 : (0 < l0.length) = True := eq_true (by omega)
      replace hx733_0 := bcB HB.out hx733_0
      replace hx733_1 := bcB HB.out hx733_1
      replace hx733_2 := bcB HB.out hx733_2
      replace hx733_3 := bcB HB.out hx733_3
      replace hx733_4 := bcB HB.out hx733_4
      have HR733_0 := am hi733_0
      have HC733_0 := am hl733_0
      clear hi733_0 hl733_0
      have HR733_1 := am hi733_1
      have HC733_1 := am hl733_1
      clear hi733_1 hl733_1
      have HR733_2 := am hi733_2
      have HC733_2 := am hl733_2
      clear hi733_2 hl733_2
      have HR733_3 := am hi733_3
      have HC733_3 := am hl733_3
      clear hi733_3 hl733_3
      obtain ⟨p733, q733⟩ := ee p733 q733
      obtain ⟨rfl, rfl⟩ := sj hx730_0 hx733_0
      obtain ⟨rfl, rfl⟩ := sj hx730_1 hx733_1
      obtain ⟨rfl, rfl⟩ := sj hx730_2 hx733_2
      obtain ⟨rfl, rfl⟩ := sj hx730_3 hx733_3
      have p734 : 0 ≤ (0 : Int) := (by omega)
      have q734 : 0 < (l0.length : Int) := od
      obtain ⟨ad734, A734_0, c734_0, A734_1, c734_1, A734_2, c734_2, A734_3, c734_3, e734, hx734_0, hx734_1, hx734_2, hx734_3, hx734_4, hl734_0, hi734_0, hl734_1, hi734_1, hl734_2, hi734_2, hl734_3, hi734_3⟩ := Bf4 HR0.out q734
      have hw734_4 := hx734_4
      have hw734_3 := hx734_3
      have hw734_2 := hx734_2
      have hw734_1 := hx734_1
      have hw734_0 := hx734_0
      obtain rfl : ad699 = ad734 := (by injection e734)
      have qi734 : (0 < l0.length) = True := eq_true (by omega)
      replace hx734_0 := bcB HB.out hx734_0
      replace hx734_1 := bcB HB.out hx734_1
      replace hx734_2 := bcB HB.out hx734_2
      replace hx734_3 := bcB HB.out hx734_3
      replace hx734_4 := bcB HB.out hx734_4
      have HR734_0 := am hi734_0
      have HC734_0 := am hl734_0
      clear hi734_0 hl734_0
      have HR734_1 := am hi734_1
      have HC734_1 := am hl734_1
      clear hi734_1 hl734_1
      have HR734_2 := am hi734_2
      have HC734_2 := am hl734_2
      clear hi734_2 hl734_2
      have HR734_3 := am hi734_3
      have HC734_3 := am hl734_3
      clear hi734_3 hl734_3
      obtain ⟨p734, q734⟩ := ee p734 q734
      obtain ⟨rfl, rfl⟩ := sj hx730_0 hx734_0
      obtain ⟨rfl, rfl⟩ := sj hx730_1 hx734_1
      obtain ⟨rfl, rfl⟩ := sj hx730_2 hx734_2
      obtain ⟨rfl, rfl⟩ := sj hx730_3 hx734_3
      refine st_ (n := 14) (S := fun w' => w'.cell? ad699 = some (.slice A730_0 ((Ac1 l0 0).f0.f0).length c730_0) ∧ w'.cell? ⟨ad699.block, ad699.off + 1, none⟩ = some (.slice A730_1 ((Ac1 l0 0).f1).length c730_1) ∧ w'.cell? ⟨ad699.block, ad699.off + 2, none⟩ = some (.slice A730_2 ((Ac1 l0 0).f2).length c730_2) ∧ w'.cell? ⟨ad699.block, ad699.off + 3, none⟩ = some (.slice A730_3 ((Ac1 l0 0).f3).length c730_3) ∧ w'.cell? ⟨ad699.block, ad699.off + 4, none⟩ = some (.map (some ((Ac1 l0 0).f4).toNat))) (ds := []) ⟨(bcB HB.out hw730_0), (bcB HB.out hw730_1), (bcB HB.out hw730_2), (bcB HB.out hw730_3), (bcB HB.out hw730_4)⟩ (fun hHeld => ?_); refine Ah6 Aa1.tab13 Aa1.bits13 (fun HT_ HW_ => ?_)
      generalize wr.drew = w41 at HO_9 HO_10 HO_72 HB HR730_0 HR730_1 HR730_2 HR730_3 HR731_0 HR731_1 HR731_2 HR731_3 HR733_0 HR733_1 HR733_2 HR733_3 HR734_0 HR734_1 HR734_2 HR734_3 hx730_0 hx730_1 hx730_2 hx730_3 hx730_4 hx731_0 hx731_1 hx731_2 hx731_3 hx731_4 hx733_0 hx733_1 hx733_2 hx733_3 hx733_4 hx734_0 hx734_1 hx734_2 hx734_3 hx734_4 hHeld ⊢
      refine pu 0 89 rfl rfl HT_ ?_
      refine pu 1 90 rfl rfl HT_ ?_
      refine pu 2 91 rfl rfl HT_ ?_
      refine pu 4 93 rfl rfl HT_ ?_
      refine pu 6 95 rfl rfl HT_ ?_
      refine pu 7 96 rfl rfl HT_ ?_
      refine pu 8 97 rfl rfl HT_ ?_
      refine pu 10 99 rfl rfl HT_ ?_
      refine tk 3 92 rfl rfl HT_ HW_ hHeld ?_
      refine tk 9 98 rfl rfl HT_ HW_ hHeld ?_
      refine on_ 5 (some 94) rfl rfl HT_ (fun K hK => ?_)
      refine gs Tryz.func86 #[.slice A730_1 ((Ac1 l0 0).f1).length c730_1, .int .i64 (rd ((Ac1 l0 0).f2) a1)] ?_
      refine (Aa7.calls k1 _ _ ((Ac1 l0 0).f1) (rd ((Ac1 l0 0).f2) a1) t732 _ (cq (C_belI HR731_1.out HB.out)) HC731_1.out A38.out).mono ?_
      rintro e w' ⟨rfl, ⟨nd, rfl⟩⟩
      refine ⟨_, rfl, ?_⟩
      refine hK.out _ _ ⟨(bcB HB.out hw730_0), (bcB HB.out hw730_1), (bcB HB.out hw730_2), (bcB HB.out hw730_3), (bcB HB.out hw730_4)⟩ (fun hHeld => ?_)
      clear hK K
      refine nr (some 94) ?_
      refine on_ 11 (some 100) rfl rfl HT_ (fun K hK => ?_)
      refine gs Tryz.func86 #[.slice A730_1 ((Ac1 l0 0).f1).length c730_1, .int .i64 (rd ((Ac1 l0 0).f3) a2)] ?_
      refine (Aa7.calls k1 _ _ ((Ac1 l0 0).f1) (rd ((Ac1 l0 0).f3) a2) t735 _ (cq (C_belI HR734_1.out (by repeat (first | (with_reducible first | exact HB.out | apply Ai6 | apply Ai7 | apply Aj8) | exact HB.out)))) HC734_1.out A39.out).mono ?_
      rintro e w' ⟨rfl, ⟨nd, rfl⟩⟩
      refine ⟨_, rfl, ?_⟩
      refine hK.out _ _ ⟨(bcB HB.out hw730_0), (bcB HB.out hw730_1), (bcB HB.out hw730_2), (bcB HB.out hw730_3), (bcB HB.out hw730_4)⟩ (fun hHeld => ?_)
      clear hK K
      refine nr (some 100) ?_
      refine pu 12 101 rfl rfl HT_ ?_
      refine pu 13 13 rfl rfl HT_ ?_
      refine Ar3 (Al8 HT_.out (by kernel_rfl)) ?_
      go_upto_if 103 with (fail)
      have H := HC40.out
      clear HC40
      by_cases c42 : (wrap64 (t732 - t735)) < 0
      ·rw [if_pos c42] at H
       have c42b0 := decide_eq_true c42
       clear c42
       (first | rw [c42b0] | (simp only [Ae6, Ae7]; rw [c42b0]) | skip)
       obtain rfl := Option.some.inj H
       go_wp2
       go_ret
       exact ⟨er, by repeat (first | (with_reducible first | exact HB.out | apply Ai6 | apply Ai7 | apply Aj8) | exact HB.out)⟩
      ·rw [if_neg c42] at H
       have c42b0 := decide_eq_false c42
       clear c42
       (first | rw [c42b0] | (simp only [Ae6, Ae7]; rw [c42b0]) | skip)
       have H' := am H
       clear H
       obtain ⟨Ao43, co43, eo43⟩ := Kd.R_slice HO_10.out
       subst eo43
       go_wp2
       go_loopg [106] k1 (fun kq v106 w' => ∃ (x106_2 : Int), v106 = .int .i64 x106_2 ∧ Aside0 (Aa1.l1 g kq l0 a1 t717 t724 (wrap64 (t732 - t735)) t724 (t724.length : Int) x106_2 = some r) ∧ Aside0 (kq ≤ k1) ∧ Aside0 (Kd.R (Kd.int .i64) 3 w' w.heap.size (fun k_ => some k_ ≠ ((.slice Ao43 t724.length co43) : Value).ownBlock ∧ some k_ ≠ ((.slice Ao43 t724.length co43) : Value).ownBlock) (.slice Ao25 t717.length co25) t717) ∧ Aside0 (Kd.R (Kd.int .i64) 3 w' w.heap.size (fun k_ => some k_ ≠ ((.slice Ao25 t717.length co25) : Value).ownBlock) (.slice Ao43 t724.length co43) t724) ∧ Aside0 (Kd.R (Kd.int .i64) 3 w' w.heap.size (fun k_ => some k_ ≠ ((.slice Ao25 t717.length co25) : Value).ownBlock) (.slice Ao43 t724.length co43) t724) ∧ Aside0 (Bel G mb w.heap.size w w'))
       case atStart => exact ⟨(0), et, H', ⟨Nat.le_refl _⟩, ⟨rq (Kd.R_mono HO_9.out (fun _ hk => ⟨hk, hk⟩))⟩, ⟨rq (Kd.R_mono HO_10.out (fun _ hk => hk.1))⟩, ⟨rq (Kd.R_mono HO_10.out (fun _ hk => hk.1))⟩, ⟨by repeat (first | (with_reducible first | exact HB.out | apply Ai6 | apply Ai7 | apply Aj8) | exact HB.out)⟩⟩
       case round =>
        clear H'
        try clear c4; try clear c11; try clear c26; try clear c26b0; try clear c37; try clear c37b0; try clear c37b1; try clear c42; try clear c42b0; try clear hx720_0; try clear hx720_1; try clear hx720_2; try clear hx720_3; try clear hx720_4; try clear hx721_0; try clear hx721_1; try clear hx721_2; try clear hx721_3; try clear hx721_4; try clear hx722_0; try clear hx722_1; try clear hx722_2; try clear hx722_3; try clear hx722_4; try clear hx723_0; try clear hx723_1; try clear hx723_2; try clear hx723_3; try clear hx723_4; try clear hx730_0; try clear hx730_1; try clear hx730_2; try clear hx730_3; try clear hx730_4; try clear hx731_0; try clear hx731_1; try clear hx731_2; try clear hx731_3; try clear hx731_4; try clear hx733_0; try clear hx733_1; try clear hx733_2; try clear hx733_3; try clear hx733_4; try clear hx734_0; try clear hx734_1; try clear hx734_2; try clear hx734_3; try clear hx734_4; try clear p716; try clear p720; try clear p721; try clear p722; try clear p723; try clear p730; try clear p731; try clear p733; try clear p734; try clear q716; try clear q720; try clear q721; try clear q722; try clear q723; try clear q730; try clear q731; try clear q733; try clear q734
        obtain ⟨x106_2, rfl, HA, HK2, HO_9, HO_10, HO_104, HB⟩ := hrel
        cases gk with
        | zero => exact absurd HA.out (by simp [Aa1.l1])
        | succ k2 =>
         have H := HA.out
         clear HA
         simp only [Aa1.l1] at H
         by_cases c44 : x106_2 < (t724.length : Int)
         ·rw [if_pos c44] at H
          have c44b0 := decide_eq_true c44
          clear c44
          obtain ⟨c45b0, H⟩ := ife H
          obtain ⟨c46b0, H⟩ := ife H
          obtain ⟨t737, A47, H⟩ := ob H
          try dsimp only at H
          have HC48 := am H
          clear H
          have p736 : 0 ≤ (x106_2 : Int) := od
          have q736 : x106_2 < (t724.length : Int) := od
          obtain ⟨ad736, e736, hx736_0⟩ := Kd.at_int (Kd.R_reads' HO_104.out).2.2 x106_2 p736 q736
          cases e736
          obtain ⟨p736, q736⟩ := ee p736 q736
          go_upto_if 114 with (first | (refine gl (some 113) Tryz.func88 rfl #[.pointer (some ad699), .int .i64 a1, .int .i64 (rd t724 x106_2)] ?_; refine (HG.out _ a1 (rd t724 x106_2) t737 (Bk3 HF0.out (by repeat (first | (with_reducible first | exact HB.out | apply Ai6 | apply Ai7 | apply Aj8) | exact HB.out))) (Bel.inv (by repeat (first | (with_reducible first | exact HB.out | apply Ai6 | apply Ai7 | apply Aj8) | exact HB.out))) A47.out).mono ?_; rintro e w49 ⟨rfl, hb⟩; refine ⟨_, rfl, ?_⟩; replace HO_9 := am (Bh7 (rq HO_9.out) hb); replace HO_10 := am (Bh7 (rq HO_10.out) hb); replace HO_104 := am (Bh7 (rq HO_104.out) hb); replace HB := am (Bb1 (by repeat (first | (with_reducible first | exact HB.out | apply Ai6 | apply Ai7 | apply Aj8) | exact HB.out)) hb); clear hb; (try clear hk)))
          have H := HC48.out
          clear HC48
          by_cases c50 : t737 = true
          ·subst c50
           rw [if_pos rfl] at H
           have H' := am H
           clear H
           go_wp2
           go_roundg k2
           case measure => have := HK1.out; have := HK2.out; omega
           case rel => exact ⟨(wrap64 (x106_2 + 1)), et, H', ⟨by have := HK1.out; have := HK2.out; omega⟩, ⟨rq HO_9.out⟩, ⟨rq HO_10.out⟩, ⟨rq HO_104.out⟩, ⟨by repeat (first | (with_reducible first | exact HB.out | apply Ai6 | apply Ai7 | apply Aj8) | exact HB.out)⟩⟩
          ·replace c50 := Bool.eq_false_iff.mpr c50
           subst c50
           rw [if_neg (show ¬ (false = true) by decide)] at H
           obtain rfl := Option.some.inj H
           go_wp2
           go_ret
           exact ⟨er, by repeat (first | (with_reducible first | exact HB.out | apply Ai6 | apply Ai7 | apply Aj8) | exact HB.out)⟩
         ·rw [if_neg c44] at H
          have c44b0 := decide_eq_false c44
          clear c44
          by_cases c51 : (wrap64 (t732 - t735)) > 0
          ·rw [if_pos c51] at H
           have c51b0 := decide_eq_true c51
           clear c51
           obtain rfl := Option.some.inj H
           go_wp2
           go_ret
           exact ⟨er, by repeat (first | (with_reducible first | exact HB.out | apply Ai6 | apply Ai7 | apply Aj8) | exact HB.out)⟩
          ·rw [if_neg c51] at H
           have c51b0 := decide_eq_false c51
           clear c51
           have H' := am H
           clear H
           go_wp2
           go_loopg [120] k2 (fun kq v120 w' => ∃ (x120_3 : Int), v120 = .int .i64 x120_3 ∧ Aside0 (Aa1.l2 g kq l0 t724 t717 (t717.length : Int) x120_3 = some r) ∧ Aside0 (kq ≤ k2) ∧ Aside0 (Kd.R (Kd.int .i64) 3 w' w.heap.size (fun k_ => some k_ ≠ ((.slice Ao25 t717.length co25) : Value).ownBlock) (.slice Ao43 t724.length co43) t724) ∧ Aside0 (Kd.R (Kd.int .i64) 3 w' w.heap.size (fun k_ => some k_ ≠ ((.slice Ao43 t724.length co43) : Value).ownBlock) (.slice Ao25 t717.length co25) t717) ∧ Aside0 (Bel G mb w.heap.size w w'))
           case atStart => exact ⟨(0), et, H', ⟨Nat.le_refl _⟩, ⟨rq HO_10.out⟩, ⟨rq (Kd.R_mono HO_9.out (fun _ hk => hk.1))⟩, ⟨by repeat (first | (with_reducible first | exact HB.out | apply Ai6 | apply Ai7 | apply Aj8) | exact HB.out)⟩⟩
           case round =>
            clear H'
            try clear c4; try clear c11; try clear c26; try clear c26b0; try clear c37; try clear c37b0; try clear c37b1; try clear c42; try clear c42b0; try clear c44; try clear c44b0; try clear c51; try clear c51b0; try clear hx720_0; try clear hx720_1; try clear hx720_2; try clear hx720_3; try clear hx720_4; try clear hx721_0; try clear hx721_1; try clear hx721_2; try clear hx721_3; try clear hx721_4; try clear hx722_0; try clear hx722_1; try clear hx722_2; try clear hx722_3; try clear hx722_4; try clear hx723_0; try clear hx723_1; try clear hx723_2; try clear hx723_3; try clear hx723_4; try clear hx730_0; try clear hx730_1; try clear hx730_2; try clear hx730_3; try clear hx730_4; try clear hx731_0; try clear hx731_1; try clear hx731_2; try clear hx731_3; try clear hx731_4; try clear hx733_0; try clear hx733_1; try clear hx733_2; try clear hx733_3; try clear hx733_4; try clear hx734_0; try clear hx734_1; try clear hx734_2; try clear hx734_3; try clear hx734_4; try clear p716; try clear p720; try clear p721; try clear p722; try clear p723; try clear p730; try clear p731; try clear p733; try clear p734; try clear q716; try clear q720; try clear q721; try clear q722; try clear q723; try clear q730; try clear q731; try clear q733; try clear q734
            obtain ⟨x120_3, rfl, HA, HK3, HO_10, HO_118, HB⟩ := hrel
            cases gk with
            | zero => exact absurd HA.out (by simp [Aa1.l2])
            | succ k3 =>
             have H := HA.out
             clear HA
             simp only [Aa1.l2] at H
             by_cases c52 : x120_3 < (t717.length : Int)
             ·rw [if_pos c52] at H
              have c52b0 := decide_eq_true c52
              clear c52
              obtain ⟨c53b0, H⟩ := ife H
              obtain ⟨c54b0, H⟩ := ife H
              obtain ⟨c55b0, H⟩ := ife H
              obtain ⟨t740, A56, H⟩ := ob H
              try dsimp only at H
              have HC57 := am H
              clear H
              have p738 : 0 ≤ (x120_3 : Int) := od
              have q738 : x120_3 < (t717.length : Int) := od
              obtain ⟨ad738, e738, hx738_0⟩ := Kd.at_int (Kd.R_reads' HO_118.out).2.2 x120_3 p738 q738
              cases e738
              obtain ⟨p738, q738⟩ := ee p738 q738
              have p739 : 0 ≤ (x120_3 : Int) := od
              have q739 : x120_3 < (t724.length : Int) := od
              obtain ⟨ad739, e739, hx739_0⟩ := Kd.at_int (Kd.R_reads' HO_10.out).2.2 x120_3 p739 q739
              cases e739
              obtain ⟨p739, q739⟩ := ee p739 q739
              go_upto_if 132 with (first | (refine gl (some 131) Tryz.func116 rfl #[.pointer (some ad699), .int .i64 (rd t717 x120_3), .int .i64 (rd t724 x120_3)] ?_; refine (Ac9.calls k3 _ l0 (rd t717 x120_3) (rd t724 x120_3) t740 _ (cq (Bk9 HF0.out HB.out)) A56.out).mono ?_; rintro e w58 ⟨rfl, hb⟩; refine ⟨_, rfl, ?_⟩; replace HO_10 := rb HO_10 hb; replace HO_118 := rb HO_118 hb; replace HB := am (Aw8 (by repeat (first | (with_reducible first | exact HB.out | apply Ai6 | apply Ai7 | apply Aj8) | exact HB.out)) hb); clear hb; (try clear hk)))
              have H := HC57.out
              clear HC57
              by_cases c59 : t740 = true
              ·subst c59
               rw [if_pos rfl] at H
               have H' := am H
               clear H
               go_wp2
               go_roundg k3
               case measure => have := HK1.out; have := HK2.out; have := HK3.out; omega
               case rel => exact ⟨(wrap64 (x120_3 + 1)), et, H', ⟨by have := HK1.out; have := HK2.out; have := HK3.out; omega⟩, ⟨rq HO_10.out⟩, ⟨rq HO_118.out⟩, ⟨by repeat (first | (with_reducible first | exact HB.out | apply Ai6 | apply Ai7 | apply Aj8) | exact HB.out)⟩⟩
              ·replace c59 := Bool.eq_false_iff.mpr c59
               subst c59
               rw [if_neg (show ¬ (false = true) by decide)] at H
               obtain ⟨t742, A60, H⟩ := ob H
               try dsimp only at H
               obtain rfl := Option.some.inj H
               have p741 : 0 ≤ (x120_3 : Int) := od
               have q741 : x120_3 < (t724.length : Int) := od
               obtain ⟨ad741, e741, hx741_0⟩ := Kd.at_int (Kd.R_reads' HO_10.out).2.2 x120_3 p741 q741
               obtain rfl : ad739 = ad741 := (by injection e741)
               obtain ⟨p741, q741⟩ := ee p741 q741
               go_wp2_with (first | (refine gl (some 139) Tryz.func88 rfl #[.pointer (some ad699), .int .i64 (rd t717 x120_3), .int .i64 (rd t724 x120_3)] ?_; refine (HG.out _ (rd t717 x120_3) (rd t724 x120_3) t742 (Bk3 HF0.out (by repeat (first | (with_reducible first | exact HB.out | apply Ai6 | apply Ai7 | apply Aj8) | exact HB.out))) (Bel.inv (by repeat (first | (with_reducible first | exact HB.out | apply Ai6 | apply Ai7 | apply Aj8) | exact HB.out))) A60.out).mono ?_; rintro e w61 ⟨rfl, hb⟩; refine ⟨_, rfl, ?_⟩; replace HO_10 := am (Bh7 (rq HO_10.out) hb); replace HO_118 := am (Bh7 (rq HO_118.out) hb); replace HB := am (Bb1 (by repeat (first | (with_reducible first | exact HB.out | apply Ai6 | apply Ai7 | apply Aj8) | exact HB.out)) hb); clear hb; (try clear hk)))
               go_ret
               exact ⟨er, by repeat (first | (with_reducible first | exact HB.out | apply Ai6 | apply Ai7 | apply Aj8) | exact HB.out)⟩
             ·rw [if_neg c52] at H
              have c52b0 := decide_eq_false c52
              clear c52
              obtain rfl := Option.some.inj H
              go_wp2
              go_ret
              exact ⟨er, by repeat (first | (with_reducible first | exact HB.out | apply Ai6 | apply Ai7 | apply Aj8) | exact HB.out)⟩
theorem Ab0.walk (G : Int → Int → Bool → Prop) (mb : Nat) (A0 : Option Addr) (l0 : List S114) (i j : Nat) (w : World) (hr0 : Kd.F Bj7 w (fun k_ => k_ ≠ mb) A0 l0.length l0) (hl : 0 < l0.length) (hm : (Ac1 l0 0).f4.toNat = mb) (hI : Au6 G mb w) (hi : i < 1000000) (hj : j < 1000000) (r : Bool)
  (hold : ∀ b, G i j b → b = r) (hnew : G i j r)
  (hcall : ∀ W : World, Kd.F Bj7 W (fun k_ => k_ ≠ mb) A0 l0.length l0 → Au6 G mb W → Calls Tryz.prog 100 #[.pointer A0, .int .i64 i, .int .i64 j] W fun e w' => e = .returned (.bool r) ∧ Bel G mb W.heap.size W w') :
  Calls Tryz.prog 88 #[.pointer A0, .int .i64 i, .int .i64 j] w fun e w' => e = .returned (.bool r) ∧ Bel G mb w.heap.size w w' := by
 have hu_ := Tryz.underlying122
 obtain ⟨ad_, _, _, _, _, _, _, _, _, eA, _, _, _, _, hc_, _, _, _, _, _, _, _, _⟩ := Av9 (Kd.F_now hr0) 0 (by omega) (by omega)
 rw [show ((0 : Int)).toNat = 0 from rfl, show 0 * 5 = 0 from rfl, Addr.add_zero', hm] at hc_
 subst eA
 go_enter Tryz.func88, Tryz.ntmps88
 try go_wp2
 have hb_ : Below w.heap.size w (w.alloc (.cells #[.int .i64 i, .int .i64 j] 122)) := Ah3 (Below.refl _ _) _
 have hk_ : (w.alloc (.cells #[.int .i64 i, .int .i64 j] 122)).heap[w.heap.size]? = some (.cells #[.int .i64 i, .int .i64 j] 122 (0, 0)) := (Go.MapKept.heap_alloc w _).1
 generalize w.alloc (.cells #[.int .i64 i, .int .i64 j] 122) = W1_ at hb_ hk_ ⊢
 have hI1_ := hI.below hb_
 have hF1_ := Bk3 hr0 (Bel.of hI hb_)
 replace hc_ : W1_.drew.cell? ⟨ad_.block, ad_.off + 4, none⟩ = some (.map (some mb)) := ((hb_.cell (World.block_lt_of_cell? w ⟨ad_.block, ad_.off + 4, none⟩ hc_)).trans hc_)
 have hk0_ : W1_.drew.cell? ⟨w.heap.size, 0, none⟩ = some (.int .i64 i) := (Ad1 hk_ 0).trans rfl
 have hk1_ : W1_.drew.cell? ⟨w.heap.size, 1, none⟩ = some (.int .i64 j) := (Ad1 hk_ 1).trans rfl
 have hB1_ : Bel G mb w.heap.size w W1_.drew := Aj8 (Bel.of hI hb_)
 have hF1_ : Kd.F Bj7 W1_.drew (fun k_ => k_ ≠ mb) (some ad_) l0.length l0 := Bk3 hr0 hB1_
 have hlt_ : w.heap.size < W1_.drew.heap.size := (Array.getElem?_eq_some_iff.1 hk_).1
 have hbt_ : ad_.block < W1_.drew.heap.size := World.block_lt_of_cell? W1_.drew ⟨ad_.block, ad_.off + 4, none⟩ hc_
 obtain ⟨es_, clock_, hm_, F_, hG_⟩ := hB1_.inv
 obtain ⟨kl_, hkl_⟩ := cmpKey_of i j hi hj
 rcases Go.Maps.fit_look true Bg6 Tryz.underlying112 (show (zeroValue 4).run Tryz.prog W1_.drew = .ok (.bool false) W1_.drew by kernel_rfl) hm_ F_ hkl_ with ⟨hrun_, hno_, _⟩ | ⟨e0_, _, hin_, hkey_, hrun_, _⟩
 ·replace hrun_ : (Instr.lookup 112 (.map (some mb)) (.agg #[.int .i64 i, .int .i64 j]) true).run Tryz.prog W1_.drew = .ok (.tuple #[.bool false, .bool false]) W1_.drew := hrun_
  clear hm_ F_ hG_ hno_
  refine st_ (n := 11) (S := fun w' => w'.cell? ⟨ad_.block, ad_.off + 4, none⟩ = some (.map (some mb)) ∧ w'.cell? ⟨w.heap.size, 0, none⟩ = some (.int .i64 i) ∧ w'.cell? ⟨w.heap.size, 1, none⟩ = some (.int .i64 j) ∧ (Instr.lookup 112 (.map (some mb)) (.agg #[.int .i64 i, .int .i64 j]) true).run Tryz.prog w' = .ok (.tuple #[.bool false, .bool false]) w') (ds := []) ⟨hc_, hk0_, hk1_, hrun_⟩ (fun hHeld => ?_)
  refine As2 (i := 0) (N := some 15) (v := ?_) (a' := ?_) #[true, false, false, false, false, false, false, false, false, false, false] rfl rfl (by kernel_rfl) (fun _ _ _ h => h) (Or.inl ⟨by rfl, ?_⟩) ?_ ?_
  rotate_left
  ·intro w'
   go_simp
   with_reducible rfl
  rotate_left
  ·simp only [Act.put, lsp, Ae6, Ae7]
   rfl
  refine As2 (i := 1) (N := some 16) (v := ?_) (a' := ?_) #[true, true, false, false, false, false, false, false, false, false, false] rfl rfl (by kernel_rfl) (fun _ _ _ h => h) (Or.inl ⟨by rfl, ?_⟩) ?_ ?_
  rotate_left
  ·intro w'
   go_simp
   with_reducible rfl
  rotate_left
  ·simp only [Act.put, lsp, Ae6, Ae7]
   rfl
  refine As2 (i := 2) (N := some 17) (v := ?_) (a' := ?_) #[true, true, true, false, false, false, false, false, false, false, false] rfl rfl (by kernel_rfl) (fun _ _ _ h => h) (Or.inl ⟨by rfl, ?_⟩) ?_ ?_
  rotate_left
  ·intro w'
   go_simp
   with_reducible rfl
  rotate_left
  ·simp only [Act.put, lsp, Ae6, Ae7]
   rfl
  refine take_ (i := 3) (N := some 18) (v := ?_) (a' := ?_) #[true, true, true, true, false, false, false, false, false, false, false] rfl rfl (by kernel_rfl) (fun _ _ _ h => h) (Or.inl ⟨by rfl, ?_⟩) hHeld ?_ ?_
  rotate_left
  ·rintro w' ⟨s0, s1, s2, s3⟩
   go_simp
   with_reducible rfl
  rotate_left
  ·simp only [Act.put, lsp, Ae6, Ae7]
   rfl
  refine take_ (i := 4) (N := some 19) (v := ?_) (a' := ?_) #[true, true, true, true, true, false, false, false, false, false, false] rfl rfl (by kernel_rfl) (fun _ _ _ h => h) (Or.inl ⟨by rfl, ?_⟩) hHeld ?_ ?_
  rotate_left
  ·rintro w' ⟨s0, s1, s2, s3⟩
   go_simp
   with_reducible rfl
  rotate_left
  ·simp only [Act.put, lsp, Ae6, Ae7]
   rfl
  refine take_ (i := 5) (N := some 20) (v := ?_) (a' := ?_) #[true, true, true, true, true, true, false, false, false, false, false] rfl rfl (by kernel_rfl) (fun _ _ _ h => h) (Or.inl ⟨by rfl, ?_⟩) hHeld ?_ ?_
  rotate_left
  ·rintro w' ⟨s0, s1, s2, s3⟩
   go_simp
   with_reducible rfl
  rotate_left
  ·simp only [Act.put, lsp, Ae6, Ae7]
   rfl
  refine As2 (i := 6) (N := some 14) (v := ?_) (a' := ?_) #[true, true, true, true, true, true, true, false, false, false, false] rfl rfl (by kernel_rfl) (fun _ _ _ h => h) (Or.inl ⟨by rfl, ?_⟩) ?_ ?_
  rotate_left
  ·intro w'
   go_simp
   with_reducible rfl
  rotate_left
  ·simp only [Act.put, lsp, Ae6, Ae7]
   rfl
  refine As2 (i := 7) (N := some 21) (v := ?_) (a' := ?_) #[true, true, true, true, true, true, true, true, false, false, false] rfl rfl (by kernel_rfl) (fun _ _ _ h => h) (Or.inl ⟨by rfl, ?_⟩) ?_ ?_
  rotate_left
  ·intro w'
   go_simp
   with_reducible rfl
  rotate_left
  ·simp only [Act.put, lsp, Ae6, Ae7]
   rfl
  refine As2 (i := 8) (N := some 22) (v := ?_) (a' := ?_) #[true, true, true, true, true, true, true, true, true, false, false] rfl rfl (by kernel_rfl) (fun _ _ _ h => h) (Or.inl ⟨by rfl, ?_⟩) ?_ ?_
  rotate_left
  ·intro w'
   go_simp
   with_reducible rfl
  rotate_left
  ·simp only [Act.put, lsp, Ae6, Ae7]
   rfl
  refine As2 (i := 9) (N := some 8) (v := ?_) (a' := ?_) #[true, true, true, true, true, true, true, true, true, true, false] rfl rfl (by kernel_rfl) (fun _ _ _ h => h) (Or.inl ⟨by rfl, ?_⟩) ?_ ?_
  rotate_left
  ·intro w'
   go_simp
   with_reducible rfl
  rotate_left
  ·simp only [Act.put, lsp, Ae6, Ae7]
   rfl
  refine As2 (i := 10) (N := some 9) (v := ?_) (a' := ?_) #[true, true, true, true, true, true, true, true, true, true, true] rfl rfl (by kernel_rfl) (fun _ _ _ h => h) (Or.inl ⟨by rfl, ?_⟩) ?_ ?_
  rotate_left
  ·intro w'
   go_simp
   with_reducible rfl
  rotate_left
  ·simp only [Act.put, lsp, Ae6, Ae7]
   rfl
  refine Ar3 (by kernel_rfl) ?_
  go_wp2_with (first | ((with_reducible refine Ax5 (f := 100) rfl ?_); refine Bh5 (some 28) rfl rfl Tryz.func100 (by kernel_rfl) rfl #[.pointer (some ad_), .int .i64 i, .int .i64 j] rfl (by (try simp only [List.map_toArray, List.map_cons, List.map_nil]); first | done | rfl) ?_; (refine (hcall _ hF1_ hB1_.inv).mono ?_); rintro e w2_ ⟨rfl, hb2_⟩; refine ⟨_, rfl, ?_⟩))
  replace hc_ : w2_.drew.cell? ⟨ad_.block, ad_.off + 4, none⟩ = some (.map (some mb)) := (hb2_.cell (p := ⟨ad_.block, ad_.off + 4, none⟩) hbt_).trans hc_
  replace hk0_ : w2_.drew.cell? ⟨w.heap.size, 0, none⟩ = some (.int .i64 i) := (hb2_.cell (p := ⟨w.heap.size, 0, none⟩) hlt_).trans hk0_
  replace hk1_ : w2_.drew.cell? ⟨w.heap.size, 1, none⟩ = some (.int .i64 j) := (hb2_.cell (p := ⟨w.heap.size, 1, none⟩) hlt_).trans hk1_
  have hB2_ : Bel G mb w.heap.size w w2_.drew := Aj8 (Bb1 hB1_ hb2_)
  obtain ⟨es_, clock_, hm_, hsz_⟩ := hB2_.inv.size
  obtain ⟨es1_, clock1_, hm1_, F_, hG_⟩ := hB2_.inv
  rw [hm_] at hm1_
  injection hm1_ with hm1_
  injection hm1_ with e1_ e2_
  subst e1_ e2_
  obtain ⟨es2_, clock2_, hrun_, F2_, _, _, _, hw_⟩ := Go.Maps.fit_store (R' := plainElem Tryz.prog 4) (yv := (.lit (.bool r), [])) Bg6 Tryz.underlying112 hm_ F_ (by simp only [maxLen]; omega) (fun _ _ _ _ hz => hz) hkl_ (plainElem_bool Tryz.underlying4 r)
  replace hrun_ : (Instr.mapUpdate 112 (.map (some mb)) (.agg #[.int .i64 i, .int .i64 j]) (.bool r)).run Tryz.prog w2_.drew = .ok () (Go.ChangeMaps.setBlock w2_.drew mb (.map es2_ clock2_)) := hrun_
  have hB3_ : Bel G mb w.heap.size w (Go.ChangeMaps.setBlock w2_.drew mb (.map es2_ clock2_)) :=
   ⟨hB2_.os, hB2_.tape, hB2_.output, by simp [Go.ChangeMaps.setBlock]; exact hB2_.size, fun k_ hk_ hne_ => (Go.ChangeMaps.heap_setBlock_other hm_ _ (fun e_ => hne_ e_)).trans (hB2_.block k_ hk_ hne_), hI,
    ⟨es2_, clock2_, Go.ChangeMaps.heap_setBlock_same hm_ _, F2_, fun x_ hx_ => by
     rcases hw_ x_ hx_ with ⟨hx1_, _⟩ | ⟨hx1_, hx2_⟩
     ·exact hG_ x_ hx1_
     ·exact ⟨i, j, r, hi, hj, hx1_, hx2_, hnew⟩⟩⟩
  generalize Go.ChangeMaps.setBlock w2_.drew mb (.map es2_ clock2_) = w3_ at hrun_ hB3_
  refine st_ (n := 7) (S := fun w' => w'.cell? ⟨ad_.block, ad_.off + 4, none⟩ = some (.map (some mb)) ∧ w'.cell? ⟨w.heap.size, 0, none⟩ = some (.int .i64 i) ∧ w'.cell? ⟨w.heap.size, 1, none⟩ = some (.int .i64 j)) (ds := [6]) ⟨hc_, hk0_, hk1_⟩ (fun hHeld => ?_)
  refine As2 (i := 0) (N := some 29) (v := ?_) (a' := ?_) #[true, false, false, false, false, false, false] rfl rfl (by kernel_rfl) (fun _ _ _ h => h) (Or.inl ⟨by rfl, ?_⟩) ?_ ?_
  rotate_left
  ·intro w'
   go_simp
   with_reducible rfl
  rotate_left
  ·simp only [Act.put, lsp, Ae6, Ae7]
   rfl
  refine As2 (i := 1) (N := some 30) (v := ?_) (a' := ?_) #[true, true, false, false, false, false, false] rfl rfl (by kernel_rfl) (fun _ _ _ h => h) (Or.inl ⟨by rfl, ?_⟩) ?_ ?_
  rotate_left
  ·intro w'
   go_simp
   with_reducible rfl
  rotate_left
  ·simp only [Act.put, lsp, Ae6, Ae7]
   rfl
  refine As2 (i := 2) (N := some 31) (v := ?_) (a' := ?_) #[true, true, true, false, false, false, false] rfl rfl (by kernel_rfl) (fun _ _ _ h => h) (Or.inl ⟨by rfl, ?_⟩) ?_ ?_
  rotate_left
  ·intro w'
   go_simp
   with_reducible rfl
  rotate_left
  ·simp only [Act.put, lsp, Ae6, Ae7]
   rfl
  refine As2 (i := 5) (N := some 34) (v := ?_) (a' := ?_) #[true, true, true, false, false, true, false] rfl rfl (by kernel_rfl) (fun _ _ _ h => h) (Or.inl ⟨by rfl, ?_⟩) ?_ ?_
  rotate_left
  ·intro w'
   go_simp
   with_reducible rfl
  rotate_left
  ·simp only [Act.put, lsp, Ae6, Ae7]
   rfl
  refine take_ (i := 3) (N := some 32) (v := ?_) (a' := ?_) #[true, true, true, true, false, true, false] rfl rfl (by kernel_rfl) (fun _ _ _ h => h) (Or.inl ⟨by rfl, ?_⟩) hHeld ?_ ?_
  rotate_left
  ·rintro w' ⟨s0, s1, s2⟩
   go_simp
   with_reducible rfl
  rotate_left
  ·simp only [Act.put, lsp, Ae6, Ae7]
   rfl
  refine take_ (i := 4) (N := some 33) (v := ?_) (a' := ?_) #[true, true, true, true, true, true, false] rfl rfl (by kernel_rfl) (fun _ _ _ h => h) (Or.inl ⟨by rfl, ?_⟩) hHeld ?_ ?_
  rotate_left
  ·rintro w' ⟨s0, s1, s2⟩
   go_simp
   with_reducible rfl
  rotate_left
  ·simp only [Act.put, lsp, Ae6, Ae7]
   rfl
  refine Bk4 (i := 6) (N := none) #[true, true, true, true, true, true, true] rfl rfl (by kernel_rfl) (by decide) (fun K hK => ?_)
  refine Be5 (w1 := w3_) (by rfl) rfl ?_ ?_
  ·go_simp
  refine hK.out _ _ ?_
  clear hK K
  refine Ar3 (by kernel_rfl) ?_
  try go_wp2
  go_ret
  exact ⟨et, hB3_⟩
 ·obtain ⟨i_, j_, b_, _, _, hk2_, hv_, hg_⟩ := hG_ e0_ hin_
  rw [hkey_] at hk2_
  obtain ⟨rfl, rfl⟩ := cmpKey_inj hk2_
  have hbr_ := hold b_ hg_
  subst hbr_
  replace hrun_ : (Instr.lookup 112 (.map (some mb)) (.agg #[.int .i64 i, .int .i64 j]) true).run Tryz.prog W1_.drew = .ok (.tuple #[.bool b_, .bool true]) W1_.drew := by rw [hv_] at hrun_; exact hrun_
  clear hm_ F_ hG_ hin_
  refine st_ (n := 11) (S := fun w' => w'.cell? ⟨ad_.block, ad_.off + 4, none⟩ = some (.map (some mb)) ∧ w'.cell? ⟨w.heap.size, 0, none⟩ = some (.int .i64 i) ∧ w'.cell? ⟨w.heap.size, 1, none⟩ = some (.int .i64 j) ∧ (Instr.lookup 112 (.map (some mb)) (.agg #[.int .i64 i, .int .i64 j]) true).run Tryz.prog w' = .ok (.tuple #[.bool b_, .bool true]) w') (ds := []) ⟨hc_, hk0_, hk1_, hrun_⟩ (fun hHeld => ?_)
  refine As2 (i := 0) (N := some 15) (v := ?_) (a' := ?_) #[true, false, false, false, false, false, false, false, false, false, false] rfl rfl (by kernel_rfl) (fun _ _ _ h => h) (Or.inl ⟨by rfl, ?_⟩) ?_ ?_
  rotate_left
  ·intro w'
   go_simp
   with_reducible rfl
  rotate_left
  ·simp only [Act.put, lsp, Ae6, Ae7]
   rfl
  refine As2 (i := 1) (N := some 16) (v := ?_) (a' := ?_) #[true, true, false, false, false, false, false, false, false, false, false] rfl rfl (by kernel_rfl) (fun _ _ _ h => h) (Or.inl ⟨by rfl, ?_⟩) ?_ ?_
  rotate_left
  ·intro w'
   go_simp
   with_reducible rfl
  rotate_left
  ·simp only [Act.put, lsp, Ae6, Ae7]
   rfl
  refine As2 (i := 2) (N := some 17) (v := ?_) (a' := ?_) #[true, true, true, false, false, false, false, false, false, false, false] rfl rfl (by kernel_rfl) (fun _ _ _ h => h) (Or.inl ⟨by rfl, ?_⟩) ?_ ?_
  rotate_left
  ·intro w'
   go_simp
   with_reducible rfl
  rotate_left
  ·simp only [Act.put, lsp, Ae6, Ae7]
   rfl
  refine take_ (i := 3) (N := some 18) (v := ?_) (a' := ?_) #[true, true, true, true, false, false, false, false, false, false, false] rfl rfl (by kernel_rfl) (fun _ _ _ h => h) (Or.inl ⟨by rfl, ?_⟩) hHeld ?_ ?_
  rotate_left
  ·rintro w' ⟨s0, s1, s2, s3⟩
   go_simp
   with_reducible rfl
  rotate_left
  ·simp only [Act.put, lsp, Ae6, Ae7]
   rfl
  refine take_ (i := 4) (N := some 19) (v := ?_) (a' := ?_) #[true, true, true, true, true, false, false, false, false, false, false] rfl rfl (by kernel_rfl) (fun _ _ _ h => h) (Or.inl ⟨by rfl, ?_⟩) hHeld ?_ ?_
  rotate_left
  ·rintro w' ⟨s0, s1, s2, s3⟩
   go_simp
   with_reducible rfl
  rotate_left
  ·simp only [Act.put, lsp, Ae6, Ae7]
   rfl
  refine take_ (i := 5) (N := some 20) (v := ?_) (a' := ?_) #[true, true, true, true, true, true, false, false, false, false, false] rfl rfl (by kernel_rfl) (fun _ _ _ h => h) (Or.inl ⟨by rfl, ?_⟩) hHeld ?_ ?_
  rotate_left
  ·rintro w' ⟨s0, s1, s2, s3⟩
   go_simp
   with_reducible rfl
  rotate_left
  ·simp only [Act.put, lsp, Ae6, Ae7]
   rfl
  refine As2 (i := 6) (N := some 14) (v := ?_) (a' := ?_) #[true, true, true, true, true, true, true, false, false, false, false] rfl rfl (by kernel_rfl) (fun _ _ _ h => h) (Or.inl ⟨by rfl, ?_⟩) ?_ ?_
  rotate_left
  ·intro w'
   go_simp
   with_reducible rfl
  rotate_left
  ·simp only [Act.put, lsp, Ae6, Ae7]
   rfl
  refine As2 (i := 7) (N := some 21) (v := ?_) (a' := ?_) #[true, true, true, true, true, true, true, true, false, false, false] rfl rfl (by kernel_rfl) (fun _ _ _ h => h) (Or.inl ⟨by rfl, ?_⟩) ?_ ?_
  rotate_left
  ·intro w'
   go_simp
   with_reducible rfl
  rotate_left
  ·simp only [Act.put, lsp, Ae6, Ae7]
   rfl
  refine As2 (i := 8) (N := some 22) (v := ?_) (a' := ?_) #[true, true, true, true, true, true, true, true, true, false, false] rfl rfl (by kernel_rfl) (fun _ _ _ h => h) (Or.inl ⟨by rfl, ?_⟩) ?_ ?_
  rotate_left
  ·intro w'
   go_simp
   with_reducible rfl
  rotate_left
  ·simp only [Act.put, lsp, Ae6, Ae7]
   rfl
  refine As2 (i := 9) (N := some 8) (v := ?_) (a' := ?_) #[true, true, true, true, true, true, true, true, true, true, false] rfl rfl (by kernel_rfl) (fun _ _ _ h => h) (Or.inl ⟨by rfl, ?_⟩) ?_ ?_
  rotate_left
  ·intro w'
   go_simp
   with_reducible rfl
  rotate_left
  ·simp only [Act.put, lsp, Ae6, Ae7]
   rfl
  refine As2 (i := 10) (N := some 9) (v := ?_) (a' := ?_) #[true, true, true, true, true, true, true, true, true, true, true] rfl rfl (by kernel_rfl) (fun _ _ _ h => h) (Or.inl ⟨by rfl, ?_⟩) ?_ ?_
  rotate_left
  ·intro w'
   go_simp
   with_reducible rfl
  rotate_left
  ·simp only [Act.put, lsp, Ae6, Ae7]
   rfl
  refine Ar3 (by kernel_rfl) ?_
  try go_wp2
  go_ret
  exact ⟨et, hB1_⟩
theorem cmp_told {w W : World} {g : Nat} (A0 : Option Addr) (c0 : Nat) (ls : List S79) (A1 : Option Addr) (c1 : Nat) (lo : List Int) (A2 : Option Addr) (c2 : Nat) (la : List Int) (A3 : Option Addr) (c3 : Nat) (lb : List Int) (mb : Nat)
  (hr0 : Kd.C k79 w A0 ls.length ls) (hc0 : ls.length ≤ c0) (hr1 : Kd.C (Kd.int .i64) w A1 lo.length lo) (hc1 : lo.length ≤ c1) (hr2 : Kd.C (Kd.int .i64) w A2 la.length la) (hc2 : la.length ≤ c2) (hr3 : Kd.C (Kd.int .i64) w A3 lb.length lb) (hc3 : lb.length ≤ c3)
  (hb : Below w.heap.size w W) (hw : w.heap.size ≤ mb) (hne : g ≠ mb) (hg : W.heap[g]? = some (.cells #[.slice A0 ls.length c0, .slice A1 lo.length c1, .slice A2 la.length c2, .slice A3 lb.length c3, .map (some mb)] 114 (0, 0))) :
  Kd.F Bj7 W (fun k_ => k_ ≠ mb) (some ⟨g, 0, none⟩) [(⟨⟨ls⟩, lo, la, lb, (mb : Int)⟩ : S114)].length [(⟨⟨ls⟩, lo, la, lb, (mb : Int)⟩ : S114)] := by
 intro W' hW
 have hlt := Aj7 hg
 have hg' := (hW g hne hlt).trans hg
 have old : ∀ k, k < w.heap.size → W'.heap[k]? = w.heap[k]? := fun k hk => (hW k (by omega) (Nat.lt_of_lt_of_le hk hb.size)).trans (hb.block k hk)
 have g0 : Kd.C k79 W' A0 ls.length ls := Kd.C_F k79_heap hr0 W' (fun k hk _ => old k hk)
 have g1 : Kd.C (Kd.int .i64) W' A1 lo.length lo := Kd.C_F (Kd.heap_int .i64) hr1 W' (fun k hk _ => old k hk)
 have g2 : Kd.C (Kd.int .i64) W' A2 la.length la := Kd.C_F (Kd.heap_int .i64) hr2 W' (fun k hk _ => old k hk)
 have g3 : Kd.C (Kd.int .i64) W' A3 lb.length lb := Kd.C_F (Kd.heap_int .i64) hr3 W' (fun k hk _ => old k hk)
 have hK := k114_mk W' (⟨⟨ls⟩, lo, la, lb, (mb : Int)⟩ : S114) hc0 g0 hc1 g1 hc2 g2 hc3 g3
 refine ⟨rfl, by simp, fun _ => ⟨⟨g, 0, none⟩, rfl, fun j p hj => ?_⟩⟩
 cases j with
 | succ j => simp at hj
 | zero =>
  simp only [List.getElem?_cons_zero, Option.some.injEq] at hj
  subst hj
  refine ⟨_, rfl, hK, fun i u hu => ?_⟩
  have hc := Ad1 hg' i
  have ha : ((⟨g, 0, none⟩ : Addr).add (0 * Bj7.sz + i)) = ⟨g, i, none⟩ := by simp [Addr.add]; omega
  rw [ha, hc, ← hu]
  simp
theorem Ak2.walk (A0 : Option Addr) (c0 : Nat) (ls : List S79) (A1 : Option Addr) (c1 : Nat) (lo : List Int) (A2 : Option Addr) (c2 : Nat) (la : List Int) (A3 : Option Addr) (c3 : Nat) (lb : List Int) (r : Bool) (w : World)
  (hr0 : Kd.C k79 w A0 ls.length ls) (hc0 : ls.length ≤ c0) (hr1 : Kd.C (Kd.int .i64) w A1 lo.length lo) (hc1 : lo.length ≤ c1) (hr2 : Kd.C (Kd.int .i64) w A2 la.length la) (hc2 : la.length ≤ c2) (hr3 : Kd.C (Kd.int .i64) w A3 lb.length lb) (hc3 : lb.length ≤ c3)
  (G : Int → Int → Bool → Prop)
  (hcall : ∀ (W : World) (g : Nat), Kd.F Bj7 W (fun k_ => k_ ≠ w.heap.size + 1) (some ⟨g, 0, none⟩) [(⟨⟨ls⟩, lo, la, lb, ((w.heap.size + 1 : Nat) : Int)⟩ : S114)].length [(⟨⟨ls⟩, lo, la, lb, ((w.heap.size + 1 : Nat) : Int)⟩ : S114)] → Au6 G (w.heap.size + 1) W →
   Calls Tryz.prog 88 #[.pointer (some ⟨g, 0, none⟩), .int .i64 0, .int .i64 0] W fun e w' => e = .returned (.bool r) ∧ Bel G (w.heap.size + 1) W.heap.size W w') :
  Calls Tryz.prog 62 #[.agg #[.slice A0 ls.length c0], .slice A1 lo.length c1, .slice A2 la.length c2, .slice A3 lb.length c3] w fun e w' => e = .returned (.bool r) ∧ Below w.heap.size w w' := by
 have hu_ := Tryz.underlying36
 have hmk_ : ∀ w_ : World, (Instr.makeMap 112 none).run Tryz.prog w_ = .ok (.map (some w_.heap.size)) (w_.alloc (.map #[] 0)) := fun _ => rfl
 have hb_ : Below w.heap.size w (((w.alloc (.cells #[.slice A0 ls.length c0] 36)).alloc (.map #[] 0)).alloc (.cells #[.slice A0 ls.length c0, .slice A1 lo.length c1, .slice A2 la.length c2, .slice A3 lb.length c3, .map (some (w.heap.size + 1))] 114)) :=
  Ah3 (Ah3 (Ah3 (Below.refl _ _) _) _) _
 have hm_ : ((w.alloc (.cells #[.slice A0 ls.length c0] 36)).alloc (.map #[] 0)).heap[w.heap.size + 1]? = some (.map #[] 0) := by
  have := (Go.MapKept.heap_alloc (w.alloc (.cells #[.slice A0 ls.length c0] 36)) (.map #[] 0)).1
  simpa using this
 have hm2_ := (Go.MapKept.heap_alloc ((w.alloc (.cells #[.slice A0 ls.length c0] 36)).alloc (.map #[] 0)) (.cells #[.slice A0 ls.length c0, .slice A1 lo.length c1, .slice A2 la.length c2, .slice A3 lb.length c3, .map (some (w.heap.size + 1))] 114)).2 (w.heap.size + 1) (by simp)
 have hg_ : (((w.alloc (.cells #[.slice A0 ls.length c0] 36)).alloc (.map #[] 0)).alloc (.cells #[.slice A0 ls.length c0, .slice A1 lo.length c1, .slice A2 la.length c2, .slice A3 lb.length c3, .map (some (w.heap.size + 1))] 114)).heap[w.heap.size + 1 + 1]? = some (.cells #[.slice A0 ls.length c0, .slice A1 lo.length c1, .slice A2 la.length c2, .slice A3 lb.length c3, .map (some (w.heap.size + 1))] 114 (0, 0)) := by
  have := (Go.MapKept.heap_alloc ((w.alloc (.cells #[.slice A0 ls.length c0] 36)).alloc (.map #[] 0)) (.cells #[.slice A0 ls.length c0, .slice A1 lo.length c1, .slice A2 la.length c2, .slice A3 lb.length c3, .map (some (w.heap.size + 1))] 114)).1
  simpa using this
 replace hm2_ := hm2_.trans hm_
 have hI_ : Au6 G (w.heap.size + 1) (((w.alloc (.cells #[.slice A0 ls.length c0] 36)).alloc (.map #[] 0)).alloc (.cells #[.slice A0 ls.length c0, .slice A1 lo.length c1, .slice A2 la.length c2, .slice A3 lb.length c3, .map (some (w.heap.size + 1))] 114)) :=
  ⟨#[], 0, hm2_, ⟨by simp, Go.MapKept.stamped_empty 0, by simp⟩, by simp⟩
 have hF_ := cmp_told A0 c0 ls A1 c1 lo A2 c2 la A3 c3 lb (w.heap.size + 1) hr0 hc0 hr1 hc1 hr2 hc2 hr3 hc3 hb_ (by omega) (by omega) hg_
 have hcall_ := hcall _ _ hF_ hI_
 clear hF_ hm2_ hm_
 go_enter Tryz.func62, Tryz.ntmps62
 go_wp2_with (first | ((with_reducible refine Ax5 (f := 88) rfl ?_); refine Bh5 (some 18) rfl rfl Tryz.func88 (by kernel_rfl) rfl #[.pointer (some ⟨w.heap.size + 1 + 1, 0, none⟩), .int .i64 0, .int .i64 0] rfl (by (try simp only [List.map_toArray, List.map_cons, List.map_nil]); first | done | rfl) ?_; (refine hcall_.mono ?_); rintro e w2_ ⟨rfl, hb2_⟩; refine ⟨_, rfl, ?_⟩))
 go_ret
 exact ⟨et, ⟨hb2_.os.trans hb_.os, hb2_.tape.trans hb_.tape, hb2_.output.trans hb_.output, Nat.le_trans hb_.size hb2_.size, fun k_ hk_ => (hb2_.block k_ (Nat.lt_of_lt_of_le hk_ hb_.size) (by omega)).trans (hb_.block k_ hk_)⟩⟩
def Ab0.f : Nat → List S114 → Int → Int → Option Bool
 | 0, _, _, _ => none
 | k + 1, l, i, j => if 0 ≤ i ∧ i < 1000000 ∧ 0 ≤ j ∧ j < 1000000 then Aa1.f (fun p q => Ab0.f k l p q) k l i j else none
theorem Ab0.f_succ (k : Nat) (l : List S114) (i j : Int) : Ab0.f (k + 1) l i j = if 0 ≤ i ∧ i < 1000000 ∧ 0 ≤ j ∧ j < 1000000 then Aa1.f (fun p q => Ab0.f k l p q) k l i j else none := rfl
theorem Ab0.mono : ∀ (k : Nat) (l : List S114) (i j : Int), LeO (Ab0.f k l i j) (Ab0.f (k + 1) l i j)
 | 0, _, _, _ => fun r h => by cases h
 | k + 1, l, i, j => by
  have ih := Ab0.mono k l
  rw [Ab0.f_succ k, Ab0.f_succ (k + 1)]
  exact LeO.ite (Aa1.mono ih _ _ _ _) (LeO.none _)
theorem Ab0.more {k : Nat} {l : List S114} {i j : Int} {r : Bool} (h : Ab0.f k l i j = some r) : ∀ d, Ab0.f (k + d) l i j = some r
 | 0 => h
 | d + 1 => Ab0.mono (k + d) l i j r (Ab0.more h d)
theorem Ab0.det {k n : Nat} {l : List S114} {i j : Int} {r b : Bool} (h : Ab0.f k l i j = some r) (h2 : Ab0.f n l i j = some b) : b = r := by
 have h3 := Ab0.more h n
 have h4 := Ab0.more h2 k
 rw [Nat.add_comm n k, h3] at h4
 exact (Option.some.inj h4).symm
section
variable {l l' : List S114} (hlen : l.length = l'.length) (h0 : (Ac1 l 0).f0.f0 = (Ac1 l' 0).f0.f0) (h1 : (Ac1 l 0).f1 = (Ac1 l' 0).f1) (h2 : (Ac1 l 0).f2 = (Ac1 l' 0).f2) (h3 : (Ac1 l 0).f3 = (Ac1 l' 0).f3)
include hlen h0 h2 h3
theorem Ac9.cong (k : Nat) (a b : Int) : Ac9.f k l a b = Ac9.f k l' a b := by
 unfold Ac9.f
 rw [hlen, h0, h2, h3]
include h1
theorem Aa1.cong_l (g : Int → Int → Option Bool) : ∀ k, (∀ y1 y2 y3 y4 y5 y6 y7 y8 y9, Aa1.l0 g k l y1 y2 y3 y4 y5 y6 y7 y8 y9 = Aa1.l0 g k l' y1 y2 y3 y4 y5 y6 y7 y8 y9) ∧ (∀ y1 y2 y3 y4 y5 y6 y7, Aa1.l1 g k l y1 y2 y3 y4 y5 y6 y7 = Aa1.l1 g k l' y1 y2 y3 y4 y5 y6 y7) ∧ (∀ y1 y2 y3 y4, Aa1.l2 g k l y1 y2 y3 y4 = Aa1.l2 g k l' y1 y2 y3 y4)
 | 0 => ⟨fun _ _ _ _ _ _ _ _ _ => by simp only [Aa1.l0], fun _ _ _ _ _ _ _ => by simp only [Aa1.l1], fun _ _ _ _ => by simp only [Aa1.l2]⟩
 | k + 1 => by
  obtain ⟨i0, i1, i2⟩ := Aa1.cong_l g k
  have hs := Ac9.cong hlen h0 h2 h3 k
  refine ⟨fun _ _ _ _ _ _ _ _ _ => ?_, fun _ _ _ _ _ _ _ => ?_, fun _ _ _ _ => ?_⟩
  ·simp only [Aa1.l0, i0, i1, hs, hlen, h1]
  ·simp only [Aa1.l1, i1, i2]
  ·simp only [Aa1.l2, i2, hs]
theorem Aa1.cong (g : Int → Int → Option Bool) (k : Nat) (i j : Int) : Aa1.f g k l i j = Aa1.f g k l' i j := by
 unfold Aa1.f
 simp only [hlen, h0, h2, h3, (Aa1.cong_l hlen h0 h1 h2 h3 g k).1]
theorem Ab0.cong : ∀ (k : Nat) (i j : Int), Ab0.f k l i j = Ab0.f k l' i j
 | 0, _, _ => rfl
 | k + 1, i, j => by
  rw [Ab0.f_succ, Ab0.f_succ, Aa1.cong hlen h0 h1 h2 h3]
  have : (fun p q => Ab0.f k l p q) = (fun p q => Ab0.f k l' p q) := funext fun p => funext fun q => Ab0.cong k p q
  rw [this]
end
theorem Ab0.calls (mb : Nat) (A0 : Option Addr) (l0 : List S114) (hl : 0 < l0.length) (hm : (Ac1 l0 0).f4.toNat = mb) : ∀ (k : Nat) (i j : Int) (r : Bool) (w : World), Kd.F Bj7 w (fun k_ => k_ ≠ mb) A0 l0.length l0 → Au6 (fun i j b => ∃ n, Ab0.f n l0 i j = some b) mb w → Ab0.f k l0 i j = some r →
  Calls Tryz.prog 88 #[.pointer A0, .int .i64 i, .int .i64 j] w fun e w' => e = .returned (.bool r) ∧ Bel (fun i j b => ∃ n, Ab0.f n l0 i j = some b) mb w.heap.size w w'
 | 0, _, _, _, _, _, _, h => by cases h
 | k + 1, i, j, r, w, hF, hM, h => by
  have hs := h
  rw [Ab0.f_succ] at h
  by_cases hc : 0 ≤ i ∧ i < 1000000 ∧ 0 ≤ j ∧ j < 1000000
  ·rw [if_pos hc] at h
   obtain ⟨i', rfl⟩ : ∃ n : Nat, i = n := ⟨i.toNat, by omega⟩
   obtain ⟨j', rfl⟩ : ∃ n : Nat, j = n := ⟨j.toNat, by omega⟩
   exact Ab0.walk _ mb A0 l0 i' j' w hF hl hm hM (by omega) (by omega) r (fun b ⟨n, hn⟩ => Ab0.det hs hn) ⟨k + 1, hs⟩
    (fun W hF hM => Aa1.calls _ mb (fun p q => Ab0.f k l0 p q) k A0 l0 (fun W p q b hF hM hb => Ab0.calls mb A0 l0 hl hm k p q b W hF hM hb) _ _ r W hF hM h)
  ·rw [if_neg hc] at h
   cases h
def Ak2.f (k : Nat) (l0_0 : List S79) (l1 l2 l3 : List Int) : Option Bool := Ab0.f k [⟨⟨l0_0⟩, l1, l2, l3, 0⟩] 0 0
theorem Ak2.calls (k : Nat) (A0_0 : Option Addr) (c0_0 : Nat) (l0_0 : List S79) (A1 : Option Addr) (c1 : Nat) (l1 : List Int) (A2 : Option Addr) (c2 : Nat) (l2 : List Int) (A3 : Option Addr) (c3 : Nat) (l3 : List Int) (r : Bool) (w : World)
  (hr0_0 : Kd.C k79 w A0_0 l0_0.length l0_0) (hc0_0 : l0_0.length ≤ c0_0) (hr1 : Kd.C (Kd.int .i64) w A1 l1.length l1) (hc1 : l1.length ≤ c1) (hr2 : Kd.C (Kd.int .i64) w A2 l2.length l2) (hc2 : l2.length ≤ c2) (hr3 : Kd.C (Kd.int .i64) w A3 l3.length l3) (hc3 : l3.length ≤ c3) (h : Ak2.f k l0_0 l1 l2 l3 = some r) :
  Calls Tryz.prog 62 #[.agg #[.slice A0_0 l0_0.length c0_0], .slice A1 l1.length c1, .slice A2 l2.length c2, .slice A3 l3.length c3] w fun e w' => e = .returned (.bool r) ∧ Below w.heap.size w w' := by
 unfold Ak2.f at h
 rw [Ab0.cong (l := [⟨⟨l0_0⟩, l1, l2, l3, 0⟩]) (l' := [⟨⟨l0_0⟩, l1, l2, l3, ((w.heap.size + 1 : Nat) : Int)⟩]) rfl rfl rfl rfl rfl] at h
 exact Ak2.walk A0_0 c0_0 l0_0 A1 c1 l1 A2 c2 l2 A3 c3 l3 r w hr0_0 hc0_0 hr1 hc1 hr2 hc2 hr3 hc3 _ (fun W g hF hM => Ab0.calls (w.heap.size + 1) _ _ (by simp) (by show ((w.heap.size + 1 : Nat) : Int).toNat = w.heap.size + 1; exact Int.toNat_natCast _) k 0 0 r W hF hM h)
end Go.Proofs.YtgichahebemmiaaGreatDoor.P
