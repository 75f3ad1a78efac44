/- A part of the proof of the law FnExactGreatestOf. -/
import Derived.Test.YtgichahebemmiaaDoorCFnExactGreatestOf0
set_option linter.unusedVariables false
namespace Go.Proofs.YtgichahebemmiaaDoorW.PrintWords
open Go.RowKit

theorem bq {w w' : World} {g : Nat} {o : Obj} (H : w'.heap[g]? = some o) (h : w'.heap[g]? = some o → w.heap[g]? = some o := by intro h; (with_reducible repeat (first | refine blk_drewN ?_ _ | refine Ag1 ?_ | refine blk_alloc ?_ _)); exact h) : w.heap[g]? = some o := h H
theorem rq {α : Type} {d : Kd α} {e base : Nat} {ok : Nat → Prop} {w w' : World} {v : Value} {xs : List α} (H : d.R e w' base ok v xs) (h : d.R e w' base ok v xs → d.R e w base ok v xs := by intro h; (with_reducible repeat (first | apply Kd.R_alloc | apply Kd.R_drewN | apply Kd.R_drew)); exact h) : d.R e w base ok v xs := h H
theorem hq {B : Nat} {w W W' : World} (H : Below B w W') (h : Below B w W' → Below B w W := by intro h; (repeat (with_reducible first | exact h | apply Ad7 | apply Af0 | apply Ac2)); (try exact h)) : Below B w W := h H
theorem kq {w W W' : World} {g : Nat} {row : Option Nat} (H : Af3 w W' g row) (h : Af3 w W' g row → Af3 w W g row := by intro h; (repeat (with_reducible first | exact h | apply Af3.set_ | apply keep_drewN | apply keep_drew | apply keep_alloc)); (try exact h)) : Af3 w W g row := h H
theorem cq {α : Type} {d : Kd α} {w w' : World} {A : Option Addr} {n : Nat} {xs : List α} (H : d.C w' A n xs) (h : d.C w' A n xs → d.C w A n xs := by intro h; (repeat (first | (with_reducible refine Kd.C_alloc ?_ _) | (with_reducible refine Kd.C_drewN ?_ _) | (with_reducible refine Kd.C_drew ?_))); exact h) : d.C w A n xs := h H
theorem hs {B : Nat} {w W W' : World} (H : Below B w W') (h : Below B w W' → Below B w W := by intro h; repeat (with_reducible first | exact h | apply Ad7 | apply Af0 | apply Ac2 | refine Ai3 ?_ (Aside0.out (by assumption)))) : Below B w W := h H
theorem hsk {B C g : Nat} {w W W' : World} (H : Below B w W') (K : C ≤ g) (h : Below B w W' → C ≤ g → Below B w W := by intro h k; repeat (with_reducible first | exact h | apply Ad7 | apply Af0 | apply Ac2 | refine Ai3 ?_ k | refine Ai3 ?_ (Aside0.out (by assumption)))) : Below B w W := h H K
theorem ks {w W W' : World} {g : Nat} {row : Option Nat} (H : Af3 w W' g row) (h : Af3 w W' g row → Af3 w W g row := by intro h; repeat (with_reducible first | exact h | apply Af3.set_ | apply keep_drewN | apply keep_drew | apply keep_alloc | refine keep_far ?_ (Aside0.out (by assumption)) _)) : Af3 w W g row := h H
abbrev nq (k : Nat) (v : Value) : Prop := some k ≠ v.ownBlock
theorem am {p : Prop} (h : p) : Aside0 p := ⟨h⟩
theorem el {α : Sort _} {a b : α} (h : a = b := by ((try simp only [List.map_toArray, List.map_cons, List.map_nil]); first | done | rfl | (simp only [List.length_drop, List.length_take]; rfl))) : a = b := h
theorem bz {g : Nat} {w W : World} (hg : g = W.heap.size) (h : Below w.heap.size w W) : w.heap.size ≤ g := by rw [hg]; exact Ac3 h
theorem lsp : (∀ {α : Type} (l : List α) (i : Nat) (a : α), l.toArray.setIfInBounds i a = (l.set i a).toArray) ∧ (∀ {α : Type} {x : α} {xs : List α} {a : α}, (x :: xs).set 0 a = a :: xs) ∧ (∀ {α : Type} {x : α} {xs : List α} {i : Nat} {a : α}, (x :: xs).set (i + 1) a = x :: xs.set i a) :=
 ⟨fun l i a => List.setIfInBounds_toArray l i a, fun {_ _ _ _} => List.set_cons_zero, fun {_ _ _ _ _} => List.set_cons_succ⟩
end Go.Proofs.YtgichahebemmiaaDoorW.PrintWords

