/- A part of the proof of the law FnExactOrientEquation. -/
import Derived.Test.YtgichahebemmiaaGreatDoorProg
import Derived.Below
import Derived.Deep.Draws
import Derived.Deep.AppendLies
import Derived.Maps.AppendAt
import Derived.OwnWalk
import Derived.Laws.BytesArg
import Derived.Laws.MakeOwn
import Derived.Laws.OwnMore
import Derived.Deep.OwnRows
import Derived.Tactics
import Derived.Lib.ConvBytes
import Derived.Laws.Slices
import Derived.WalkKit
import Derived.KernelRfl
import Derived.RowKit3
import Derived.Deep.LoopGhost
import Derived.Deep.QuietTactic
import Derived.BigQuiet
import Derived.WideLaws
import Derived.Deep.DeepCutAuto
import Derived.Deep.CutBlock
import Derived.Deep.RegionHeld3
import Derived.Laws.Rows
import Derived.Lib.AppendStr
import Derived.ArgAppend
import Derived.Laws.IdiomCopy
import Derived.OrdersHeld
import Derived.Laws.BitsLemmas
import Derived.RowKit
import Derived.Lib.SliceRun
import Derived.Shelf.Strings.SlTrimAscii
import Derived.Maps.Own
import Derived.WideKeyPair
import Derived.Laws.StructEq
import Derived.Test.YtgichahebemmiaaGreatDoorCFnExactOrientEquation0
import Derived.Test.YtgichahebemmiaaGreatDoorCFnExactOrientEquation1
import Derived.Test.YtgichahebemmiaaGreatDoorCFnExactOrientEquation17
namespace Go.Proofs.YtgichahebemmiaaGreatDoor.P
open Go.RowKit Go.Proofs.YtgichahebemmiaaGreatDoorW.PrintWords Go.Proofs.YtgichahebemmiaaGreatDoorW.PrintLast Go.Proofs.YtgichahebemmiaaGreatDoorW.PrintMore
attribute [local go_sem] Ae7 Ae4 Af9 Ag0 Ad3 Ad2 Ae8 Ae5   -- for this text's walks alone
set_option linter.unusedVariables false
set_option linter.unusedSimpArgs false
theorem Ac3 {W0 W W2 : World} {S : Nat → Prop} {g : Nat} {o : Obj} (f : W0.heap[g]? = some o) (hb : W0.heap[g]? = some o → W.heap[g]? = some o) (hk : Ac7 W W2 S) (hne : ¬ S g) : W2.heap[g]? = some o := blk_kept (hb f) hk hne
def errW : Option Int → Value
 | none => .nilIface
 | some c => .iface 0 (.int .i64 c)
theorem Ad8 : errW none = .nilIface := rfl
theorem Ad9 (c : Int) : errW (some c) = .iface 0 (.int .i64 c) := rfl
section
variable {P : Program} {ops : Array Oper} {Q : Exit → Act → World → Prop}
theorem Af4 {o : Oper} {rest : List Oper} {a : Act} {W : World} (t : Tmp) {asl : Array Operand} {ts : Array TypeId} (_ho : o.op = .call { callee := .value (.tmp t), args := asl, argTypes := ts }) (h : wpList P ops Q (o :: rest) a W) : wpList P ops Q (o :: rest) a W := h
theorem Ao0 {rest : List Oper} {oi : Oper} {a : Act} {w : World} (N : Option Tmp) (hd : oi.dst = N) (hg : oi.guard = none) {t : Tmp} {f : FuncId} {fn : Func} {asl : Array Operand} {ts : Array TypeId} {caps : Array Value} (hf : P.funcs[f]? = some fn) (hname : (fn.name == "runtime.NumGoroutine") = false) (hb : fn.body.isSome = true) (args : Array Value)
  (hop : oi.op = .call { callee := .value (.tmp t), args := asl, argTypes := ts }) (hv : a.eval (.tmp t) = .func (.func f) #[] caps) (hargs : asl.map a.eval ++ caps = args)
  (h : Calls P f args w fun e w' => ∃ v, e = .returned v ∧ wpList P ops Q rest (a.put N v) w') : wpList P ops Q (oi :: rest) a w := by
 refine wpList_plain hg fun K hK => ?_
 have he := At0 hf hname hb args w
 have hrun : (execOp a.eval oi).run P w = .ok (.enter f args) w := by
  unfold execOp
  simp [hop, resolve, Deferred.ofValue, invoke, hv, hargs, he]
 unfold Oper.wp
 rw [hrun, Oper.upon_enter]
 refine h.mono fun e w'' hh => ?_
 obtain ⟨v, rfl, hk⟩ := hh
 subst hd
 exact hK _ _ hk
end
theorem Ap0 : (Tryz.prog.info? 2).map (fun i => (i.zero, i.size, i.bytes)) = some (some (.int .i64 0), 1, 8) := by kernel_rfl
theorem info3 : (Tryz.prog.info? 3).map (fun i => (i.zero, i.size, i.bytes)) = some (some (.int .i64 0), 1, 8) := by kernel_rfl
theorem info4 : (Tryz.prog.info? 4).map (fun i => (i.zero, i.size, i.bytes)) = some (some (.bool false), 1, 1) := by kernel_rfl
theorem info79 : (Tryz.prog.info? 79).map (fun i => (i.zero, i.size, i.bytes)) = some (some (.agg #[(.string ⟨#[]⟩), (.int .i64 0)]), 2, 24) := by kernel_rfl
structure S74 where
 f0 : ByteArray
 f1 : Int
def z74 : S74 := ⟨(⟨#[]⟩ : ByteArray), (0 : Int)⟩
def k74 : Kd S74 := Kd.iso (Kd.pair Kd.string (Kd.int .i64)) (fun x : S74 => (x.f0, x.f1))
theorem k74_open {w : World} {x : S74} {cs : List Value} (h : k74.K w x cs) : cs = [.string x.f0, .int .i64 x.f1] := by
 obtain ⟨_, _, rfl, rfl, rfl⟩ := h
 exact rfl
def Ah1 (xs : List S74) (i : Int) : S74 := xs.getD i.toNat z74
theorem Av2 {w : World} {A : Option Addr} {n : Nat} {xs : List S74} (h : Kd.C k74 w A n xs) (i : Int) (h0 : 0 ≤ i) (h1 : i < n) : ∃ ad , A = some ad ∧ w.cell? (ad.add (i.toNat * 2)) = some (.string (Ah1 xs i).f0) ∧ w.cell? ⟨(ad.add (i.toNat * 2)).block, (ad.add (i.toNat * 2)).off + 1, none⟩ = some (.int .i64 (Ah1 xs i).f1) := by
 obtain ⟨ad, c, e, _, hK, hc0⟩ := Kd.C_get h z74 i h0 h1
 have hc : ∀ j u, c[j]? = some u → w.cell? (ad.add (i.toNat * 2 + j)) = some u := hc0
 obtain rfl := k74_open hK
 exact ⟨ad, e, hc 0 _ rfl, by rw [← Aj5 _ _ 1 (by omega)]; exact hc 1 _ rfl⟩
structure S79 where
 f0 : ByteArray
 f1 : Int
def z79 : S79 := ⟨(⟨#[]⟩ : ByteArray), (0 : Int)⟩
def k79 : Kd S79 := Kd.iso (Kd.pair Kd.string (Kd.int .i64)) (fun x : S79 => (x.f0, x.f1))
theorem k79_heap : Kd.Heap k79 := Kd.heap_iso _ (Kd.heap_pair Kd.heap_string (Kd.heap_int .i64))
theorem k79_open {w : World} {x : S79} {cs : List Value} (h : k79.K w x cs) : cs = [.string x.f0, .int .i64 x.f1] := by
 obtain ⟨_, _, rfl, rfl, rfl⟩ := h
 exact rfl
theorem Ak4 {w : World} {base : Nat} {ok : Nat → Prop} {x : S79} {cs : List Value} (h : k79.M w base ok x cs) : cs = [.string x.f0, .int .i64 x.f1] := by
 obtain ⟨_, _, rfl, rfl, rfl⟩ := h
 exact rfl
theorem As3 (w : World) (base : Nat) (ok : Nat → Prop) (x : S79)  : k79.M w base ok x [.string x.f0, .int .i64 x.f1] := ⟨[.string x.f0], [.int .i64 x.f1], rfl, rfl, rfl⟩
def Aa7 (xs : List S79) (i : Int) : S79 := xs.getD i.toNat z79
theorem Ae1 {w : World} {A : Option Addr} {n : Nat} {xs : List S79} (h : Kd.C k79 w A n xs) (i : Int) (h0 : 0 ≤ i) (h1 : i < n) : ∃ ad , A = some ad ∧ w.cell? (ad.add (i.toNat * 2)) = some (.string (Aa7 xs i).f0) ∧ w.cell? ⟨(ad.add (i.toNat * 2)).block, (ad.add (i.toNat * 2)).off + 1, none⟩ = some (.int .i64 (Aa7 xs i).f1) := by
 obtain ⟨ad, c, e, _, hK, hc0⟩ := Kd.C_get h z79 i h0 h1
 have hc : ∀ j u, c[j]? = some u → w.cell? (ad.add (i.toNat * 2 + j)) = some u := hc0
 obtain rfl := k79_open hK
 exact ⟨ad, e, hc 0 _ rfl, by rw [← Aj5 _ _ 1 (by omega)]; exact hc 1 _ rfl⟩
structure S36 where
 f0 : (List S79)
def z36 : S36 := ⟨([] : List S79)⟩
def k36 : Kd S36 := Kd.iso (Kd.slice 79 k79) (fun x : S36 => x.f0)
theorem k36_open {w : World} {x : S36} {cs : List Value} (h : k36.K w x cs) : ∃ A0 c0, cs = [.slice A0 x.f0.length c0] ∧ x.f0.length ≤ c0 ∧ k79.C w A0 x.f0.length x.f0 := by
 obtain ⟨A0, c0, rfl, l0, g0⟩ := h
 exact ⟨A0, c0, rfl, l0, g0⟩
theorem k36_mk (w : World) (x : S36) {A0 : Option Addr} {c0 : Nat} (l0 : x.f0.length ≤ c0) (g0 : k79.C w A0 x.f0.length x.f0) : k36.K w x [.slice A0 x.f0.length c0] := ⟨A0, c0, rfl, l0, g0⟩
def Ad0 (xs : List S36) (i : Int) : S36 := xs.getD i.toNat z36
theorem Ah9 {w : World} {A : Option Addr} {n : Nat} {xs : List S36} (h : Kd.C k36 w A n xs) (i : Int) (h0 : 0 ≤ i) (h1 : i < n) : ∃ ad A0 c0, A = some ad ∧ w.cell? (ad.add i.toNat) = some (.slice A0 (Ad0 xs i).f0.length c0) ∧ (Ad0 xs i).f0.length ≤ c0 ∧ k79.C w A0 (Ad0 xs i).f0.length (Ad0 xs i).f0 := by
 obtain ⟨ad, c, e, _, hK, hc0⟩ := Kd.C_get h z36 i h0 h1
 have hc : ∀ j u, c[j]? = some u → w.cell? (ad.add (i.toNat * 1 + j)) = some u := hc0
 obtain ⟨A0, c0, rfl, l0, g0⟩ := k36_open hK
 exact ⟨ad, A0, c0, e, by have hq := hc 0 _ rfl; rwa [Nat.mul_one, Nat.add_zero] at hq, l0, g0⟩
structure S30 where
 f0 : (List Int)
 f1 : (List Int)
def z30 : S30 := ⟨([] : List Int), ([] : List Int)⟩
def k30 : Kd S30 := Kd.iso (Kd.pair (Kd.slice 2 (Kd.int .i64)) (Kd.slice 2 (Kd.int .i64))) (fun x : S30 => (x.f0, x.f1))
theorem k30_open {w : World} {x : S30} {cs : List Value} (h : k30.K w x cs) : ∃ A0 c0 A1 c1, cs = [.slice A0 x.f0.length c0, .slice A1 x.f1.length c1] ∧ x.f0.length ≤ c0 ∧ (Kd.int .i64).C w A0 x.f0.length x.f0 ∧ x.f1.length ≤ c1 ∧ (Kd.int .i64).C w A1 x.f1.length x.f1 := by
 obtain ⟨_, _, rfl, ⟨A0, c0, rfl, l0, g0⟩, ⟨A1, c1, rfl, l1, g1⟩⟩ := h
 exact ⟨A0, c0, A1, c1, rfl, l0, g0, l1, g1⟩
theorem k30_mk (w : World) (x : S30) {A0 : Option Addr} {c0 : Nat} (l0 : x.f0.length ≤ c0) (g0 : (Kd.int .i64).C w A0 x.f0.length x.f0) {A1 : Option Addr} {c1 : Nat} (l1 : x.f1.length ≤ c1) (g1 : (Kd.int .i64).C w A1 x.f1.length x.f1) : k30.K w x [.slice A0 x.f0.length c0, .slice A1 x.f1.length c1] := ⟨[.slice A0 x.f0.length c0], [.slice A1 x.f1.length c1], rfl, ⟨A0, c0, rfl, l0, g0⟩, ⟨A1, c1, rfl, l1, g1⟩⟩
def Af6 (xs : List S30) (i : Int) : S30 := xs.getD i.toNat z30
theorem Au6 {w : World} {A : Option Addr} {n : Nat} {xs : List S30} (h : Kd.C k30 w A n xs) (i : Int) (h0 : 0 ≤ i) (h1 : i < n) : ∃ ad A0 c0 A1 c1, A = some ad ∧ w.cell? (ad.add (i.toNat * 2)) = some (.slice A0 (Af6 xs i).f0.length c0) ∧ w.cell? ⟨(ad.add (i.toNat * 2)).block, (ad.add (i.toNat * 2)).off + 1, none⟩ = some (.slice A1 (Af6 xs i).f1.length c1) ∧ (Af6 xs i).f0.length ≤ c0 ∧ (Kd.int .i64).C w A0 (Af6 xs i).f0.length (Af6 xs i).f0 ∧ (Af6 xs i).f1.length ≤ c1 ∧ (Kd.int .i64).C w A1 (Af6 xs i).f1.length (Af6 xs i).f1 := by
 obtain ⟨ad, c, e, _, hK, hc0⟩ := Kd.C_get h z30 i h0 h1
 have hc : ∀ j u, c[j]? = some u → w.cell? (ad.add (i.toNat * 2 + j)) = some u := hc0
 obtain ⟨A0, c0, A1, c1, rfl, l0, g0, l1, g1⟩ := k30_open hK
 exact ⟨ad, A0, c0, A1, c1, e, hc 0 _ rfl, by rw [← Aj5 _ _ 1 (by omega)]; exact hc 1 _ rfl, l0, g0, l1, g1⟩
def Kd.mapk : Kd Int := Kd.scalar (fun b : Int => .map (some b.toNat)) (fun _ => rfl)
structure S114 where
 f0 : S36
 f1 : (List Int)
 f2 : (List Int)
 f3 : (List Int)
 f4 : Int
def z114 : S114 := ⟨z36, ([] : List Int), ([] : List Int), ([] : List Int), (0 : Int)⟩
def Au8 : Kd S114 := Kd.iso (Kd.pair k36 (Kd.pair (Kd.slice 2 (Kd.int .i64)) (Kd.pair (Kd.slice 2 (Kd.int .i64)) (Kd.pair (Kd.slice 2 (Kd.int .i64)) Kd.mapk)))) (fun x : S114 => (x.f0, x.f1, x.f2, x.f3, x.f4))
theorem k114_open {w : World} {x : S114} {cs : List Value} (h : Au8.K w x cs) : ∃ A0 c0 A1 c1 A2 c2 A3 c3, cs = [.slice A0 x.f0.f0.length c0, .slice A1 x.f1.length c1, .slice A2 x.f2.length c2, .slice A3 x.f3.length c3, .map (some x.f4.toNat)] ∧ x.f0.f0.length ≤ c0 ∧ k79.C w A0 x.f0.f0.length x.f0.f0 ∧ x.f1.length ≤ c1 ∧ (Kd.int .i64).C w A1 x.f1.length x.f1 ∧ x.f2.length ≤ c2 ∧ (Kd.int .i64).C w A2 x.f2.length x.f2 ∧ x.f3.length ≤ c3 ∧ (Kd.int .i64).C w A3 x.f3.length x.f3 := by
 obtain ⟨_, _, rfl, s0, ⟨_, _, rfl, ⟨A1, c1, rfl, l1, g1⟩, ⟨_, _, rfl, ⟨A2, c2, rfl, l2, g2⟩, ⟨_, _, rfl, ⟨A3, c3, rfl, l3, g3⟩, rfl⟩⟩⟩⟩ := h
 obtain ⟨A0, c0, rfl, l0, g0⟩ := k36_open s0
 exact ⟨A0, c0, A1, c1, A2, c2, A3, c3, rfl, l0, g0, l1, g1, l2, g2, l3, g3⟩
theorem k114_mk (w : World) (x : S114) {A0 : Option Addr} {c0 : Nat} (l0 : x.f0.f0.length ≤ c0) (g0 : k79.C w A0 x.f0.f0.length x.f0.f0) {A1 : Option Addr} {c1 : Nat} (l1 : x.f1.length ≤ c1) (g1 : (Kd.int .i64).C w A1 x.f1.length x.f1) {A2 : Option Addr} {c2 : Nat} (l2 : x.f2.length ≤ c2) (g2 : (Kd.int .i64).C w A2 x.f2.length x.f2) {A3 : Option Addr} {c3 : Nat} (l3 : x.f3.length ≤ c3) (g3 : (Kd.int .i64).C w A3 x.f3.length x.f3) : Au8.K w x [.slice A0 x.f0.f0.length c0, .slice A1 x.f1.length c1, .slice A2 x.f2.length c2, .slice A3 x.f3.length c3, .map (some x.f4.toNat)] := ⟨[.slice A0 x.f0.f0.length c0], [.slice A1 x.f1.length c1, .slice A2 x.f2.length c2, .slice A3 x.f3.length c3, .map (some x.f4.toNat)], rfl, (k36_mk w x.f0 l0 g0), ⟨[.slice A1 x.f1.length c1], [.slice A2 x.f2.length c2, .slice A3 x.f3.length c3, .map (some x.f4.toNat)], rfl, ⟨A1, c1, rfl, l1, g1⟩, ⟨[.slice A2 x.f2.length c2], [.slice A3 x.f3.length c3, .map (some x.f4.toNat)], rfl, ⟨A2, c2, rfl, l2, g2⟩, ⟨[.slice A3 x.f3.length c3], [.map (some x.f4.toNat)], rfl, ⟨A3, c3, rfl, l3, g3⟩, rfl⟩⟩⟩⟩
def Aa2 (xs : List S114) (i : Int) : S114 := xs.getD i.toNat z114
theorem Ak1 {w : World} {A : Option Addr} {n : Nat} {xs : List S114} (h : Kd.C Au8 w A n xs) (i : Int) (h0 : 0 ≤ i) (h1 : i < n) : ∃ ad A0 c0 A1 c1 A2 c2 A3 c3, A = some ad ∧ w.cell? (ad.add (i.toNat * 5)) = some (.slice A0 (Aa2 xs i).f0.f0.length c0) ∧ w.cell? ⟨(ad.add (i.toNat * 5)).block, (ad.add (i.toNat * 5)).off + 1, none⟩ = some (.slice A1 (Aa2 xs i).f1.length c1) ∧ w.cell? ⟨(ad.add (i.toNat * 5)).block, (ad.add (i.toNat * 5)).off + 2, none⟩ = some (.slice A2 (Aa2 xs i).f2.length c2) ∧ w.cell? ⟨(ad.add (i.toNat * 5)).block, (ad.add (i.toNat * 5)).off + 3, none⟩ = some (.slice A3 (Aa2 xs i).f3.length c3) ∧ w.cell? ⟨(ad.add (i.toNat * 5)).block, (ad.add (i.toNat * 5)).off + 4, none⟩ = some (.map (some (Aa2 xs i).f4.toNat)) ∧ (Aa2 xs i).f0.f0.length ≤ c0 ∧ k79.C w A0 (Aa2 xs i).f0.f0.length (Aa2 xs i).f0.f0 ∧ (Aa2 xs i).f1.length ≤ c1 ∧ (Kd.int .i64).C w A1 (Aa2 xs i).f1.length (Aa2 xs i).f1 ∧ (Aa2 xs i).f2.length ≤ c2 ∧ (Kd.int .i64).C w A2 (Aa2 xs i).f2.length (Aa2 xs i).f2 ∧ (Aa2 xs i).f3.length ≤ c3 ∧ (Kd.int .i64).C w A3 (Aa2 xs i).f3.length (Aa2 xs i).f3 := by
 obtain ⟨ad, c, e, _, hK, hc0⟩ := Kd.C_get h z114 i h0 h1
 have hc : ∀ j u, c[j]? = some u → w.cell? (ad.add (i.toNat * 5 + j)) = some u := hc0
 obtain ⟨A0, c0, A1, c1, A2, c2, A3, c3, rfl, l0, g0, l1, g1, l2, g2, l3, g3⟩ := k114_open hK
 exact ⟨ad, A0, c0, A1, c1, A2, c2, A3, c3, e, hc 0 _ rfl, by rw [← Aj5 _ _ 1 (by omega)]; exact hc 1 _ rfl, by rw [← Aj5 _ _ 2 (by omega)]; exact hc 2 _ rfl, by rw [← Aj5 _ _ 3 (by omega)]; exact hc 3 _ rfl, by rw [← Aj5 _ _ 4 (by omega)]; exact hc 4 _ rfl, l0, g0, l1, g1, l2, g2, l3, g3⟩
theorem k9_box {w : World} {g : Nat} {f0 : ByteArray} (hb : w.heap[g]? = some (.cells #[.string f0] 9 (0, 0))) : Kd.C Kd.string w (some ⟨g, 0, none⟩) 1 [f0] := by
 refine ⟨rfl, by omega, fun _ => ⟨_, rfl, fun j p hj => ?_⟩⟩
 have hj0 : j = 0 := by have := (List.getElem?_eq_some_iff.1 hj).1; simp at this; omega
 subst hj0
 obtain rfl : f0 = p := by simpa using hj
 refine ⟨[.string f0], rfl, rfl, fun q u hu => ?_⟩
 rw [Nat.zero_mul, Nat.zero_add, Al6]
 exact (Aa0 hb q).trans (by simpa using hu)
theorem k30_box {w : World} {g : Nat} {f0 : List Int} {f1 : List Int} {A0 : Option Addr} {c0 : Nat} {A1 : Option Addr} {c1 : Nat} (hb : w.heap[g]? = some (.cells #[.slice A0 f0.length c0, .slice A1 f1.length c1] 30 (0, 0))) (h0 : Kd.C (Kd.int .i64) w A0 f0.length f0) (hl0 : f0.length ≤ c0) (h1 : Kd.C (Kd.int .i64) w A1 f1.length f1) (hl1 : f1.length ≤ c1) : Kd.C k30 w (some ⟨g, 0, none⟩) 1 [(⟨f0, f1⟩ : S30)] := by
 refine ⟨rfl, by omega, fun _ => ⟨_, rfl, fun j p hj => ?_⟩⟩
 have hj0 : j = 0 := by have := (List.getElem?_eq_some_iff.1 hj).1; simp at this; omega
 subst hj0
 obtain rfl : (⟨f0, f1⟩ : S30) = p := by simpa using hj
 refine ⟨[.slice A0 f0.length c0, .slice A1 f1.length c1], rfl, k30_mk w _ hl0 h0 hl1 h1, fun q u hu => ?_⟩
 rw [Nat.zero_mul, Nat.zero_add, Al6]
 exact (Aa0 hb q).trans (by simpa using hu)
theorem Ag4 {w : World} {g : Nat} {f0 : List (S79)} {A0 : Option Addr} {c0 : Nat} (hb : w.heap[g]? = some (.cells #[.slice A0 f0.length c0] 36 (0, 0))) (h0 : Kd.C k79 w A0 f0.length f0) (hl0 : f0.length ≤ c0) : Kd.C k36 w (some ⟨g, 0, none⟩) 1 [(⟨f0⟩ : S36)] := by
 refine ⟨rfl, by omega, fun _ => ⟨_, rfl, fun j p hj => ?_⟩⟩
 have hj0 : j = 0 := by have := (List.getElem?_eq_some_iff.1 hj).1; simp at this; omega
 subst hj0
 obtain rfl : (⟨f0⟩ : S36) = p := by simpa using hj
 refine ⟨[.slice A0 f0.length c0], rfl, k36_mk w _ hl0 h0, fun q u hu => ?_⟩
 rw [Nat.zero_mul, Nat.zero_add, Al6]
 exact (Aa0 hb q).trans (by simpa using hu)
end Go.Proofs.YtgichahebemmiaaGreatDoor.P
namespace Go.Proofs.YtgichahebemmiaaGreatDoor.P
open Go.RowKit Go.Proofs.YtgichahebemmiaaGreatDoorW.PrintWords Go.Proofs.YtgichahebemmiaaGreatDoorW.PrintLast Go.Proofs.YtgichahebemmiaaGreatDoorW.PrintMore
attribute [local go_sem] Ae7 Ae4 Af9 Ag0 Ad3 Ad2 Ae8 Ae5   -- for this text's walks alone
set_option linter.unusedVariables false
set_option linter.unusedSimpArgs false
def laws_szSymbol.f (a0_0 : ByteArray) (a0_1 : Int) (a1 : Int) : Option (Int) := if (wrap64 (a1 - (a0_0.size : Int))) < 0 then (some (-1)) else (some (wrap64 (a1 - (a0_0.size : Int))))
set_option maxHeartbeats 8000000 in
set_option maxRecDepth 100000 in
theorem laws_szSymbol.calls (a0_0 : ByteArray) (a0_1 : Int) (a1 : Int) (r : Int) (w : World) (h : laws_szSymbol.f a0_0 a0_1 a1 = some r) :
  Calls Tryz.prog 44 #[.agg #[.string a0_0, .int .i64 a0_1], .int .i64 a1] w fun e w' => e = .returned (.int .i64 r) ∧ Below w.heap.size w w' := by
 have hu74 := Tryz.underlying74
 have HB := am (Below.refl w.heap.size w)
 have H : (if (wrap64 (a1 - (a0_0.size : Int))) < 0 then (some (-1)) else (some (wrap64 (a1 - (a0_0.size : Int))))) = some r := h
 clear h
 by_cases c3 : (wrap64 (a1 - (a0_0.size : Int))) < 0
 ·rw [if_pos c3] at H
  have c3b0 : decide ((wrap64 (a1 - (a0_0.size : Int))) < 0) = true := decide_eq_true c3
  clear c3
  obtain rfl := Option.some.inj H
  go_enter Tryz.func44, Tryz.ntmps44
  go_wp2_with (first | (refine bx 2 rfl #[.string a0_0, .int .i64 a0_1] 74 ?_; intro gb101 hg w4 hbox hb; have BK101 := am (hbox); have GW101 := am (bz hg (hq HB.out)); replace HB := sb HB hb; have GE101 := GW101; clear hb hbox hg; have hcz5_0 : w4.cell? ⟨gb101, 0, none⟩ = some (.string a0_0) := (Aa0 BK101.out 0).trans rfl; have hcz5_1 : w4.cell? ⟨gb101, 1, none⟩ = some (.int .i64 a0_1) := (Aa0 BK101.out 1).trans rfl; have hfz5_0 := Aa1 BK101.out 0; have hfz5_1 := Aa1 BK101.out 1))
  go_ret
  exact ⟨er, hs HB.out⟩
 ·rw [if_neg c3] at H
  have c3b0 : decide ((wrap64 (a1 - (a0_0.size : Int))) < 0) = false := decide_eq_false c3
  clear c3
  obtain rfl := Option.some.inj H
  go_enter Tryz.func44, Tryz.ntmps44
  go_wp2_with (first | (refine bx 2 rfl #[.string a0_0, .int .i64 a0_1] 74 ?_; intro gb101 hg w6 hbox hb; have BK101 := am (hbox); have GW101 := am (bz hg (hq HB.out)); replace HB := sb HB hb; have GE101 := GW101; clear hb hbox hg; have hcz7_0 : w6.cell? ⟨gb101, 0, none⟩ = some (.string a0_0) := (Aa0 BK101.out 0).trans rfl; have hcz7_1 : w6.cell? ⟨gb101, 1, none⟩ = some (.int .i64 a0_1) := (Aa0 BK101.out 1).trans rfl; have hfz7_0 := Aa1 BK101.out 0; have hfz7_1 := Aa1 BK101.out 1))
  go_ret
  exact ⟨er, hs HB.out⟩
def laws_szSymbolS.l0 : Nat → List (S74) → Int → Int → Option (Int)
 | 0, _, _, _ => none
 | k + 1, x0, x1, x5 => if x5 < (x0.length : Int) then (if 0 ≤ x5 then ((laws_szSymbol.f ((Ah1 x0 x5).f0) ((Ah1 x0 x5).f1) x1).bind fun t103 => (if t103 < 0 then (some (-1)) else (laws_szSymbolS.l0 k x0 t103 (wrap64 (x5 + 1))))) else (none)) else (some x1)
def laws_szSymbolS.f (k : Nat) (l0 : List (S74)) (a1 : Int) : Option (Int) := if (wrap64 (a1 - (l0.length : Int))) < 0 then (some (-1)) else (laws_szSymbolS.l0 k l0 (wrap64 (a1 - (l0.length : Int))) 0)
set_option maxHeartbeats 8000000 in
set_option maxRecDepth 100000 in
theorem laws_szSymbolS.calls (k : Nat) (A0 : Option Addr) (c0 : Nat) (l0 : List (S74)) (a1 : Int) (r : Int) (w : World) (hr0 : Kd.C k74 w A0 l0.length l0) (hc0 : l0.length ≤ c0) (h : laws_szSymbolS.f k l0 a1 = some r) :
  Calls Tryz.prog 26 #[.slice A0 l0.length c0, .int .i64 a1] w fun e w' => e = .returned (.int .i64 r) ∧ Below w.heap.size w w' := by
 have hu74 := Tryz.underlying74
 have HR0 := am hr0
 have HC0 := am hc0
 clear hr0 hc0
 have HB := am (Below.refl w.heap.size w)
 have H : (if (wrap64 (a1 - (l0.length : Int))) < 0 then (some (-1)) else (laws_szSymbolS.l0 k l0 (wrap64 (a1 - (l0.length : Int))) 0)) = some r := h
 clear h
 by_cases c3 : (wrap64 (a1 - (l0.length : Int))) < 0
 ·rw [if_pos c3] at H
  have c3b0 : decide ((wrap64 (a1 - (l0.length : Int))) < 0) = true := decide_eq_true c3
  clear c3
  obtain rfl := Option.some.inj H
  go_enter Tryz.func26, Tryz.ntmps26
  go_wp2
  go_ret
  exact ⟨er, hq HB.out⟩
 ·rw [if_neg c3] at H
  have c3b0 : decide ((wrap64 (a1 - (l0.length : Int))) < 0) = false := decide_eq_false c3
  clear c3
  have H' := am H
  clear H
  go_enter Tryz.func26, Tryz.ntmps26
  go_wp2
  go_loopg [1, 5] k (fun kq v1 v5 w' => ∃ (x1_1 : Int) (x5_1 : Int), v1 = .int .i64 x1_1 ∧ v5 = .int .i64 x5_1 ∧ Aside0 (laws_szSymbolS.l0 kq l0 x1_1 x5_1 = some r) ∧ Aside0 (kq ≤ k) ∧ Aside0 (Below w.heap.size w w'))
  case atStart => exact ⟨(wrap64 (a1 - (l0.length : Int))), (0), et, et, H', ⟨Nat.le_refl _⟩, ⟨hq HB.out⟩⟩
  case round =>
   clear H'
   try clear c3; try clear c3b0
   obtain ⟨x1_1, x5_1, rfl, rfl, HA, HK1, HB⟩ := hrel
   cases gk with
   | zero => exact absurd HA.out (by simp [laws_szSymbolS.l0])
   | succ k1 =>
    have H := HA.out
    clear HA
    simp only [laws_szSymbolS.l0] at H
    by_cases c4 : x5_1 < (l0.length : Int)
    ·rw [if_pos c4] at H
     have c4b0 : decide (x5_1 < (l0.length : Int)) = true := decide_eq_true c4
     clear c4
     obtain ⟨c5b0, H⟩ := ife H
     obtain ⟨t103, A6, H⟩ := ob H
     try dsimp only at H
     by_cases c7 : t103 < 0
     ·rw [if_pos c7] at H
      have c7b0 : decide (t103 < 0) = true := decide_eq_true c7
      clear c7
      obtain rfl := Option.some.inj H
      have p102 : 0 ≤ (x5_1 : Int) := od
      have q102 : x5_1 < (l0.length : Int) := od
      obtain ⟨ad102, e102, hx102_0, hx102_1⟩ := Av2 HR0.out x5_1 p102 q102
      cases e102
      replace hx102_0 := cz HB.out hx102_0
      replace hx102_1 := cz HB.out hx102_1
      replace p102 := eq_true p102
      replace q102 := eq_true q102
      go_wp2_with (first | (refine gl (some 23) Tryz.func44 rfl #[.agg #[.string ((Ah1 l0 x5_1).f0), .int .i64 ((Ah1 l0 x5_1).f1)], .int .i64 x1_1] ?_; (with_reducible refine (laws_szSymbol.calls ((Ah1 l0 x5_1).f0) ((Ah1 l0 x5_1).f1) x1_1 t103 _ A6.out).mono ?_); rintro e w8 ⟨rfl, hb⟩; refine ⟨_, rfl, ?_⟩; replace HB := sb HB hb; (try clear hb)))
      go_ret
      exact ⟨er, hq HB.out⟩
     ·rw [if_neg c7] at H
      have c7b0 : decide (t103 < 0) = false := decide_eq_false c7
      clear c7
      have H' := am H
      clear H
      have p102 : 0 ≤ (x5_1 : Int) := od
      have q102 : x5_1 < (l0.length : Int) := od
      obtain ⟨ad102, e102, hx102_0, hx102_1⟩ := Av2 HR0.out x5_1 p102 q102
      cases e102
      replace hx102_0 := cz HB.out hx102_0
      replace hx102_1 := cz HB.out hx102_1
      replace p102 := eq_true p102
      replace q102 := eq_true q102
      go_wp2_with (first | (refine gl (some 23) Tryz.func44 rfl #[.agg #[.string ((Ah1 l0 x5_1).f0), .int .i64 ((Ah1 l0 x5_1).f1)], .int .i64 x1_1] ?_; (with_reducible refine (laws_szSymbol.calls ((Ah1 l0 x5_1).f0) ((Ah1 l0 x5_1).f1) x1_1 t103 _ A6.out).mono ?_); rintro e w9 ⟨rfl, hb⟩; refine ⟨_, rfl, ?_⟩; replace HB := sb HB hb; (try clear hb)))
      go_roundg k1
      case measure => have := HK1.out; omega
      case rel => exact ⟨(t103), (wrap64 (x5_1 + 1)), et, et, H', ⟨by have := HK1.out; omega⟩, ⟨hq HB.out⟩⟩
    ·rw [if_neg c4] at H
     have c4b0 : decide (x5_1 < (l0.length : Int)) = false := decide_eq_false c4
     clear c4
     obtain rfl := Option.some.inj H
     go_wp2
     go_ret
     exact ⟨er, hq HB.out⟩
def laws_szSignature.f (k : Nat) (l0_0 : List (S74)) (a1 : Int) : Option (Int) := (laws_szSymbolS.f k l0_0 a1).bind fun t105 => (if t105 < 0 then (some (-1)) else (some t105))
set_option maxHeartbeats 8000000 in
set_option maxRecDepth 100000 in
theorem laws_szSignature.calls (k : Nat) (A0_0 : Option Addr) (c0_0 : Nat) (l0_0 : List (S74)) (a1 : Int) (r : Int) (w : World) (hr0_0 : Kd.C k74 w A0_0 l0_0.length l0_0) (hc0_0 : l0_0.length ≤ c0_0) (h : laws_szSignature.f k l0_0 a1 = some r) :
  Calls Tryz.prog 5 #[.agg #[.slice A0_0 l0_0.length c0_0], .int .i64 a1] w fun e w' => e = .returned (.int .i64 r) ∧ Below w.heap.size w w' := by
 have hu24 := Tryz.underlying24
 have HR0_0 := am hr0_0
 have HC0_0 := am hc0_0
 clear hr0_0 hc0_0
 have HB := am (Below.refl w.heap.size w)
 have H : ((laws_szSymbolS.f k l0_0 a1).bind fun t105 => (if t105 < 0 then (some (-1)) else (some t105))) = some r := h
 clear h
 obtain ⟨t105, A3, H⟩ := ob H
 try dsimp only at H
 by_cases c4 : t105 < 0
 ·rw [if_pos c4] at H
  have c4b0 : decide (t105 < 0) = true := decide_eq_true c4
  clear c4
  obtain rfl := Option.some.inj H
  go_enter Tryz.func5, Tryz.ntmps5
  go_wp2_with (first | (refine bx 2 rfl #[.slice A0_0 l0_0.length c0_0] 24 ?_; intro gb104 hg w5 hbox hb; have BK104 := am (hbox); have GW104 := am (bz hg (hq HB.out)); replace HB := sb HB hb; have GE104 := GW104; clear hb hbox hg; have hcz6_0 : w5.cell? ⟨gb104, 0, none⟩ = some (.slice A0_0 l0_0.length c0_0) := (Aa0 BK104.out 0).trans rfl; have hfz6_0 := Aa1 BK104.out 0) | (refine gl (some 8) Tryz.func26 rfl #[.slice A0_0 l0_0.length c0_0, .int .i64 a1] ?_; refine (laws_szSymbolS.calls k _ _ l0_0 a1 t105 _ (cq (Kd.C_below HR0_0.out HB.out)) HC0_0.out A3.out).mono ?_; rintro e w7 ⟨rfl, hb⟩; refine ⟨_, rfl, ?_⟩; replace BK104 := bb BK104 hb; replace HB := sb HB hb; (try clear hb)))
  go_ret
  exact ⟨er, hs HB.out⟩
 ·rw [if_neg c4] at H
  have c4b0 : decide (t105 < 0) = false := decide_eq_false c4
  clear c4
  obtain rfl := Option.some.inj H
  go_enter Tryz.func5, Tryz.ntmps5
  go_wp2_with (first | (refine bx 2 rfl #[.slice A0_0 l0_0.length c0_0] 24 ?_; intro gb104 hg w8 hbox hb; have BK104 := am (hbox); have GW104 := am (bz hg (hq HB.out)); replace HB := sb HB hb; have GE104 := GW104; clear hb hbox hg; have hcz9_0 : w8.cell? ⟨gb104, 0, none⟩ = some (.slice A0_0 l0_0.length c0_0) := (Aa0 BK104.out 0).trans rfl; have hfz9_0 := Aa1 BK104.out 0) | (refine gl (some 8) Tryz.func26 rfl #[.slice A0_0 l0_0.length c0_0, .int .i64 a1] ?_; refine (laws_szSymbolS.calls k _ _ l0_0 a1 t105 _ (cq (Kd.C_below HR0_0.out HB.out)) HC0_0.out A3.out).mono ?_; rintro e w10 ⟨rfl, hb⟩; refine ⟨_, rfl, ?_⟩; replace BK104 := bb BK104 hb; replace HB := sb HB hb; (try clear hb)))
  go_ret
  exact ⟨er, hs HB.out⟩
def laws_szInt64S.f (l0 : List Int) (a1 : Int) : Option (Int) := if (wrap64 (a1 - (l0.length : Int))) < 0 then (some (-1)) else (some (wrap64 (a1 - (l0.length : Int))))
set_option maxHeartbeats 8000000 in
set_option maxRecDepth 100000 in
theorem laws_szInt64S.calls (A0 : Option Addr) (c0 : Nat) (l0 : List Int) (a1 : Int) (r : Int) (w : World) (hr0 : Kd.C (Kd.int .i64) w A0 l0.length l0) (hc0 : l0.length ≤ c0) (h : laws_szInt64S.f l0 a1 = some r) :
  Calls Tryz.prog 27 #[.slice A0 l0.length c0, .int .i64 a1] w fun e w' => e = .returned (.int .i64 r) ∧ Drawn0 w w' := by
 have HR0 := am hr0
 have HC0 := am hc0
 clear hr0 hc0
 have H : (if (wrap64 (a1 - (l0.length : Int))) < 0 then (some (-1)) else (some (wrap64 (a1 - (l0.length : Int))))) = some r := h
 clear h
 by_cases c3 : (wrap64 (a1 - (l0.length : Int))) < 0
 ·rw [if_pos c3] at H
  have c3b0 : decide ((wrap64 (a1 - (l0.length : Int))) < 0) = true := decide_eq_true c3
  clear c3
  obtain rfl := Option.some.inj H
  go_enter Tryz.func27, Tryz.ntmps27
  go_wp2
  go_ret
  exact ⟨et, by repeat (first | exact Drawn0.refl _ | apply Drawn0.step)⟩
 ·rw [if_neg c3] at H
  have c3b0 : decide ((wrap64 (a1 - (l0.length : Int))) < 0) = false := decide_eq_false c3
  clear c3
  obtain rfl := Option.some.inj H
  go_enter Tryz.func27, Tryz.ntmps27
  go_wp2
  go_ret
  exact ⟨et, by repeat (first | exact Drawn0.refl _ | apply Drawn0.step)⟩
def laws_szEquation.f (l0_0 : List Int) (l0_1 : List Int) (a1 : Int) : Option (Int) := (laws_szInt64S.f l0_0 a1).bind fun t107 => (if t107 < 0 then (some (-1)) else ((laws_szInt64S.f l0_1 t107).bind fun t108 => (if t108 < 0 then (some (-1)) else (some t108))))
set_option maxHeartbeats 8000000 in
set_option maxRecDepth 100000 in
theorem laws_szEquation.calls (A0_0 : Option Addr) (c0_0 : Nat) (l0_0 : List Int) (A0_1 : Option Addr) (c0_1 : Nat) (l0_1 : List Int) (a1 : Int) (r : Int) (w : World) (hr0_0 : Kd.C (Kd.int .i64) w A0_0 l0_0.length l0_0) (hc0_0 : l0_0.length ≤ c0_0) (hr0_1 : Kd.C (Kd.int .i64) w A0_1 l0_1.length l0_1) (hc0_1 : l0_1.length ≤ c0_1) (h : laws_szEquation.f l0_0 l0_1 a1 = some r) :
  Calls Tryz.prog 6 #[.agg #[.slice A0_0 l0_0.length c0_0, .slice A0_1 l0_1.length c0_1], .int .i64 a1] w fun e w' => e = .returned (.int .i64 r) ∧ Below w.heap.size w w' := by
 have hu27 := Tryz.underlying27
 have HR0_0 := am hr0_0
 have HC0_0 := am hc0_0
 clear hr0_0 hc0_0
 have HR0_1 := am hr0_1
 have HC0_1 := am hc0_1
 clear hr0_1 hc0_1
 have HB := am (Below.refl w.heap.size w)
 have H : ((laws_szInt64S.f l0_0 a1).bind fun t107 => (if t107 < 0 then (some (-1)) else ((laws_szInt64S.f l0_1 t107).bind fun t108 => (if t108 < 0 then (some (-1)) else (some t108))))) = some r := h
 clear h
 obtain ⟨t107, A3, H⟩ := ob H
 try dsimp only at H
 by_cases c4 : t107 < 0
 ·rw [if_pos c4] at H
  have c4b0 : decide (t107 < 0) = true := decide_eq_true c4
  clear c4
  obtain rfl := Option.some.inj H
  go_enter Tryz.func6, Tryz.ntmps6
  go_wp2_with (first | (refine bx 2 rfl #[.slice A0_0 l0_0.length c0_0, .slice A0_1 l0_1.length c0_1] 27 ?_; intro gb106 hg w5 hbox hb; have BK106 := am (hbox); have GW106 := am (bz hg (hq HB.out)); replace HB := sb HB hb; have GE106 := GW106; clear hb hbox hg; have hcz6_0 : w5.cell? ⟨gb106, 0, none⟩ = some (.slice A0_0 l0_0.length c0_0) := (Aa0 BK106.out 0).trans rfl; have hcz6_1 : w5.cell? ⟨gb106, 1, none⟩ = some (.slice A0_1 l0_1.length c0_1) := (Aa0 BK106.out 1).trans rfl; have hfz6_0 := Aa1 BK106.out 0; have hfz6_1 := Aa1 BK106.out 1) | (refine gl (some 8) Tryz.func27 rfl #[.slice A0_0 l0_0.length c0_0, .int .i64 a1] ?_; refine (laws_szInt64S.calls _ _ l0_0 a1 t107 _ (cq (Kd.C_below HR0_0.out HB.out)) HC0_0.out A3.out).mono ?_; rintro e w' ⟨rfl, ⟨nd, rfl⟩⟩; refine ⟨_, rfl, ?_⟩))
  go_ret
  exact ⟨er, hs HB.out⟩
 ·rw [if_neg c4] at H
  have c4b0 : decide (t107 < 0) = false := decide_eq_false c4
  clear c4
  obtain ⟨t108, A7, H⟩ := ob H
  try dsimp only at H
  by_cases c8 : t108 < 0
  ·rw [if_pos c8] at H
   have c8b0 : decide (t108 < 0) = true := decide_eq_true c8
   clear c8
   obtain rfl := Option.some.inj H
   go_enter Tryz.func6, Tryz.ntmps6
   go_wp2_with (first | (refine bx 2 rfl #[.slice A0_0 l0_0.length c0_0, .slice A0_1 l0_1.length c0_1] 27 ?_; intro gb106 hg w9 hbox hb; have BK106 := am (hbox); have GW106 := am (bz hg (hq HB.out)); replace HB := sb HB hb; have GE106 := GW106; clear hb hbox hg; have hcz10_0 : w9.cell? ⟨gb106, 0, none⟩ = some (.slice A0_0 l0_0.length c0_0) := (Aa0 BK106.out 0).trans rfl; have hcz10_1 : w9.cell? ⟨gb106, 1, none⟩ = some (.slice A0_1 l0_1.length c0_1) := (Aa0 BK106.out 1).trans rfl; have hfz10_0 := Aa1 BK106.out 0; have hfz10_1 := Aa1 BK106.out 1) | (refine gl (some 8) Tryz.func27 rfl #[.slice A0_0 l0_0.length c0_0, .int .i64 a1] ?_; refine (laws_szInt64S.calls _ _ l0_0 a1 t107 _ (cq (Kd.C_below HR0_0.out HB.out)) HC0_0.out A3.out).mono ?_; rintro e w' ⟨rfl, ⟨nd, rfl⟩⟩; refine ⟨_, rfl, ?_⟩) | (refine gl (some 14) Tryz.func27 rfl #[.slice A0_1 l0_1.length c0_1, .int .i64 t107] ?_; refine (laws_szInt64S.calls _ _ l0_1 t107 t108 _ (cq (Kd.C_below HR0_1.out (hs HB.out))) HC0_1.out A7.out).mono ?_; rintro e w' ⟨rfl, ⟨nd, rfl⟩⟩; refine ⟨_, rfl, ?_⟩))
   go_ret
   exact ⟨er, hs HB.out⟩
  ·rw [if_neg c8] at H
   have c8b0 : decide (t108 < 0) = false := decide_eq_false c8
   clear c8
   obtain rfl := Option.some.inj H
   go_enter Tryz.func6, Tryz.ntmps6
   go_wp2_with (first | (refine bx 2 rfl #[.slice A0_0 l0_0.length c0_0, .slice A0_1 l0_1.length c0_1] 27 ?_; intro gb106 hg w11 hbox hb; have BK106 := am (hbox); have GW106 := am (bz hg (hq HB.out)); replace HB := sb HB hb; have GE106 := GW106; clear hb hbox hg; have hcz12_0 : w11.cell? ⟨gb106, 0, none⟩ = some (.slice A0_0 l0_0.length c0_0) := (Aa0 BK106.out 0).trans rfl; have hcz12_1 : w11.cell? ⟨gb106, 1, none⟩ = some (.slice A0_1 l0_1.length c0_1) := (Aa0 BK106.out 1).trans rfl; have hfz12_0 := Aa1 BK106.out 0; have hfz12_1 := Aa1 BK106.out 1) | (refine gl (some 8) Tryz.func27 rfl #[.slice A0_0 l0_0.length c0_0, .int .i64 a1] ?_; refine (laws_szInt64S.calls _ _ l0_0 a1 t107 _ (cq (Kd.C_below HR0_0.out HB.out)) HC0_0.out A3.out).mono ?_; rintro e w' ⟨rfl, ⟨nd, rfl⟩⟩; refine ⟨_, rfl, ?_⟩) | (refine gl (some 14) Tryz.func27 rfl #[.slice A0_1 l0_1.length c0_1, .int .i64 t107] ?_; refine (laws_szInt64S.calls _ _ l0_1 t107 t108 _ (cq (Kd.C_below HR0_1.out (hs HB.out))) HC0_1.out A7.out).mono ?_; rintro e w' ⟨rfl, ⟨nd, rfl⟩⟩; refine ⟨_, rfl, ?_⟩))
   go_ret
   exact ⟨er, hs HB.out⟩
mutual
def spec_l2Name.j0 : Nat → ByteArray → Bool → Option (Bool)
 | 0, _, _ => none
 | k + 1, x0, x11 => if x11 = true then (some false) else (spec_l2Name.l0 k x0 0)
def spec_l2Name.l0 : Nat → ByteArray → Int → Option (Bool)
 | 0, _, _ => none
 | k + 1, x0, x3 => if x3 < (x0.size : Int) then (if 0 ≤ x3 then (if (bt x0 x3) < 97 then (some false) else (if (bt x0 x3) > 122 then (some false) else (spec_l2Name.l0 k x0 (wrap64 (x3 + 1))))) else (none)) else (some true)
end
def spec_l2Name.f (k : Nat) (a0 : ByteArray) : Option (Bool) := if (a0.size : Int) < 1 then (spec_l2Name.j0 k a0 true) else (spec_l2Name.j0 k a0 (decide ((a0.size : Int) > 3)))
set_option maxHeartbeats 8000000 in
set_option maxRecDepth 100000 in
theorem spec_l2Name.calls (k : Nat) (a0 : ByteArray) (r : Bool) (w : World) (h : spec_l2Name.f k a0 = some r) :
  Calls Tryz.prog 76 #[.string a0] w fun e w' => e = .returned (.bool r) ∧ Drawn0 w w' := by
 have H : (if (a0.size : Int) < 1 then (spec_l2Name.j0 k a0 true) else (spec_l2Name.j0 k a0 (decide ((a0.size : Int) > 3)))) = some r := h
 clear h
 have HC2 := am H
 clear H
 go_enter Tryz.func76, Tryz.ntmps76
 go_upto_region 1 with (fail)
 go_cut [11] (fun v11 wc => ∃ (kq : Nat) (x11_1 : Bool), v11 = .bool x11_1 ∧ Aside0 (spec_l2Name.j0 kq a0 x11_1 = some r) ∧ Aside0 (kq ≤ k) ∧ Drawn0 w wc)
 case first =>
  have H := HC2.out
  clear HC2
  by_cases c3 : (a0.size : Int) < 1
  ·rw [if_pos c3] at H
   have c3b0 : decide ((a0.size : Int) < 1) = true := decide_eq_true c3
   have c3b1 : decide (a0.size < 1) = true := decide_eq_true (by omega)
   clear c3
   (first | rw [c3b0] | (simp only [Ac9, Ad4]; rw [c3b0]) | skip)
   have H' := am H
   clear H
   go_wp2
   go_meet
   case rel => exact ⟨_, (true), et, H', ⟨by first | omega | exact Nat.le_refl _⟩, by repeat (first | exact Drawn0.refl _ | apply Drawn0.step)⟩
  ·rw [if_neg c3] at H
   have c3b0 : decide ((a0.size : Int) < 1) = false := decide_eq_false c3
   have c3b1 : decide (a0.size < 1) = false := decide_eq_false (by omega)
   clear c3
   (first | rw [c3b0] | (simp only [Ac9, Ad4]; rw [c3b0]) | skip)
   have H' := am H
   clear H
   go_wp2
   go_meet
   case rel => exact ⟨_, (decide ((a0.size : Int) > 3)), et, H', ⟨by first | omega | exact Nat.le_refl _⟩, by repeat (first | exact Drawn0.refl _ | apply Drawn0.step)⟩
 case rest =>
  clear HC2
  try clear c3; try clear c3b0; try clear c3b1
  obtain ⟨kq, x11_1, rfl, HA, HJ1, ⟨mc1, rfl⟩⟩ := hcut
  cases kq with
  | zero => exact absurd HA.out (by simp [spec_l2Name.j0])
  | succ kj1 =>
   have H := HA.out
   clear HA
   simp only [spec_l2Name.j0] at H
   by_cases c4 : x11_1 = true
   ·subst c4
    rw [if_pos rfl] at H
    obtain rfl := Option.some.inj H
    go_wp2
    go_ret
    exact ⟨et, by repeat (first | exact Drawn0.refl _ | apply Drawn0.step)⟩
   ·replace c4 := Bool.eq_false_iff.mpr c4
    subst c4
    rw [if_neg (show ¬ (false = true) by decide)] at H
    have H' := am H
    clear H
    go_wp2
    go_loopg [3] kj1 (fun kq v3 w' => ∃ (x3_2 : Int), v3 = .int .i64 x3_2 ∧ Aside0 (spec_l2Name.l0 kq a0 x3_2 = some r) ∧ Aside0 (kq ≤ kj1) ∧ Drawn0 w w')
    case atStart => exact ⟨(0), et, H', ⟨Nat.le_refl _⟩, by repeat (first | exact Drawn0.refl _ | apply Drawn0.step)⟩
    case round =>
     clear H'
     try clear c3; try clear c3b0; try clear c3b1; try clear c4
     obtain ⟨x3_2, rfl, HA, HK2, ⟨m2, rfl⟩⟩ := hrel
     cases gk with
     | zero => exact absurd HA.out (by simp [spec_l2Name.l0])
     | succ k2 =>
      have H := HA.out
      clear HA
      simp only [spec_l2Name.l0] at H
      by_cases c5 : x3_2 < (a0.size : Int)
      ·rw [if_pos c5] at H
       have c5b0 : decide (x3_2 < (a0.size : Int)) = true := decide_eq_true c5
       clear c5
       obtain ⟨c6b0, H⟩ := ife H
       by_cases c8 : (bt a0 x3_2) < 97
       ·rw [if_pos c8] at H
        have c8b0 : decide ((bt a0 x3_2) < 97) = true := decide_eq_true c8
        clear c8
        obtain rfl := Option.some.inj H
        have p7 : 0 ≤ (x3_2 : Int) := od
        have q7 : x3_2 < (a0.size : Int) := od
        have hx7 := Av1 a0 x3_2
        replace p7 := eq_true p7
        replace q7 := eq_true q7
        go_wp2
        go_ret
        exact ⟨et, by repeat (first | exact Drawn0.refl _ | apply Drawn0.step)⟩
       ·rw [if_neg c8] at H
        have c8b0 : decide ((bt a0 x3_2) < 97) = false := decide_eq_false c8
        clear c8
        by_cases c10 : (bt a0 x3_2) > 122
        ·rw [if_pos c10] at H
         have c10b0 : decide (122 < (bt a0 x3_2)) = true := decide_eq_true c10
         clear c10
         obtain rfl := Option.some.inj H
         have p7 : 0 ≤ (x3_2 : Int) := od
         have q7 : x3_2 < (a0.size : Int) := od
         have hx7 := Av1 a0 x3_2
         replace p7 := eq_true p7
         replace q7 := eq_true q7
         have p9 : 0 ≤ (x3_2 : Int) := od
         have q9 : x3_2 < (a0.size : Int) := od
         have hx9 := Av1 a0 x3_2
         replace p9 := eq_true p9
         replace q9 := eq_true q9
         go_wp2
         go_ret
         exact ⟨et, by repeat (first | exact Drawn0.refl _ | apply Drawn0.step)⟩
        ·rw [if_neg c10] at H
         have c10b0 : decide (122 < (bt a0 x3_2)) = false := decide_eq_false c10
         clear c10
         have H' := am H
         clear H
         have p7 : 0 ≤ (x3_2 : Int) := od
         have q7 : x3_2 < (a0.size : Int) := od
         have hx7 := Av1 a0 x3_2
         replace p7 := eq_true p7
         replace q7 := eq_true q7
         have p9 : 0 ≤ (x3_2 : Int) := od
         have q9 : x3_2 < (a0.size : Int) := od
         have hx9 := Av1 a0 x3_2
         replace p9 := eq_true p9
         replace q9 := eq_true q9
         go_wp2
         go_roundg k2
         case measure => have := HJ1.out; have := HK2.out; omega
         case rel => exact ⟨(wrap64 (x3_2 + 1)), et, H', ⟨by have := HJ1.out; have := HK2.out; omega⟩, by repeat (first | exact Drawn0.refl _ | apply Drawn0.step)⟩
      ·rw [if_neg c5] at H
       have c5b0 : decide (x3_2 < (a0.size : Int)) = false := decide_eq_false c5
       clear c5
       obtain rfl := Option.some.inj H
       go_wp2
       go_ret
       exact ⟨et, by repeat (first | exact Drawn0.refl _ | apply Drawn0.step)⟩
def spec_l1In.f (a0 : Int) (a1 : Int) (a2 : Int) : Option (Bool) := if a0 ≥ a1 then (some (decide (a0 ≤ a2))) else (some false)
set_option maxHeartbeats 8000000 in
set_option maxRecDepth 100000 in
theorem spec_l1In.calls (a0 : Int) (a1 : Int) (a2 : Int) (r : Bool) (w : World) (h : spec_l1In.f a0 a1 a2 = some r) :
  Calls Tryz.prog 77 #[.int .i64 a0, .int .i64 a1, .int .i64 a2] w fun e w' => e = .returned (.bool r) ∧ Drawn0 w w' := by
 have H : (if a0 ≥ a1 then (some (decide (a0 ≤ a2))) else (some false)) = some r := h
 clear h
 by_cases c4 : a0 ≥ a1
 ·rw [if_pos c4] at H
  have c4b0 : decide (a1 ≤ a0) = true := decide_eq_true c4
  clear c4
  obtain rfl := Option.some.inj H
  go_enter Tryz.func77, Tryz.ntmps77
  go_wp2
  go_ret
  exact ⟨et, by repeat (first | exact Drawn0.refl _ | apply Drawn0.step)⟩
 ·rw [if_neg c4] at H
  have c4b0 : decide (a1 ≤ a0) = false := decide_eq_false c4
  clear c4
  obtain rfl := Option.some.inj H
  go_enter Tryz.func77, Tryz.ntmps77
  go_wp2
  go_ret
  exact ⟨et, by repeat (first | exact Drawn0.refl _ | apply Drawn0.step)⟩
end Go.Proofs.YtgichahebemmiaaGreatDoor.P
namespace Go.Proofs.YtgichahebemmiaaGreatDoor.P
open Go.RowKit Go.Proofs.YtgichahebemmiaaGreatDoorW.PrintWords Go.Proofs.YtgichahebemmiaaGreatDoorW.PrintLast Go.Proofs.YtgichahebemmiaaGreatDoorW.PrintMore
attribute [local go_sem] Ae7 Ae4 Af9 Ag0 Ad3 Ad2 Ae8 Ae5   -- for this text's walks alone
set_option linter.unusedVariables false
set_option linter.unusedSimpArgs false
mutual
def spec_SignatureFault.j0 : Nat → Int → Bool → List (S79) → Option (Int)
 | 0, _, _, _ => none
 | k + 1, x3, x16, x110000 => if x16 = true then (some 2) else (spec_SignatureFault.l0 k x3 0 x110000)
def spec_SignatureFault.l0 : Nat → Int → Int → List (S79) → Option (Int)
 | 0, _, _, _ => none
 | k + 1, x3, x4, x110000 => if x4 < x3 then (if 0 ≤ x4 then (if x4 < (x110000.length : Int) then ((spec_l2Name.f k ((Aa7 x110000 x4).f0)).bind fun t111 => (if t111 = true then ((spec_l1In.f ((Aa7 x110000 x4).f1) 0 2).bind fun t113 => (if t113 = true then (spec_SignatureFault.l0 k x3 (wrap64 (x4 + 1)) x110000) else (some 3))) else (some 5))) else (none)) else (none)) else (spec_SignatureFault.l1 k x3 0 x110000)
def spec_SignatureFault.l1 : Nat → Int → Int → List (S79) → Option (Int)
 | 0, _, _, _ => none
 | k + 1, x3, x5, x110000 => if x5 < x3 then (spec_SignatureFault.l2 k x3 x5 0 x110000) else (spec_SignatureFault.l3 k x3 0 x110000)
def spec_SignatureFault.l2 : Nat → Int → Int → Int → List (S79) → Option (Int)
 | 0, _, _, _, _ => none
 | k + 1, x3, x5, x6, x110000 => if x6 < x5 then (if 0 ≤ x5 then (if x5 < (x110000.length : Int) then (if 0 ≤ x6 then (if x6 < (x110000.length : Int) then (if ((Aa7 x110000 x5).f0).toList = ((Aa7 x110000 x6).f0).toList then (some 6) else (spec_SignatureFault.l2 k x3 x5 (wrap64 (x6 + 1)) x110000)) else (none)) else (none)) else (none)) else (none)) else (spec_SignatureFault.l1 k x3 (wrap64 (x5 + 1)) x110000)
def spec_SignatureFault.l3 : Nat → Int → Int → List (S79) → Option (Int)
 | 0, _, _, _ => none
 | k + 1, x3, x7, x110000 => if x7 < x3 then (if 0 ≤ x7 then (if x7 < (x110000.length : Int) then (if ((Aa7 x110000 x7).f1) = 0 then (some 0) else (spec_SignatureFault.l3 k x3 (wrap64 (x7 + 1)) x110000)) else (none)) else (none)) else (some 4)
end
def spec_SignatureFault.f (k : Nat) (l0_0 : List (S79)) : Option (Int) := if (l0_0.length : Int) < 1 then (spec_SignatureFault.j0 k (l0_0.length : Int) true l0_0) else (spec_SignatureFault.j0 k (l0_0.length : Int) (decide ((l0_0.length : Int) > 6)) l0_0)
set_option maxHeartbeats 8000000 in
set_option maxRecDepth 100000 in
theorem spec_SignatureFault.calls (k : Nat) (A0_0 : Option Addr) (c0_0 : Nat) (l0_0 : List (S79)) (r : Int) (w : World) (hr0_0 : Kd.C k79 w A0_0 l0_0.length l0_0) (hc0_0 : l0_0.length ≤ c0_0) (h : spec_SignatureFault.f k l0_0 = some r) :
  Calls Tryz.prog 45 #[.agg #[.slice A0_0 l0_0.length c0_0]] w fun e w' => e = .returned (.int .i64 r) ∧ Below w.heap.size w w' := by
 have hu36 := Tryz.underlying36
 have HR0_0 := am hr0_0
 have HC0_0 := am hc0_0
 clear hr0_0 hc0_0
 have HB := am (Below.refl w.heap.size w)
 have H : (if (l0_0.length : Int) < 1 then (spec_SignatureFault.j0 k (l0_0.length : Int) true l0_0) else (spec_SignatureFault.j0 k (l0_0.length : Int) (decide ((l0_0.length : Int) > 6)) l0_0)) = some r := h
 clear h
 have HC2 := am H
 clear H
 go_enter Tryz.func45, Tryz.ntmps45
 go_upto_region 2 with (first | (refine bx 1 rfl #[.slice A0_0 l0_0.length c0_0] 36 ?_; intro gb109 hg w3 hbox hb; have BK109 := am (hbox); have GW109 := am (bz hg (hq HB.out)); replace HB := sb HB hb; have GE109 := GW109; clear hb hbox hg; have hcz4_0 : w3.cell? ⟨gb109, 0, none⟩ = some (.slice A0_0 l0_0.length c0_0) := (Aa0 BK109.out 0).trans rfl; have hfz4_0 := Aa1 BK109.out 0))
 repeat (go_quiet (first | (refine bx 1 rfl #[.slice A0_0 l0_0.length c0_0] 36 ?_; intro gb109 hg w3 hbox hb; have BK109 := am (hbox); have GW109 := am (bz hg (hq HB.out)); replace HB := sb HB hb; have GE109 := GW109; clear hb hbox hg; have hcz4_0 : w3.cell? ⟨gb109, 0, none⟩ = some (.slice A0_0 l0_0.length c0_0) := (Aa0 BK109.out 0).trans rfl; have hfz4_0 := Aa1 BK109.out 0)); go_upto_region 2 with (first | (refine bx 1 rfl #[.slice A0_0 l0_0.length c0_0] 36 ?_; intro gb109 hg w3 hbox hb; have BK109 := am (hbox); have GW109 := am (bz hg (hq HB.out)); replace HB := sb HB hb; have GE109 := GW109; clear hb hbox hg; have hcz4_0 : w3.cell? ⟨gb109, 0, none⟩ = some (.slice A0_0 l0_0.length c0_0) := (Aa0 BK109.out 0).trans rfl; have hfz4_0 := Aa1 BK109.out 0)))
 (try simp only [Act.put, lsp])
 go_cut [16] (fun v16 wc => ∃ (kq : Nat) (x16_1 : Bool), v16 = .bool x16_1 ∧ Aside0 (spec_SignatureFault.j0 kq (l0_0.length : Int) x16_1 l0_0 = some r) ∧ Aside0 (kq ≤ k) ∧ Aside0 (wc.heap[gb109]? = some (.cells #[(.slice A0_0 l0_0.length c0_0)] 36 (0, 0))) ∧ Aside0 (Below w.heap.size w wc))
 case first =>
  have H := HC2.out
  clear HC2
  by_cases c5 : (l0_0.length : Int) < 1
  ·rw [if_pos c5] at H
   have c5b0 : decide ((l0_0.length : Int) < 1) = true := decide_eq_true c5
   have c5b1 : decide (l0_0.length < 1) = true := decide_eq_true (by omega)
   clear c5
   (first | rw [c5b0] | (simp only [Ac9, Ad4]; rw [c5b0]) | skip)
   have H' := am H
   clear H
   go_wp2
   repeat (go_quiet (fail); try go_wp2)
   go_meet
   case rel => exact ⟨_, (true), et, H', ⟨by first | omega | exact Nat.le_refl _⟩, ⟨by refine bq ?_; exact BK109.out⟩, ⟨hs HB.out⟩⟩
  ·rw [if_neg c5] at H
   have c5b0 : decide ((l0_0.length : Int) < 1) = false := decide_eq_false c5
   have c5b1 : decide (l0_0.length < 1) = false := decide_eq_false (by omega)
   clear c5
   (first | rw [c5b0] | (simp only [Ac9, Ad4]; rw [c5b0]) | skip)
   have H' := am H
   clear H
   go_wp2
   repeat (go_quiet (fail); try go_wp2)
   go_meet
   case rel => exact ⟨_, (decide ((l0_0.length : Int) > 6)), et, H', ⟨by first | omega | exact Nat.le_refl _⟩, ⟨by refine bq ?_; exact BK109.out⟩, ⟨hs HB.out⟩⟩
 case rest =>
  clear HC2
  try clear c5; try clear c5b0; try clear c5b1; try clear hcz4_0; try clear hfz4_0
  obtain ⟨kq, x16_1, rfl, HA, HJ1, BK109, HB⟩ := hcut
  cases kq with
  | zero => exact absurd HA.out (by simp [spec_SignatureFault.j0])
  | succ kj1 =>
   have H := HA.out
   clear HA
   simp only [spec_SignatureFault.j0] at H
   by_cases c6 : x16_1 = true
   ·subst c6
    rw [if_pos rfl] at H
    obtain rfl := Option.some.inj H
    go_wp2
    repeat (go_quiet (fail); try go_wp2)
    go_ret
    exact ⟨er, hs HB.out⟩
   ·replace c6 := Bool.eq_false_iff.mpr c6
    subst c6
    rw [if_neg (show ¬ (false = true) by decide)] at H
    have H' := am H
    clear H
    go_wp2
    repeat (go_quiet (fail); try go_wp2)
    go_loopg [4] kj1 (fun kq v4 w' => ∃ (x4_2 : Int), v4 = .int .i64 x4_2 ∧ Aside0 (spec_SignatureFault.l0 kq (l0_0.length : Int) x4_2 l0_0 = some r) ∧ Aside0 (kq ≤ kj1) ∧ Aside0 (w'.heap[gb109]? = some (.cells #[(.slice A0_0 l0_0.length c0_0)] 36 (0, 0))) ∧ Aside0 (Below w.heap.size w w'))
    case atStart => exact ⟨(0), et, H', ⟨Nat.le_refl _⟩, ⟨by refine bq ?_; exact BK109.out⟩, ⟨hs HB.out⟩⟩
    case round =>
     clear H'
     try clear c5; try clear c5b0; try clear c5b1; try clear c6; try clear hcz4_0; try clear hfz4_0
     obtain ⟨x4_2, rfl, HA, HK2, BK109, HB⟩ := hrel
     cases gk with
     | zero => exact absurd HA.out (by simp [spec_SignatureFault.l0])
     | succ k2 =>
      have H := HA.out
      clear HA
      simp only [spec_SignatureFault.l0] at H
      by_cases c7 : x4_2 < (l0_0.length : Int)
      ·rw [if_pos c7] at H
       have c7b0 : decide (x4_2 < (l0_0.length : Int)) = true := decide_eq_true c7
       clear c7
       obtain ⟨c8b0, H⟩ := ife H
       obtain ⟨c9b0, H⟩ := ife H
       obtain ⟨t111, A10, H⟩ := ob H
       try dsimp only at H
       by_cases c11 : t111 = true
       ·subst c11
        rw [if_pos rfl] at H
        obtain ⟨t113, A12, H⟩ := ob H
        try dsimp only at H
        by_cases c13 : t113 = true
        ·subst c13
         rw [if_pos rfl] at H
         have H' := am H
         clear H
         have hcz14_0 : wr.cell? ⟨gb109, 0, none⟩ = some (.slice A0_0 l0_0.length c0_0) := (Aa0 BK109.out 0).trans rfl
         have hfz14_0 := Aa1 BK109.out 0
         have p110 : 0 ≤ (x4_2 : Int) := od
         have q110 : x4_2 < (l0_0.length : Int) := od
         obtain ⟨ad110, e110, hx110_0, hx110_1⟩ := Ae1 HR0_0.out x4_2 p110 q110
         cases e110
         replace hx110_0 := cz HB.out hx110_0
         replace hx110_1 := cz HB.out hx110_1
         replace p110 := eq_true p110
         replace q110 := eq_true q110
         go_wp2_with (first | (go_at_call 76; (with_reducible refine (spec_l2Name.calls k2 ((Aa7 l0_0 x4_2).f0) true _ A10.out).mono ?_); rintro e w' ⟨rfl, ⟨nd, rfl⟩⟩; (try first | exact ⟨rfl, _, World.drewN_drewN _ _ _⟩ | exact ⟨rfl, _, Eq.trans (World.drewN_drewN _ _ _) (congrArg (World.drewN _) (Nat.add_assoc _ _ _))⟩); have p112 : 0 ≤ (x4_2 : Int) := od; have q112 : x4_2 < (l0_0.length : Int) := od; obtain ⟨ad112, e112, hx112_0, hx112_1⟩ := Ae1 HR0_0.out x4_2 p112 q112; obtain rfl : ad110 = ad112 := (by injection e112); replace hx112_0 := cz HB.out hx112_0; replace hx112_1 := cz HB.out hx112_1; replace p112 := eq_true p112; replace q112 := eq_true q112) | (go_at_call 77; (with_reducible refine (spec_l1In.calls ((Aa7 l0_0 x4_2).f1) 0 2 true _ A12.out).mono ?_); rintro e w' ⟨rfl, ⟨nd, rfl⟩⟩; (try first | exact ⟨rfl, _, World.drewN_drewN _ _ _⟩ | exact ⟨rfl, _, Eq.trans (World.drewN_drewN _ _ _) (congrArg (World.drewN _) (Nat.add_assoc _ _ _))⟩)))
         repeat (go_quiet (first | (go_at_call 76; (with_reducible refine (spec_l2Name.calls k2 ((Aa7 l0_0 x4_2).f0) true _ A10.out).mono ?_); rintro e w' ⟨rfl, ⟨nd, rfl⟩⟩; (try first | exact ⟨rfl, _, World.drewN_drewN _ _ _⟩ | exact ⟨rfl, _, Eq.trans (World.drewN_drewN _ _ _) (congrArg (World.drewN _) (Nat.add_assoc _ _ _))⟩); have p112 : 0 ≤ (x4_2 : Int) := od; have q112 : x4_2 < (l0_0.length : Int) := od; obtain ⟨ad112, e112, hx112_0, hx112_1⟩ := Ae1 HR0_0.out x4_2 p112 q112; obtain rfl : ad110 = ad112 := (by injection e112); replace hx112_0 := cz HB.out hx112_0; replace hx112_1 := cz HB.out hx112_1; replace p112 := eq_true p112; replace q112 := eq_true q112) | (go_at_call 77; (with_reducible refine (spec_l1In.calls ((Aa7 l0_0 x4_2).f1) 0 2 true _ A12.out).mono ?_); rintro e w' ⟨rfl, ⟨nd, rfl⟩⟩; (try first | exact ⟨rfl, _, World.drewN_drewN _ _ _⟩ | exact ⟨rfl, _, Eq.trans (World.drewN_drewN _ _ _) (congrArg (World.drewN _) (Nat.add_assoc _ _ _))⟩))); try go_wp2_with (first | (go_at_call 76; (with_reducible refine (spec_l2Name.calls k2 ((Aa7 l0_0 x4_2).f0) true _ A10.out).mono ?_); rintro e w' ⟨rfl, ⟨nd, rfl⟩⟩; (try first | exact ⟨rfl, _, World.drewN_drewN _ _ _⟩ | exact ⟨rfl, _, Eq.trans (World.drewN_drewN _ _ _) (congrArg (World.drewN _) (Nat.add_assoc _ _ _))⟩); have p112 : 0 ≤ (x4_2 : Int) := od; have q112 : x4_2 < (l0_0.length : Int) := od; obtain ⟨ad112, e112, hx112_0, hx112_1⟩ := Ae1 HR0_0.out x4_2 p112 q112; obtain rfl : ad110 = ad112 := (by injection e112); replace hx112_0 := cz HB.out hx112_0; replace hx112_1 := cz HB.out hx112_1; replace p112 := eq_true p112; replace q112 := eq_true q112) | (go_at_call 77; (with_reducible refine (spec_l1In.calls ((Aa7 l0_0 x4_2).f1) 0 2 true _ A12.out).mono ?_); rintro e w' ⟨rfl, ⟨nd, rfl⟩⟩; (try first | exact ⟨rfl, _, World.drewN_drewN _ _ _⟩ | exact ⟨rfl, _, Eq.trans (World.drewN_drewN _ _ _) (congrArg (World.drewN _) (Nat.add_assoc _ _ _))⟩))))
         go_roundg k2
         case measure => have := HJ1.out; have := HK2.out; omega
         case rel => exact ⟨(wrap64 (x4_2 + 1)), et, H', ⟨by have := HJ1.out; have := HK2.out; omega⟩, ⟨by refine bq ?_; exact BK109.out⟩, ⟨hs HB.out⟩⟩
        ·replace c13 := Bool.eq_false_iff.mpr c13
         subst c13
         rw [if_neg (show ¬ (false = true) by decide)] at H
         obtain rfl := Option.some.inj H
         have hcz15_0 : wr.cell? ⟨gb109, 0, none⟩ = some (.slice A0_0 l0_0.length c0_0) := (Aa0 BK109.out 0).trans rfl
         have hfz15_0 := Aa1 BK109.out 0
         have p110 : 0 ≤ (x4_2 : Int) := od
         have q110 : x4_2 < (l0_0.length : Int) := od
         obtain ⟨ad110, e110, hx110_0, hx110_1⟩ := Ae1 HR0_0.out x4_2 p110 q110
         cases e110
         replace hx110_0 := cz HB.out hx110_0
         replace hx110_1 := cz HB.out hx110_1
         replace p110 := eq_true p110
         replace q110 := eq_true q110
         go_wp2_with (first | (go_at_call 76; (with_reducible refine (spec_l2Name.calls k2 ((Aa7 l0_0 x4_2).f0) true _ A10.out).mono ?_); rintro e w' ⟨rfl, ⟨nd, rfl⟩⟩; (try first | exact ⟨rfl, _, World.drewN_drewN _ _ _⟩ | exact ⟨rfl, _, Eq.trans (World.drewN_drewN _ _ _) (congrArg (World.drewN _) (Nat.add_assoc _ _ _))⟩); have p112 : 0 ≤ (x4_2 : Int) := od; have q112 : x4_2 < (l0_0.length : Int) := od; obtain ⟨ad112, e112, hx112_0, hx112_1⟩ := Ae1 HR0_0.out x4_2 p112 q112; obtain rfl : ad110 = ad112 := (by injection e112); replace hx112_0 := cz HB.out hx112_0; replace hx112_1 := cz HB.out hx112_1; replace p112 := eq_true p112; replace q112 := eq_true q112) | (go_at_call 77; (with_reducible refine (spec_l1In.calls ((Aa7 l0_0 x4_2).f1) 0 2 false _ A12.out).mono ?_); rintro e w' ⟨rfl, ⟨nd, rfl⟩⟩; (try first | exact ⟨rfl, _, World.drewN_drewN _ _ _⟩ | exact ⟨rfl, _, Eq.trans (World.drewN_drewN _ _ _) (congrArg (World.drewN _) (Nat.add_assoc _ _ _))⟩)))
         repeat (go_quiet (first | (go_at_call 76; (with_reducible refine (spec_l2Name.calls k2 ((Aa7 l0_0 x4_2).f0) true _ A10.out).mono ?_); rintro e w' ⟨rfl, ⟨nd, rfl⟩⟩; (try first | exact ⟨rfl, _, World.drewN_drewN _ _ _⟩ | exact ⟨rfl, _, Eq.trans (World.drewN_drewN _ _ _) (congrArg (World.drewN _) (Nat.add_assoc _ _ _))⟩); have p112 : 0 ≤ (x4_2 : Int) := od; have q112 : x4_2 < (l0_0.length : Int) := od; obtain ⟨ad112, e112, hx112_0, hx112_1⟩ := Ae1 HR0_0.out x4_2 p112 q112; obtain rfl : ad110 = ad112 := (by injection e112); replace hx112_0 := cz HB.out hx112_0; replace hx112_1 := cz HB.out hx112_1; replace p112 := eq_true p112; replace q112 := eq_true q112) | (go_at_call 77; (with_reducible refine (spec_l1In.calls ((Aa7 l0_0 x4_2).f1) 0 2 false _ A12.out).mono ?_); rintro e w' ⟨rfl, ⟨nd, rfl⟩⟩; (try first | exact ⟨rfl, _, World.drewN_drewN _ _ _⟩ | exact ⟨rfl, _, Eq.trans (World.drewN_drewN _ _ _) (congrArg (World.drewN _) (Nat.add_assoc _ _ _))⟩))); try go_wp2_with (first | (go_at_call 76; (with_reducible refine (spec_l2Name.calls k2 ((Aa7 l0_0 x4_2).f0) true _ A10.out).mono ?_); rintro e w' ⟨rfl, ⟨nd, rfl⟩⟩; (try first | exact ⟨rfl, _, World.drewN_drewN _ _ _⟩ | exact ⟨rfl, _, Eq.trans (World.drewN_drewN _ _ _) (congrArg (World.drewN _) (Nat.add_assoc _ _ _))⟩); have p112 : 0 ≤ (x4_2 : Int) := od; have q112 : x4_2 < (l0_0.length : Int) := od; obtain ⟨ad112, e112, hx112_0, hx112_1⟩ := Ae1 HR0_0.out x4_2 p112 q112; obtain rfl : ad110 = ad112 := (by injection e112); replace hx112_0 := cz HB.out hx112_0; replace hx112_1 := cz HB.out hx112_1; replace p112 := eq_true p112; replace q112 := eq_true q112) | (go_at_call 77; (with_reducible refine (spec_l1In.calls ((Aa7 l0_0 x4_2).f1) 0 2 false _ A12.out).mono ?_); rintro e w' ⟨rfl, ⟨nd, rfl⟩⟩; (try first | exact ⟨rfl, _, World.drewN_drewN _ _ _⟩ | exact ⟨rfl, _, Eq.trans (World.drewN_drewN _ _ _) (congrArg (World.drewN _) (Nat.add_assoc _ _ _))⟩))))
         go_ret
         exact ⟨er, hs HB.out⟩
       ·replace c11 := Bool.eq_false_iff.mpr c11
        subst c11
        rw [if_neg (show ¬ (false = true) by decide)] at H
        obtain rfl := Option.some.inj H
        have hcz16_0 : wr.cell? ⟨gb109, 0, none⟩ = some (.slice A0_0 l0_0.length c0_0) := (Aa0 BK109.out 0).trans rfl
        have hfz16_0 := Aa1 BK109.out 0
        have p110 : 0 ≤ (x4_2 : Int) := od
        have q110 : x4_2 < (l0_0.length : Int) := od
        obtain ⟨ad110, e110, hx110_0, hx110_1⟩ := Ae1 HR0_0.out x4_2 p110 q110
        cases e110
        replace hx110_0 := cz HB.out hx110_0
        replace hx110_1 := cz HB.out hx110_1
        replace p110 := eq_true p110
        replace q110 := eq_true q110
        go_wp2_with (first | (go_at_call 76; (with_reducible refine (spec_l2Name.calls k2 ((Aa7 l0_0 x4_2).f0) false _ A10.out).mono ?_); rintro e w' ⟨rfl, ⟨nd, rfl⟩⟩; (try first | exact ⟨rfl, _, World.drewN_drewN _ _ _⟩ | exact ⟨rfl, _, Eq.trans (World.drewN_drewN _ _ _) (congrArg (World.drewN _) (Nat.add_assoc _ _ _))⟩)))
        repeat (go_quiet (first | (go_at_call 76; (with_reducible refine (spec_l2Name.calls k2 ((Aa7 l0_0 x4_2).f0) false _ A10.out).mono ?_); rintro e w' ⟨rfl, ⟨nd, rfl⟩⟩; (try first | exact ⟨rfl, _, World.drewN_drewN _ _ _⟩ | exact ⟨rfl, _, Eq.trans (World.drewN_drewN _ _ _) (congrArg (World.drewN _) (Nat.add_assoc _ _ _))⟩))); try go_wp2_with (first | (go_at_call 76; (with_reducible refine (spec_l2Name.calls k2 ((Aa7 l0_0 x4_2).f0) false _ A10.out).mono ?_); rintro e w' ⟨rfl, ⟨nd, rfl⟩⟩; (try first | exact ⟨rfl, _, World.drewN_drewN _ _ _⟩ | exact ⟨rfl, _, Eq.trans (World.drewN_drewN _ _ _) (congrArg (World.drewN _) (Nat.add_assoc _ _ _))⟩))))
        go_ret
        exact ⟨er, hs HB.out⟩
      ·rw [if_neg c7] at H
       have c7b0 : decide (x4_2 < (l0_0.length : Int)) = false := decide_eq_false c7
       clear c7
       have H' := am H
       clear H
       go_wp2
       repeat (go_quiet (fail); try go_wp2)
       go_loopg [5] k2 (fun kq v5 w' => ∃ (x5_3 : Int), v5 = .int .i64 x5_3 ∧ Aside0 (spec_SignatureFault.l1 kq (l0_0.length : Int) x5_3 l0_0 = some r) ∧ Aside0 (kq ≤ k2) ∧ Aside0 (w'.heap[gb109]? = some (.cells #[(.slice A0_0 l0_0.length c0_0)] 36 (0, 0))) ∧ Aside0 (Below w.heap.size w w'))
       case atStart => exact ⟨(0), et, H', ⟨Nat.le_refl _⟩, ⟨by refine bq ?_; exact BK109.out⟩, ⟨hs HB.out⟩⟩
       case round =>
        clear H'
        try clear c5; try clear c5b0; try clear c5b1; try clear c6; try clear c7; try clear c7b0; try clear c8b0; try clear c9b0; try clear c11; try clear c13; try clear hcz14_0; try clear hcz15_0; try clear hcz16_0; try clear hcz4_0; try clear hfz14_0; try clear hfz15_0; try clear hfz16_0; try clear hfz4_0; try clear hx110_0; try clear hx110_1; try clear hx112_0; try clear hx112_1; try clear p110; try clear p112; try clear q110; try clear q112
        obtain ⟨x5_3, rfl, HA, HK3, BK109, HB⟩ := hrel
        cases gk with
        | zero => exact absurd HA.out (by simp [spec_SignatureFault.l1])
        | succ k3 =>
         have H := HA.out
         clear HA
         simp only [spec_SignatureFault.l1] at H
         by_cases c17 : x5_3 < (l0_0.length : Int)
         ·rw [if_pos c17] at H
          have c17b0 : decide (x5_3 < (l0_0.length : Int)) = true := decide_eq_true c17
          clear c17
          have H' := am H
          clear H
          go_wp2
          repeat (go_quiet (fail); try go_wp2)
          go_loopg [6] k3 (fun kq v6 w' => ∃ (x6_4 : Int), v6 = .int .i64 x6_4 ∧ Aside0 (spec_SignatureFault.l2 kq (l0_0.length : Int) x5_3 x6_4 l0_0 = some r) ∧ Aside0 (kq ≤ k3) ∧ Aside0 (w'.heap[gb109]? = some (.cells #[(.slice A0_0 l0_0.length c0_0)] 36 (0, 0))) ∧ Aside0 (Below w.heap.size w w'))
          case atStart => exact ⟨(0), et, H', ⟨Nat.le_refl _⟩, ⟨by refine bq ?_; exact BK109.out⟩, ⟨hs HB.out⟩⟩
          case round =>
           clear H'
           try clear c5; try clear c5b0; try clear c5b1; try clear c6; try clear c7; try clear c7b0; try clear c8b0; try clear c9b0; try clear c11; try clear c13; try clear c17; try clear c17b0; try clear hcz14_0; try clear hcz15_0; try clear hcz16_0; try clear hcz4_0; try clear hfz14_0; try clear hfz15_0; try clear hfz16_0; try clear hfz4_0; try clear hx110_0; try clear hx110_1; try clear hx112_0; try clear hx112_1; try clear p110; try clear p112; try clear q110; try clear q112
           obtain ⟨x6_4, rfl, HA, HK4, BK109, HB⟩ := hrel
           cases gk with
           | zero => exact absurd HA.out (by simp [spec_SignatureFault.l2])
           | succ k4 =>
            have H := HA.out
            clear HA
            simp only [spec_SignatureFault.l2] at H
            by_cases c18 : x6_4 < x5_3
            ·rw [if_pos c18] at H
             have c18b0 : decide (x6_4 < x5_3) = true := decide_eq_true c18
             clear c18
             obtain ⟨c19b0, H⟩ := ife H
             obtain ⟨c20b0, H⟩ := ife H
             obtain ⟨c21b0, H⟩ := ife H
             obtain ⟨c22b0, H⟩ := ife H
             by_cases c23 : ((Aa7 l0_0 x5_3).f0).toList = ((Aa7 l0_0 x6_4).f0).toList
             ·rw [if_pos c23] at H
              obtain ⟨c23b0, c23b1⟩ := bqt c23; clear c23
              obtain rfl := Option.some.inj H
              have hcz24_0 : wr.cell? ⟨gb109, 0, none⟩ = some (.slice A0_0 l0_0.length c0_0) := (Aa0 BK109.out 0).trans rfl
              have hfz24_0 := Aa1 BK109.out 0
              have p114 : 0 ≤ (x5_3 : Int) := od
              have q114 : x5_3 < (l0_0.length : Int) := od
              obtain ⟨ad114, e114, hx114_0, hx114_1⟩ := Ae1 HR0_0.out x5_3 p114 q114
              cases e114
              replace hx114_0 := cz HB.out hx114_0
              replace hx114_1 := cz HB.out hx114_1
              replace p114 := eq_true p114
              replace q114 := eq_true q114
              have p115 : 0 ≤ (x6_4 : Int) := od
              have q115 : x6_4 < (l0_0.length : Int) := od
              obtain ⟨ad115, e115, hx115_0, hx115_1⟩ := Ae1 HR0_0.out x6_4 p115 q115
              obtain rfl : ad114 = ad115 := (by injection e115)
              replace hx115_0 := cz HB.out hx115_0
              replace hx115_1 := cz HB.out hx115_1
              replace p115 := eq_true p115
              replace q115 := eq_true q115
              go_wp2
              repeat (go_quiet (fail); try go_wp2)
              go_ret
              exact ⟨er, hs HB.out⟩
             ·rw [if_neg c23] at H
              obtain ⟨c23b0, c23b1⟩ := bqf c23
              have H' := am H
              clear H
              have hcz25_0 : wr.cell? ⟨gb109, 0, none⟩ = some (.slice A0_0 l0_0.length c0_0) := (Aa0 BK109.out 0).trans rfl
              have hfz25_0 := Aa1 BK109.out 0
              have p114 : 0 ≤ (x5_3 : Int) := od
              have q114 : x5_3 < (l0_0.length : Int) := od
              obtain ⟨ad114, e114, hx114_0, hx114_1⟩ := Ae1 HR0_0.out x5_3 p114 q114
              cases e114
              replace hx114_0 := cz HB.out hx114_0
              replace hx114_1 := cz HB.out hx114_1
              replace p114 := eq_true p114
              replace q114 := eq_true q114
              have p115 : 0 ≤ (x6_4 : Int) := od
              have q115 : x6_4 < (l0_0.length : Int) := od
              obtain ⟨ad115, e115, hx115_0, hx115_1⟩ := Ae1 HR0_0.out x6_4 p115 q115
              obtain rfl : ad114 = ad115 := (by injection e115)
              replace hx115_0 := cz HB.out hx115_0
              replace hx115_1 := cz HB.out hx115_1
              replace p115 := eq_true p115
              replace q115 := eq_true q115
              go_wp2
              repeat (go_quiet (fail); try go_wp2)
              go_roundg k4
              case measure => have := HJ1.out; have := HK2.out; have := HK3.out; have := HK4.out; omega
              case rel => exact ⟨(wrap64 (x6_4 + 1)), et, H', ⟨by have := HJ1.out; have := HK2.out; have := HK3.out; have := HK4.out; omega⟩, ⟨by refine bq ?_; exact BK109.out⟩, ⟨hs HB.out⟩⟩
            ·rw [if_neg c18] at H
             have c18b0 : decide (x6_4 < x5_3) = false := decide_eq_false c18
             clear c18
             have H' := am H
             clear H
             go_wp2
             repeat (go_quiet (fail); try go_wp2)
             go_roundg k4
             case measure => have := HJ1.out; have := HK2.out; have := HK3.out; have := HK4.out; omega
             case rel => exact ⟨(wrap64 (x5_3 + 1)), et, H', ⟨by have := HJ1.out; have := HK2.out; have := HK3.out; have := HK4.out; omega⟩, ⟨by refine bq ?_; exact BK109.out⟩, ⟨hs HB.out⟩⟩
         ·rw [if_neg c17] at H
          have c17b0 : decide (x5_3 < (l0_0.length : Int)) = false := decide_eq_false c17
          clear c17
          have H' := am H
          clear H
          go_wp2
          repeat (go_quiet (fail); try go_wp2)
          go_loopg [7] k3 (fun kq v7 w' => ∃ (x7_4 : Int), v7 = .int .i64 x7_4 ∧ Aside0 (spec_SignatureFault.l3 kq (l0_0.length : Int) x7_4 l0_0 = some r) ∧ Aside0 (kq ≤ k3) ∧ Aside0 (w'.heap[gb109]? = some (.cells #[(.slice A0_0 l0_0.length c0_0)] 36 (0, 0))) ∧ Aside0 (Below w.heap.size w w'))
          case atStart => exact ⟨(0), et, H', ⟨Nat.le_refl _⟩, ⟨by refine bq ?_; exact BK109.out⟩, ⟨hs HB.out⟩⟩
          case round =>
           clear H'
           try clear c5; try clear c5b0; try clear c5b1; try clear c6; try clear c7; try clear c7b0; try clear c8b0; try clear c9b0; try clear c11; try clear c13; try clear c17; try clear c17b0; try clear c18; try clear c18b0; try clear c19b0; try clear c20b0; try clear c21b0; try clear c22b0; try clear c23; try clear c23b0; try clear c23b1; try clear hcz14_0; try clear hcz15_0; try clear hcz16_0; try clear hcz24_0; try clear hcz25_0; try clear hcz4_0; try clear hfz14_0; try clear hfz15_0; try clear hfz16_0; try clear hfz24_0; try clear hfz25_0; try clear hfz4_0; try clear hx110_0; try clear hx110_1; try clear hx112_0; try clear hx112_1; try clear hx114_0; try clear hx114_1; try clear hx115_0; try clear hx115_1; try clear p110; try clear p112; try clear p114; try clear p115; try clear q110; try clear q112; try clear q114; try clear q115
           obtain ⟨x7_4, rfl, HA, HK4, BK109, HB⟩ := hrel
           cases gk with
           | zero => exact absurd HA.out (by simp [spec_SignatureFault.l3])
           | succ k4 =>
            have H := HA.out
            clear HA
            simp only [spec_SignatureFault.l3] at H
            by_cases c26 : x7_4 < (l0_0.length : Int)
            ·rw [if_pos c26] at H
             have c26b0 : decide (x7_4 < (l0_0.length : Int)) = true := decide_eq_true c26
             clear c26
             obtain ⟨c27b0, H⟩ := ife H
             obtain ⟨c28b0, H⟩ := ife H
             by_cases c29 : ((Aa7 l0_0 x7_4).f1) = 0
             ·rw [if_pos c29] at H
              obtain ⟨c29b0, c29b1⟩ := bqt c29; clear c29
              obtain rfl := Option.some.inj H
              have hcz30_0 : wr.cell? ⟨gb109, 0, none⟩ = some (.slice A0_0 l0_0.length c0_0) := (Aa0 BK109.out 0).trans rfl
              have hfz30_0 := Aa1 BK109.out 0
              have p116 : 0 ≤ (x7_4 : Int) := od
              have q116 : x7_4 < (l0_0.length : Int) := od
              obtain ⟨ad116, e116, hx116_0, hx116_1⟩ := Ae1 HR0_0.out x7_4 p116 q116
              cases e116
              replace hx116_0 := cz HB.out hx116_0
              replace hx116_1 := cz HB.out hx116_1
              replace p116 := eq_true p116
              replace q116 := eq_true q116
              go_wp2
              repeat (go_quiet (fail); try go_wp2)
              go_ret
              exact ⟨er, hs HB.out⟩
             ·rw [if_neg c29] at H
              obtain ⟨c29b0, c29b1⟩ := bqf c29
              have H' := am H
              clear H
              have hcz31_0 : wr.cell? ⟨gb109, 0, none⟩ = some (.slice A0_0 l0_0.length c0_0) := (Aa0 BK109.out 0).trans rfl
              have hfz31_0 := Aa1 BK109.out 0
              have p116 : 0 ≤ (x7_4 : Int) := od
              have q116 : x7_4 < (l0_0.length : Int) := od
              obtain ⟨ad116, e116, hx116_0, hx116_1⟩ := Ae1 HR0_0.out x7_4 p116 q116
              cases e116
              replace hx116_0 := cz HB.out hx116_0
              replace hx116_1 := cz HB.out hx116_1
              replace p116 := eq_true p116
              replace q116 := eq_true q116
              go_wp2
              repeat (go_quiet (fail); try go_wp2)
              go_roundg k4
              case measure => have := HJ1.out; have := HK2.out; have := HK3.out; have := HK4.out; omega
              case rel => exact ⟨(wrap64 (x7_4 + 1)), et, H', ⟨by have := HJ1.out; have := HK2.out; have := HK3.out; have := HK4.out; omega⟩, ⟨by refine bq ?_; exact BK109.out⟩, ⟨hs HB.out⟩⟩
            ·rw [if_neg c26] at H
             have c26b0 : decide (x7_4 < (l0_0.length : Int)) = false := decide_eq_false c26
             clear c26
             obtain rfl := Option.some.inj H
             go_wp2
             repeat (go_quiet (fail); try go_wp2)
             go_ret
             exact ⟨er, hs HB.out⟩
def spec_l2Symbol.f (l0 : List (S36)) (a1 : Int) : Option (Bool) := if 0 < (l0.length : Int) then ((spec_l1In.f a1 0 (wrap64 ((((Ad0 l0 0).f0).length : Int) - 1))).bind fun t119 => (some t119)) else (none)
set_option maxHeartbeats 8000000 in
set_option maxRecDepth 100000 in
theorem spec_l2Symbol.calls (A0 : Option Addr) (l0 : List (S36)) (a1 : Int) (r : Bool) (w : World) (hr0 : Kd.C k36 w A0 l0.length l0) (h : spec_l2Symbol.f l0 a1 = some r) :
  Calls Tryz.prog 78 #[.pointer A0, .int .i64 a1] w fun e w' => e = .returned (.bool r) ∧ Drawn0 w w' := by
 have HR0 := am hr0
 clear hr0
 have H : (if 0 < (l0.length : Int) then ((spec_l1In.f a1 0 (wrap64 ((((Ad0 l0 0).f0).length : Int) - 1))).bind fun t119 => (some t119)) else (none)) = some r := h
 clear h
 obtain ⟨c3, H⟩ := ifs H
 have c3b0 : decide (0 < (l0.length : Int)) = true := decide_eq_true c3
 have c3b1 : decide (0 < l0.length) = true := decide_eq_true (by omega)
 clear c3
 obtain ⟨t119, A4, H⟩ := ob H
 try dsimp only at H
 obtain rfl := Option.some.inj H
 have p117 : 0 ≤ (0 : Int) := (by omega)
 have q117 : 0 < (l0.length : Int) := od
 obtain ⟨ad117, A117_0, c117_0, e117, hx117_0, hl117_0, hi117_0⟩ := Ah9 HR0.out 0 p117 q117
 cases e117
 have qi117 : (0 < l0.length) = True := eq_true (by omega)
 (try rw [show ((0 : Int)).toNat = 0 from rfl] at hx117_0)
 (try rw [Addr.add_zero'] at hx117_0)
 have HR117_0 := am hi117_0
 have HC117_0 := am hl117_0
 clear hi117_0 hl117_0
 replace p117 := eq_true p117
 replace q117 := eq_true q117
 have p118 : 0 ≤ (0 : Int) := (by omega)
 have q118 : 0 < (l0.length : Int) := od
 obtain ⟨ad118, A118_0, c118_0, e118, hx118_0, hl118_0, hi118_0⟩ := Ah9 HR0.out 0 p118 q118
 obtain rfl : ad117 = ad118 := (by injection e118)
 have qi118 : (0 < l0.length) = True := eq_true (by omega)
 (try rw [show ((0 : Int)).toNat = 0 from rfl] at hx118_0)
 (try rw [Addr.add_zero'] at hx118_0)
 have HR118_0 := am hi118_0
 have HC118_0 := am hl118_0
 clear hi118_0 hl118_0
 replace p118 := eq_true p118
 replace q118 := eq_true q118
 have ea_ := Option.some.inj (hx117_0.symm.trans hx118_0)
 injection ea_ with ea_ en_ ec_
 subst ea_
 subst ec_
 clear en_
 go_enter Tryz.func78, Tryz.ntmps78
 go_wp2_with (first | (refine gl (some 12) Tryz.func77 rfl #[.int .i64 a1, .int .i64 0, .int .i64 (wrap64 ((((Ad0 l0 0).f0).length : Int) - 1))] ?_; (with_reducible refine (spec_l1In.calls a1 0 (wrap64 ((((Ad0 l0 0).f0).length : Int) - 1)) t119 _ A4.out).mono ?_); rintro e w' ⟨rfl, ⟨nd, rfl⟩⟩; refine ⟨_, rfl, ?_⟩))
 go_ret
 exact ⟨et, by repeat (first | exact Drawn0.refl _ | apply Drawn0.step)⟩
end Go.Proofs.YtgichahebemmiaaGreatDoor.P
namespace Go.Proofs.YtgichahebemmiaaGreatDoor.P
open Go.RowKit Go.Proofs.YtgichahebemmiaaGreatDoorW.PrintWords Go.Proofs.YtgichahebemmiaaGreatDoorW.PrintLast Go.Proofs.YtgichahebemmiaaGreatDoorW.PrintMore
attribute [local go_sem] Ae7 Ae4 Af9 Ag0 Ad3 Ad2 Ae8 Ae5   -- for this text's walks alone
set_option linter.unusedVariables false
set_option linter.unusedSimpArgs false
mutual
def spec_l2Order.l0 : Nat → List (S36) → List Int → Int → Option (Int)
 | 0, _, _, _ => none
 | k + 1, x0, x1, x5 => if x5 < (x1.length : Int) then (if 0 ≤ x5 then ((spec_l2Symbol.f x0 (rd x1 x5)).bind fun t123 => (if t123 = true then (spec_l2Order.l0 k x0 x1 (wrap64 (x5 + 1))) else (some 3))) else (none)) else (spec_l2Order.l1 k x1 0)
def spec_l2Order.l1 : Nat → List Int → Int → Option (Int)
 | 0, _, _ => none
 | k + 1, x1, x6 => if x6 < (x1.length : Int) then (spec_l2Order.l2 k x1 x6 0) else (some 0)
def spec_l2Order.l2 : Nat → List Int → Int → Int → Option (Int)
 | 0, _, _, _ => none
 | k + 1, x1, x6, x7 => if x7 < x6 then (if 0 ≤ x6 then (if x6 < (x1.length : Int) then (if 0 ≤ x7 then (if x7 < (x1.length : Int) then (if (rd x1 x6) = (rd x1 x7) then (some 6) else (spec_l2Order.l2 k x1 x6 (wrap64 (x7 + 1)))) else (none)) else (none)) else (none)) else (none)) else (spec_l2Order.l1 k x1 (wrap64 (x6 + 1)))
end
def spec_l2Order.f (k : Nat) (l0 : List (S36)) (l1 : List Int) : Option (Int) := if 0 < (l0.length : Int) then (if (l1.length : Int) = (((Ad0 l0 0).f0).length : Int) then (spec_l2Order.l0 k l0 l1 0) else (some 2)) else (none)
set_option maxHeartbeats 8000000 in
set_option maxRecDepth 100000 in
theorem spec_l2Order.calls (k : Nat) (A0 : Option Addr) (l0 : List (S36)) (A1 : Option Addr) (c1 : Nat) (l1 : List Int) (r : Int) (w : World) (hr0 : Kd.C k36 w A0 l0.length l0) (hr1 : Kd.C (Kd.int .i64) w A1 l1.length l1) (hc1 : l1.length ≤ c1) (h : spec_l2Order.f k l0 l1 = some r) :
  Calls Tryz.prog 46 #[.pointer A0, .slice A1 l1.length c1] w fun e w' => e = .returned (.int .i64 r) ∧ Drawn0 w w' := by
 have HR0 := am hr0
 clear hr0
 have HR1 := am hr1
 have HC1 := am hc1
 clear hr1 hc1
 have H : (if 0 < (l0.length : Int) then (if (l1.length : Int) = (((Ad0 l0 0).f0).length : Int) then (spec_l2Order.l0 k l0 l1 0) else (some 2)) else (none)) = some r := h
 clear h
 obtain ⟨c3, H⟩ := ifs H
 have c3b0 : decide (0 < (l0.length : Int)) = true := decide_eq_true c3
 have c3b1 : decide (0 < l0.length) = true := decide_eq_true (by omega)
 clear c3
 by_cases c4 : (l1.length : Int) = (((Ad0 l0 0).f0).length : Int)
 ·rw [if_pos c4] at H
  have c4b0 : ((l1.length : Int) == (((Ad0 l0 0).f0).length : Int)) = true := beq_iff_eq.mpr c4
  have c4b1 : ((l1.length : Int) != (((Ad0 l0 0).f0).length : Int)) = false := bne_eq_false_iff_eq.mpr c4
  have c4b2 : (l1.length == ((Ad0 l0 0).f0).length) = true := by first | simpa using c4 | (simp at c4 ⊢; omega)
  clear c4
  have H' := am H
  clear H
  have p120 : 0 ≤ (0 : Int) := (by omega)
  have q120 : 0 < (l0.length : Int) := od
  obtain ⟨ad120, A120_0, c120_0, e120, hx120_0, hl120_0, hi120_0⟩ := Ah9 HR0.out 0 p120 q120
  cases e120
  have qi120 : (0 < l0.length) = True := eq_true (by omega)
  (try rw [show ((0 : Int)).toNat = 0 from rfl] at hx120_0)
  (try rw [Addr.add_zero'] at hx120_0)
  have HR120_0 := am hi120_0
  have HC120_0 := am hl120_0
  clear hi120_0 hl120_0
  replace p120 := eq_true p120
  replace q120 := eq_true q120
  have p121 : 0 ≤ (0 : Int) := (by omega)
  have q121 : 0 < (l0.length : Int) := od
  obtain ⟨ad121, A121_0, c121_0, e121, hx121_0, hl121_0, hi121_0⟩ := Ah9 HR0.out 0 p121 q121
  obtain rfl : ad120 = ad121 := (by injection e121)
  have qi121 : (0 < l0.length) = True := eq_true (by omega)
  (try rw [show ((0 : Int)).toNat = 0 from rfl] at hx121_0)
  (try rw [Addr.add_zero'] at hx121_0)
  have HR121_0 := am hi121_0
  have HC121_0 := am hl121_0
  clear hi121_0 hl121_0
  replace p121 := eq_true p121
  replace q121 := eq_true q121
  have ea_ := Option.some.inj (hx120_0.symm.trans hx121_0)
  injection ea_ with ea_ en_ ec_
  subst ea_
  subst ec_
  clear en_
  go_enter Tryz.func46, Tryz.ntmps46
  go_wp2
  repeat (go_quiet (fail); try go_wp2)
  go_loopg [5] k (fun kq v5 w' => ∃ (x5_1 : Int), v5 = .int .i64 x5_1 ∧ Aside0 (spec_l2Order.l0 kq l0 l1 x5_1 = some r) ∧ Aside0 (kq ≤ k) ∧ Drawn0 w w')
  case atStart => exact ⟨(0), et, H', ⟨Nat.le_refl _⟩, by repeat (first | exact Drawn0.refl _ | apply Drawn0.step)⟩
  case round =>
   clear H'
   try clear c1; try clear c3; try clear c3b0; try clear c3b1; try clear c4; try clear c4b0; try clear c4b1; try clear c4b2; try clear hx120_0; try clear hx121_0; try clear p120; try clear p121; try clear q120; try clear q121
   obtain ⟨x5_1, rfl, HA, HK1, ⟨m1, rfl⟩⟩ := hrel
   cases gk with
   | zero => exact absurd HA.out (by simp [spec_l2Order.l0])
   | succ k1 =>
    have H := HA.out
    clear HA
    simp only [spec_l2Order.l0] at H
    by_cases c5 : x5_1 < (l1.length : Int)
    ·rw [if_pos c5] at H
     have c5b0 : decide (x5_1 < (l1.length : Int)) = true := decide_eq_true c5
     clear c5
     obtain ⟨c6b0, H⟩ := ife H
     obtain ⟨t123, A7, H⟩ := ob H
     try dsimp only at H
     by_cases c8 : t123 = true
     ·subst c8
      rw [if_pos rfl] at H
      have H' := am H
      clear H
      have p122 : 0 ≤ (x5_1 : Int) := od
      have q122 : x5_1 < (l1.length : Int) := od
      obtain ⟨ad122, e122, hx122_0⟩ := Kd.at_int HR1.out x5_1 p122 q122
      cases e122
      replace p122 := eq_true p122
      replace q122 := eq_true q122
      go_wp2_with (first | (go_at_call 78; refine (spec_l2Symbol.calls _ l0 (rd l1 x5_1) true _ (cq HR0.out) A7.out).mono ?_; rintro e w' ⟨rfl, ⟨nd, rfl⟩⟩; (try first | exact ⟨rfl, _, World.drewN_drewN _ _ _⟩ | exact ⟨rfl, _, Eq.trans (World.drewN_drewN _ _ _) (congrArg (World.drewN _) (Nat.add_assoc _ _ _))⟩)))
      repeat (go_quiet (first | (go_at_call 78; refine (spec_l2Symbol.calls _ l0 (rd l1 x5_1) true _ (cq HR0.out) A7.out).mono ?_; rintro e w' ⟨rfl, ⟨nd, rfl⟩⟩; (try first | exact ⟨rfl, _, World.drewN_drewN _ _ _⟩ | exact ⟨rfl, _, Eq.trans (World.drewN_drewN _ _ _) (congrArg (World.drewN _) (Nat.add_assoc _ _ _))⟩))); try go_wp2_with (first | (go_at_call 78; refine (spec_l2Symbol.calls _ l0 (rd l1 x5_1) true _ (cq HR0.out) A7.out).mono ?_; rintro e w' ⟨rfl, ⟨nd, rfl⟩⟩; (try first | exact ⟨rfl, _, World.drewN_drewN _ _ _⟩ | exact ⟨rfl, _, Eq.trans (World.drewN_drewN _ _ _) (congrArg (World.drewN _) (Nat.add_assoc _ _ _))⟩))))
      go_roundg k1
      case measure => have := HK1.out; omega
      case rel => exact ⟨(wrap64 (x5_1 + 1)), et, H', ⟨by have := HK1.out; omega⟩, by repeat (first | exact Drawn0.refl _ | apply Drawn0.step)⟩
     ·replace c8 := Bool.eq_false_iff.mpr c8
      subst c8
      rw [if_neg (show ¬ (false = true) by decide)] at H
      obtain rfl := Option.some.inj H
      have p122 : 0 ≤ (x5_1 : Int) := od
      have q122 : x5_1 < (l1.length : Int) := od
      obtain ⟨ad122, e122, hx122_0⟩ := Kd.at_int HR1.out x5_1 p122 q122
      cases e122
      replace p122 := eq_true p122
      replace q122 := eq_true q122
      go_wp2_with (first | (go_at_call 78; refine (spec_l2Symbol.calls _ l0 (rd l1 x5_1) false _ (cq HR0.out) A7.out).mono ?_; rintro e w' ⟨rfl, ⟨nd, rfl⟩⟩; (try first | exact ⟨rfl, _, World.drewN_drewN _ _ _⟩ | exact ⟨rfl, _, Eq.trans (World.drewN_drewN _ _ _) (congrArg (World.drewN _) (Nat.add_assoc _ _ _))⟩)))
      repeat (go_quiet (first | (go_at_call 78; refine (spec_l2Symbol.calls _ l0 (rd l1 x5_1) false _ (cq HR0.out) A7.out).mono ?_; rintro e w' ⟨rfl, ⟨nd, rfl⟩⟩; (try first | exact ⟨rfl, _, World.drewN_drewN _ _ _⟩ | exact ⟨rfl, _, Eq.trans (World.drewN_drewN _ _ _) (congrArg (World.drewN _) (Nat.add_assoc _ _ _))⟩))); try go_wp2_with (first | (go_at_call 78; refine (spec_l2Symbol.calls _ l0 (rd l1 x5_1) false _ (cq HR0.out) A7.out).mono ?_; rintro e w' ⟨rfl, ⟨nd, rfl⟩⟩; (try first | exact ⟨rfl, _, World.drewN_drewN _ _ _⟩ | exact ⟨rfl, _, Eq.trans (World.drewN_drewN _ _ _) (congrArg (World.drewN _) (Nat.add_assoc _ _ _))⟩))))
      go_ret
      exact ⟨et, by repeat (first | exact Drawn0.refl _ | apply Drawn0.step)⟩
    ·rw [if_neg c5] at H
     have c5b0 : decide (x5_1 < (l1.length : Int)) = false := decide_eq_false c5
     clear c5
     have H' := am H
     clear H
     go_wp2
     repeat (go_quiet (fail); try go_wp2)
     go_loopg [6] k1 (fun kq v6 w' => ∃ (x6_2 : Int), v6 = .int .i64 x6_2 ∧ Aside0 (spec_l2Order.l1 kq l1 x6_2 = some r) ∧ Aside0 (kq ≤ k1) ∧ Drawn0 w w')
     case atStart => exact ⟨(0), et, H', ⟨Nat.le_refl _⟩, by repeat (first | exact Drawn0.refl _ | apply Drawn0.step)⟩
     case round =>
      clear H'
      try clear c1; try clear c3; try clear c3b0; try clear c3b1; try clear c4; try clear c4b0; try clear c4b1; try clear c4b2; try clear c5; try clear c5b0; try clear c6b0; try clear c8; try clear hx120_0; try clear hx121_0; try clear hx122_0; try clear p120; try clear p121; try clear p122; try clear q120; try clear q121; try clear q122
      obtain ⟨x6_2, rfl, HA, HK2, ⟨m2, rfl⟩⟩ := hrel
      cases gk with
      | zero => exact absurd HA.out (by simp [spec_l2Order.l1])
      | succ k2 =>
       have H := HA.out
       clear HA
       simp only [spec_l2Order.l1] at H
       by_cases c9 : x6_2 < (l1.length : Int)
       ·rw [if_pos c9] at H
        have c9b0 : decide (x6_2 < (l1.length : Int)) = true := decide_eq_true c9
        clear c9
        have H' := am H
        clear H
        go_wp2
        repeat (go_quiet (fail); try go_wp2)
        go_loopg [7] k2 (fun kq v7 w' => ∃ (x7_3 : Int), v7 = .int .i64 x7_3 ∧ Aside0 (spec_l2Order.l2 kq l1 x6_2 x7_3 = some r) ∧ Aside0 (kq ≤ k2) ∧ Drawn0 w w')
        case atStart => exact ⟨(0), et, H', ⟨Nat.le_refl _⟩, by repeat (first | exact Drawn0.refl _ | apply Drawn0.step)⟩
        case round =>
         clear H'
         try clear c1; try clear c3; try clear c3b0; try clear c3b1; try clear c4; try clear c4b0; try clear c4b1; try clear c4b2; try clear c5; try clear c5b0; try clear c6b0; try clear c8; try clear c9; try clear c9b0; try clear hx120_0; try clear hx121_0; try clear hx122_0; try clear p120; try clear p121; try clear p122; try clear q120; try clear q121; try clear q122
         obtain ⟨x7_3, rfl, HA, HK3, ⟨m3, rfl⟩⟩ := hrel
         cases gk with
         | zero => exact absurd HA.out (by simp [spec_l2Order.l2])
         | succ k3 =>
          have H := HA.out
          clear HA
          simp only [spec_l2Order.l2] at H
          by_cases c10 : x7_3 < x6_2
          ·rw [if_pos c10] at H
           have c10b0 : decide (x7_3 < x6_2) = true := decide_eq_true c10
           clear c10
           obtain ⟨c11b0, H⟩ := ife H
           obtain ⟨c12b0, H⟩ := ife H
           obtain ⟨c13b0, H⟩ := ife H
           obtain ⟨c14b0, H⟩ := ife H
           by_cases c15 : (rd l1 x6_2) = (rd l1 x7_3)
           ·rw [if_pos c15] at H
            obtain ⟨c15b0, c15b1⟩ := bqt c15; clear c15
            obtain rfl := Option.some.inj H
            have p124 : 0 ≤ (x6_2 : Int) := od
            have q124 : x6_2 < (l1.length : Int) := od
            obtain ⟨ad124, e124, hx124_0⟩ := Kd.at_int HR1.out x6_2 p124 q124
            cases e124
            replace p124 := eq_true p124
            replace q124 := eq_true q124
            have p125 : 0 ≤ (x7_3 : Int) := od
            have q125 : x7_3 < (l1.length : Int) := od
            obtain ⟨ad125, e125, hx125_0⟩ := Kd.at_int HR1.out x7_3 p125 q125
            obtain rfl : ad124 = ad125 := (by injection e125)
            replace p125 := eq_true p125
            replace q125 := eq_true q125
            go_wp2
            repeat (go_quiet (fail); try go_wp2)
            go_ret
            exact ⟨et, by repeat (first | exact Drawn0.refl _ | apply Drawn0.step)⟩
           ·rw [if_neg c15] at H
            obtain ⟨c15b0, c15b1⟩ := bqf c15
            have H' := am H
            clear H
            have p124 : 0 ≤ (x6_2 : Int) := od
            have q124 : x6_2 < (l1.length : Int) := od
            obtain ⟨ad124, e124, hx124_0⟩ := Kd.at_int HR1.out x6_2 p124 q124
            cases e124
            replace p124 := eq_true p124
            replace q124 := eq_true q124
            have p125 : 0 ≤ (x7_3 : Int) := od
            have q125 : x7_3 < (l1.length : Int) := od
            obtain ⟨ad125, e125, hx125_0⟩ := Kd.at_int HR1.out x7_3 p125 q125
            obtain rfl : ad124 = ad125 := (by injection e125)
            replace p125 := eq_true p125
            replace q125 := eq_true q125
            go_wp2
            repeat (go_quiet (fail); try go_wp2)
            go_roundg k3
            case measure => have := HK1.out; have := HK2.out; have := HK3.out; omega
            case rel => exact ⟨(wrap64 (x7_3 + 1)), et, H', ⟨by have := HK1.out; have := HK2.out; have := HK3.out; omega⟩, by repeat (first | exact Drawn0.refl _ | apply Drawn0.step)⟩
          ·rw [if_neg c10] at H
           have c10b0 : decide (x7_3 < x6_2) = false := decide_eq_false c10
           clear c10
           have H' := am H
           clear H
           go_wp2
           repeat (go_quiet (fail); try go_wp2)
           go_roundg k3
           case measure => have := HK1.out; have := HK2.out; have := HK3.out; omega
           case rel => exact ⟨(wrap64 (x6_2 + 1)), et, H', ⟨by have := HK1.out; have := HK2.out; have := HK3.out; omega⟩, by repeat (first | exact Drawn0.refl _ | apply Drawn0.step)⟩
       ·rw [if_neg c9] at H
        have c9b0 : decide (x6_2 < (l1.length : Int)) = false := decide_eq_false c9
        clear c9
        obtain rfl := Option.some.inj H
        go_wp2
        repeat (go_quiet (fail); try go_wp2)
        go_ret
        exact ⟨et, by repeat (first | exact Drawn0.refl _ | apply Drawn0.step)⟩
 ·rw [if_neg c4] at H
  obtain ⟨c4b0, c4b1⟩ := bqf c4
  have c4b2 : (l1.length == ((Ad0 l0 0).f0).length) = false := by first | simpa using c4 | (simp at c4 ⊢; omega)
  obtain rfl := Option.some.inj H
  have p120 : 0 ≤ (0 : Int) := (by omega)
  have q120 : 0 < (l0.length : Int) := od
  obtain ⟨ad120, A120_0, c120_0, e120, hx120_0, hl120_0, hi120_0⟩ := Ah9 HR0.out 0 p120 q120
  cases e120
  have qi120 : (0 < l0.length) = True := eq_true (by omega)
  (try rw [show ((0 : Int)).toNat = 0 from rfl] at hx120_0)
  (try rw [Addr.add_zero'] at hx120_0)
  have HR120_0 := am hi120_0
  have HC120_0 := am hl120_0
  clear hi120_0 hl120_0
  replace p120 := eq_true p120
  replace q120 := eq_true q120
  have p121 : 0 ≤ (0 : Int) := (by omega)
  have q121 : 0 < (l0.length : Int) := od
  obtain ⟨ad121, A121_0, c121_0, e121, hx121_0, hl121_0, hi121_0⟩ := Ah9 HR0.out 0 p121 q121
  obtain rfl : ad120 = ad121 := (by injection e121)
  have qi121 : (0 < l0.length) = True := eq_true (by omega)
  (try rw [show ((0 : Int)).toNat = 0 from rfl] at hx121_0)
  (try rw [Addr.add_zero'] at hx121_0)
  have HR121_0 := am hi121_0
  have HC121_0 := am hl121_0
  clear hi121_0 hl121_0
  replace p121 := eq_true p121
  replace q121 := eq_true q121
  have ea_ := Option.some.inj (hx120_0.symm.trans hx121_0)
  injection ea_ with ea_ en_ ec_
  subst ea_
  subst ec_
  clear en_
  go_enter Tryz.func46, Tryz.ntmps46
  go_wp2
  repeat (go_quiet (fail); try go_wp2)
  go_ret
  exact ⟨et, by repeat (first | exact Drawn0.refl _ | apply Drawn0.step)⟩
def spec_OrderFault.f (k : Nat) (l0_0 : List (S79)) (l1 : List Int) : Option (Int) := (spec_SignatureFault.f k l0_0).bind fun t127 => (if t127 = 0 then ((spec_l2Order.f k [(⟨l0_0⟩ : S36)] l1).bind fun t128 => (some t128)) else (some t127))
set_option maxHeartbeats 8000000 in
set_option maxRecDepth 100000 in
theorem spec_OrderFault.calls (k : Nat) (A0_0 : Option Addr) (c0_0 : Nat) (l0_0 : List (S79)) (A1 : Option Addr) (c1 : Nat) (l1 : List Int) (r : Int) (w : World) (hr0_0 : Kd.C k79 w A0_0 l0_0.length l0_0) (hc0_0 : l0_0.length ≤ c0_0) (hr1 : Kd.C (Kd.int .i64) w A1 l1.length l1) (hc1 : l1.length ≤ c1) (h : spec_OrderFault.f k l0_0 l1 = some r) :
  Calls Tryz.prog 28 #[.agg #[.slice A0_0 l0_0.length c0_0], .slice A1 l1.length c1] w fun e w' => e = .returned (.int .i64 r) ∧ Below w.heap.size w w' := by
 have hu36 := Tryz.underlying36
 have HR0_0 := am hr0_0
 have HC0_0 := am hc0_0
 clear hr0_0 hc0_0
 have HR1 := am hr1
 have HC1 := am hc1
 clear hr1 hc1
 have HB := am (Below.refl w.heap.size w)
 have H : ((spec_SignatureFault.f k l0_0).bind fun t127 => (if t127 = 0 then ((spec_l2Order.f k [(⟨l0_0⟩ : S36)] l1).bind fun t128 => (some t128)) else (some t127))) = some r := h
 clear h
 obtain ⟨t127, A3, H⟩ := ob H
 try dsimp only at H
 by_cases c4 : t127 = 0
 ·rw [if_pos c4] at H
  obtain ⟨c4b0, c4b1⟩ := bqt c4; clear c4
  obtain ⟨t128, A5, H⟩ := ob H
  try dsimp only at H
  obtain rfl := Option.some.inj H
  go_enter Tryz.func28, Tryz.ntmps28
  go_wp2_with (first | (refine bx 2 rfl #[.slice A0_0 l0_0.length c0_0] 36 ?_; intro gb126 hg w6 hbox hb; have BK126 := am (hbox); have GW126 := am (bz hg (hq HB.out)); replace HB := sb HB hb; have GE126 := GW126; clear hb hbox hg; have hcz7_0 : w6.cell? ⟨gb126, 0, none⟩ = some (.slice A0_0 l0_0.length c0_0) := (Aa0 BK126.out 0).trans rfl; have hfz7_0 := Aa1 BK126.out 0) | (refine gl (some 7) Tryz.func45 rfl #[.agg #[.slice A0_0 l0_0.length c0_0]] ?_; refine (spec_SignatureFault.calls k _ _ l0_0 t127 _ (cq (Kd.C_below HR0_0.out HB.out)) HC0_0.out A3.out).mono ?_; rintro e w8 ⟨rfl, hb⟩; refine ⟨_, rfl, ?_⟩; replace BK126 := bb BK126 hb; replace HB := sb HB hb; (try clear hb)) | (refine gl (some 12) Tryz.func46 rfl #[.pointer (some ⟨gb126, 0, none⟩), .slice A1 l1.length c1] ?_; refine (spec_l2Order.calls k _ [(⟨l0_0⟩ : S36)] _ _ l1 t128 _ (Ag4 (bq BK126.out) (cq (Kd.C_below HR0_0.out HB.out)) (by exact HC0_0.out)) (cq (Kd.C_below HR1.out HB.out)) HC1.out A5.out).mono ?_; rintro e w' ⟨rfl, ⟨nd, rfl⟩⟩; refine ⟨_, rfl, ?_⟩))
  go_ret
  exact ⟨er, hs HB.out⟩
 ·rw [if_neg c4] at H
  obtain ⟨c4b0, c4b1⟩ := bqf c4
  obtain rfl := Option.some.inj H
  go_enter Tryz.func28, Tryz.ntmps28
  go_wp2_with (first | (refine bx 2 rfl #[.slice A0_0 l0_0.length c0_0] 36 ?_; intro gb126 hg w9 hbox hb; have BK126 := am (hbox); have GW126 := am (bz hg (hq HB.out)); replace HB := sb HB hb; have GE126 := GW126; clear hb hbox hg; have hcz10_0 : w9.cell? ⟨gb126, 0, none⟩ = some (.slice A0_0 l0_0.length c0_0) := (Aa0 BK126.out 0).trans rfl; have hfz10_0 := Aa1 BK126.out 0) | (refine gl (some 7) Tryz.func45 rfl #[.agg #[.slice A0_0 l0_0.length c0_0]] ?_; refine (spec_SignatureFault.calls k _ _ l0_0 t127 _ (cq (Kd.C_below HR0_0.out HB.out)) HC0_0.out A3.out).mono ?_; rintro e w11 ⟨rfl, hb⟩; refine ⟨_, rfl, ?_⟩; replace BK126 := bb BK126 hb; replace HB := sb HB hb; (try clear hb)))
  go_ret
  exact ⟨er, hs HB.out⟩
def spec_l3Node.f (l0 : List (S36)) (a1 : Int) : Option (Bool) := (spec_l2Symbol.f l0 a1).bind fun t129 => (if t129 = true then (some true) else ((spec_l1In.f a1 (-12) (-1)).bind fun t130 => (some t130)))
set_option maxHeartbeats 8000000 in
set_option maxRecDepth 100000 in
theorem spec_l3Node.calls (A0 : Option Addr) (l0 : List (S36)) (a1 : Int) (r : Bool) (w : World) (hr0 : Kd.C k36 w A0 l0.length l0) (h : spec_l3Node.f l0 a1 = some r) :
  Calls Tryz.prog 47 #[.pointer A0, .int .i64 a1] w fun e w' => e = .returned (.bool r) ∧ Drawn0 w w' := by
 have HR0 := am hr0
 clear hr0
 have H : ((spec_l2Symbol.f l0 a1).bind fun t129 => (if t129 = true then (some true) else ((spec_l1In.f a1 (-12) (-1)).bind fun t130 => (some t130)))) = some r := h
 clear h
 obtain ⟨t129, A3, H⟩ := ob H
 try dsimp only at H
 by_cases c4 : t129 = true
 ·subst c4
  rw [if_pos rfl] at H
  obtain rfl := Option.some.inj H
  go_enter Tryz.func47, Tryz.ntmps47
  go_wp2_with (first | (refine gl (some 7) Tryz.func78 rfl #[.pointer A0, .int .i64 a1] ?_; refine (spec_l2Symbol.calls _ l0 a1 true _ (cq HR0.out) A3.out).mono ?_; rintro e w' ⟨rfl, ⟨nd, rfl⟩⟩; refine ⟨_, rfl, ?_⟩))
  go_ret
  exact ⟨et, by repeat (first | exact Drawn0.refl _ | apply Drawn0.step)⟩
 ·replace c4 := Bool.eq_false_iff.mpr c4
  subst c4
  rw [if_neg (show ¬ (false = true) by decide)] at H
  obtain ⟨t130, A5, H⟩ := ob H
  try dsimp only at H
  obtain rfl := Option.some.inj H
  go_enter Tryz.func47, Tryz.ntmps47
  go_wp2_with (first | (refine gl (some 7) Tryz.func78 rfl #[.pointer A0, .int .i64 a1] ?_; refine (spec_l2Symbol.calls _ l0 a1 false _ (cq HR0.out) A3.out).mono ?_; rintro e w' ⟨rfl, ⟨nd, rfl⟩⟩; refine ⟨_, rfl, ?_⟩) | (go_at_call 77; refine (spec_l1In.calls a1 (-12) (-1) t130 _ A5.out).mono ?_; rintro e w' ⟨rfl, ⟨nd, rfl⟩⟩))
  go_ret
  exact ⟨et, by repeat (first | exact Drawn0.refl _ | apply Drawn0.step)⟩
end Go.Proofs.YtgichahebemmiaaGreatDoor.P
