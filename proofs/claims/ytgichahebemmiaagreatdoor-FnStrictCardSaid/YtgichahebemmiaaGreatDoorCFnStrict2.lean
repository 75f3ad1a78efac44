/- A part of the proof of the law FnStrict. -/
import Derived.Lib.SliceRun
import Derived.Shelf.Strings.SlTrimAscii
import Derived.Maps.Own
import Derived.WideKeyPair
import Derived.Test.YtgichahebemmiaaGreatDoorCFnStrict1
import Derived.Test.YtgichahebemmiaaGreatDoorCFnStrict22
set_option maxHeartbeats 8000000
set_option maxRecDepth 100000
namespace Go.Proofs.YtgichahebemmiaaGreatDoor.P
open Go.RowKit Go.Proofs.YtgichahebemmiaaGreatDoorW.PrintWords Go.Proofs.YtgichahebemmiaaGreatDoorW.PrintLast Go.Proofs.YtgichahebemmiaaGreatDoorW.PrintMore
attribute [local go_sem] Ai1 Ah9 Ak5 Ak4 Ah0 Ag9 Ai2 Ai0   -- for this text's walks alone
set_option linter.unusedVariables false
set_option linter.unusedSimpArgs false
def errW : Option Int → Value
 | none => .nilIface
 | some c => .iface 0 (.int .i64 c)
theorem Ag8 : errW none = .nilIface := rfl
theorem Ag7 (c : Int) : errW (some c) = .iface 0 (.int .i64 c) := rfl
section
variable {P : Program} {ops : Array Oper} {Q : Exit → Act → World → Prop}
theorem Av8 {o : Oper} {rest : List Oper} {a : Act} {W : World} (t : Tmp) {asl : Array Operand} {ts : Array TypeId} (_ho : o.op = .call { callee := .value (.tmp t), args := asl, argTypes := ts }) (h : wpList P ops Q (o :: rest) a W) : wpList P ops Q (o :: rest) a W := h
theorem Bj8 {rest : List Oper} {oi : Oper} {a : Act} {w : World} (N : Option Tmp) (hd : oi.dst = N) (hg : oi.guard = none) {t : Tmp} {f : FuncId} {fn : Func} {asl : Array Operand} {ts : Array TypeId} {caps : Array Value} (hf : P.funcs[f]? = some fn) (hname : (fn.name == "runtime.NumGoroutine") = false) (hb : fn.body.isSome = true) (args : Array Value)
  (hop : oi.op = .call { callee := .value (.tmp t), args := asl, argTypes := ts }) (hv : a.eval (.tmp t) = .func (.func f) #[] caps) (hargs : asl.map a.eval ++ caps = args)
  (h : Calls P f args w fun e w' => ∃ v, e = .returned v ∧ wpList P ops Q rest (a.put N v) w') : wpList P ops Q (oi :: rest) a w := by
 refine wpList_plain hg fun K hK => ?_
 have he := Bj3 hf hname hb args w
 have hrun : (execOp a.eval oi).run P w = .ok (.enter f args) w := by
  unfold execOp
  simp [hop, resolve, Deferred.ofValue, invoke, hv, hargs, he]
 unfold Oper.wp
 rw [hrun, Oper.upon_enter]
 refine h.mono fun e w'' hh => ?_
 obtain ⟨v, rfl, hk⟩ := hh
 subst hd
 exact hK _ _ hk
end
theorem Au1 : (Tryz.prog.info? 2).map (fun i => (i.zero, i.size, i.bytes)) = some (some (.int .i64 0), 1, 8) := by kernel_rfl
theorem info3 : (Tryz.prog.info? 3).map (fun i => (i.zero, i.size, i.bytes)) = some (some (.int .i64 0), 1, 8) := by kernel_rfl
theorem info4 : (Tryz.prog.info? 4).map (fun i => (i.zero, i.size, i.bytes)) = some (some (.bool false), 1, 1) := by kernel_rfl
theorem info5 : (Tryz.prog.info? 5).map (fun i => (i.zero, i.size, i.bytes)) = some (some (.int .u8 0), 1, 1) := by kernel_rfl
theorem info9 : (Tryz.prog.info? 9).map (fun i => (i.zero, i.size, i.bytes)) = some (some (.string ⟨#[]⟩), 1, 16) := by kernel_rfl
theorem info79 : (Tryz.prog.info? 79).map (fun i => (i.zero, i.size, i.bytes)) = some (some (.agg #[(.string ⟨#[]⟩), (.int .i64 0)]), 2, 24) := by kernel_rfl
structure S79 where
 f0 : ByteArray
 f1 : Int
def z79 : S79 := ⟨(⟨#[]⟩ : ByteArray), (0 : Int)⟩
def k79 : Kd S79 := Kd.iso (Kd.pair Kd.string (Kd.int .i64)) (fun x : S79 => (x.f0, x.f1))
theorem k79_heap : Kd.Heap k79 := Kd.heap_iso _ (Kd.heap_pair Kd.heap_string (Kd.heap_int .i64))
theorem k79_open {w : World} {x : S79} {cs : List Value} (h : k79.K w x cs) : cs = [.string x.f0, .int .i64 x.f1] := by
 obtain ⟨_, _, rfl, rfl, rfl⟩ := h
 exact rfl
theorem At9 {w : World} {base : Nat} {ok : Nat → Prop} {x : S79} {cs : List Value} (h : k79.M w base ok x cs) : cs = [.string x.f0, .int .i64 x.f1] := by
 obtain ⟨_, _, rfl, rfl, rfl⟩ := h
 exact rfl
theorem Am8 (w : World) (base : Nat) (ok : Nat → Prop) (x : S79)  : k79.M w base ok x [.string x.f0, .int .i64 x.f1] := ⟨[.string x.f0], [.int .i64 x.f1], rfl, rfl, rfl⟩
def Ac2 (xs : List S79) (i : Int) : S79 := xs.getD i.toNat z79
theorem Ap3 {w : World} {A : Option Addr} {n : Nat} {xs : List S79} (h : Kd.C k79 w A n xs) (i : Int) (h0 : 0 ≤ i) (h1 : i < n) : ∃ ad , A = some ad ∧ w.cell? (ad.add (i.toNat * 2)) = some (.string (Ac2 xs i).f0) ∧ w.cell? ⟨(ad.add (i.toNat * 2)).block, (ad.add (i.toNat * 2)).off + 1, none⟩ = some (.int .i64 (Ac2 xs i).f1) := by
 obtain ⟨ad, c, e, _, hK, hc0⟩ := Kd.C_get h z79 i h0 h1
 have hc : ∀ j u, c[j]? = some u → w.cell? (ad.add (i.toNat * 2 + j)) = some u := hc0
 obtain rfl := k79_open hK
 exact ⟨ad, e, hc 0 _ rfl, by rw [← Aw9 _ _ 1 (by omega)]; exact hc 1 _ rfl⟩
structure S36 where
 f0 : (List S79)
def z36 : S36 := ⟨([] : List S79)⟩
def k36 : Kd S36 := Kd.iso (Kd.slice 79 k79) (fun x : S36 => x.f0)
theorem k36_open {w : World} {x : S36} {cs : List Value} (h : k36.K w x cs) : ∃ A0 c0, cs = [.slice A0 x.f0.length c0] ∧ x.f0.length ≤ c0 ∧ k79.C w A0 x.f0.length x.f0 := by
 obtain ⟨A0, c0, rfl, l0, g0⟩ := h
 exact ⟨A0, c0, rfl, l0, g0⟩
theorem k36_mk (w : World) (x : S36) {A0 : Option Addr} {c0 : Nat} (l0 : x.f0.length ≤ c0) (g0 : k79.C w A0 x.f0.length x.f0) : k36.K w x [.slice A0 x.f0.length c0] := ⟨A0, c0, rfl, l0, g0⟩
def Ad6 (xs : List S36) (i : Int) : S36 := xs.getD i.toNat z36
theorem Aj0 {w : World} {A : Option Addr} {n : Nat} {xs : List S36} (h : Kd.C k36 w A n xs) (i : Int) (h0 : 0 ≤ i) (h1 : i < n) : ∃ ad A0 c0, A = some ad ∧ w.cell? (ad.add i.toNat) = some (.slice A0 (Ad6 xs i).f0.length c0) ∧ (Ad6 xs i).f0.length ≤ c0 ∧ k79.C w A0 (Ad6 xs i).f0.length (Ad6 xs i).f0 := by
 obtain ⟨ad, c, e, _, hK, hc0⟩ := Kd.C_get h z36 i h0 h1
 have hc : ∀ j u, c[j]? = some u → w.cell? (ad.add (i.toNat * 1 + j)) = some u := hc0
 obtain ⟨A0, c0, rfl, l0, g0⟩ := k36_open hK
 exact ⟨ad, A0, c0, e, by have hq := hc 0 _ rfl; rwa [Nat.mul_one, Nat.add_zero] at hq, l0, g0⟩
structure S30 where
 f0 : (List Int)
 f1 : (List Int)
def z30 : S30 := ⟨([] : List Int), ([] : List Int)⟩
def k30 : Kd S30 := Kd.iso (Kd.pair (Kd.slice 2 (Kd.int .i64)) (Kd.slice 2 (Kd.int .i64))) (fun x : S30 => (x.f0, x.f1))
theorem k30_open {w : World} {x : S30} {cs : List Value} (h : k30.K w x cs) : ∃ A0 c0 A1 c1, cs = [.slice A0 x.f0.length c0, .slice A1 x.f1.length c1] ∧ x.f0.length ≤ c0 ∧ (Kd.int .i64).C w A0 x.f0.length x.f0 ∧ x.f1.length ≤ c1 ∧ (Kd.int .i64).C w A1 x.f1.length x.f1 := by
 obtain ⟨_, _, rfl, ⟨A0, c0, rfl, l0, g0⟩, ⟨A1, c1, rfl, l1, g1⟩⟩ := h
 exact ⟨A0, c0, A1, c1, rfl, l0, g0, l1, g1⟩
theorem k30_mk (w : World) (x : S30) {A0 : Option Addr} {c0 : Nat} (l0 : x.f0.length ≤ c0) (g0 : (Kd.int .i64).C w A0 x.f0.length x.f0) {A1 : Option Addr} {c1 : Nat} (l1 : x.f1.length ≤ c1) (g1 : (Kd.int .i64).C w A1 x.f1.length x.f1) : k30.K w x [.slice A0 x.f0.length c0, .slice A1 x.f1.length c1] := ⟨[.slice A0 x.f0.length c0], [.slice A1 x.f1.length c1], rfl, ⟨A0, c0, rfl, l0, g0⟩, ⟨A1, c1, rfl, l1, g1⟩⟩
def Ap2 (xs : List S30) (i : Int) : S30 := xs.getD i.toNat z30
theorem Ba0 {w : World} {A : Option Addr} {n : Nat} {xs : List S30} (h : Kd.C k30 w A n xs) (i : Int) (h0 : 0 ≤ i) (h1 : i < n) : ∃ ad A0 c0 A1 c1, A = some ad ∧ w.cell? (ad.add (i.toNat * 2)) = some (.slice A0 (Ap2 xs i).f0.length c0) ∧ w.cell? ⟨(ad.add (i.toNat * 2)).block, (ad.add (i.toNat * 2)).off + 1, none⟩ = some (.slice A1 (Ap2 xs i).f1.length c1) ∧ (Ap2 xs i).f0.length ≤ c0 ∧ (Kd.int .i64).C w A0 (Ap2 xs i).f0.length (Ap2 xs i).f0 ∧ (Ap2 xs i).f1.length ≤ c1 ∧ (Kd.int .i64).C w A1 (Ap2 xs i).f1.length (Ap2 xs i).f1 := by
 obtain ⟨ad, c, e, _, hK, hc0⟩ := Kd.C_get h z30 i h0 h1
 have hc : ∀ j u, c[j]? = some u → w.cell? (ad.add (i.toNat * 2 + j)) = some u := hc0
 obtain ⟨A0, c0, A1, c1, rfl, l0, g0, l1, g1⟩ := k30_open hK
 exact ⟨ad, A0, c0, A1, c1, e, hc 0 _ rfl, by rw [← Aw9 _ _ 1 (by omega)]; exact hc 1 _ rfl, l0, g0, l1, g1⟩
def Kd.mapk : Kd Int := Kd.scalar (fun b : Int => .map (some b.toNat)) (fun _ => rfl)
structure S114 where
 f0 : S36
 f1 : (List Int)
 f2 : (List Int)
 f3 : (List Int)
 f4 : Int
def z114 : S114 := ⟨z36, ([] : List Int), ([] : List Int), ([] : List Int), (0 : Int)⟩
def Bj7 : Kd S114 := Kd.iso (Kd.pair k36 (Kd.pair (Kd.slice 2 (Kd.int .i64)) (Kd.pair (Kd.slice 2 (Kd.int .i64)) (Kd.pair (Kd.slice 2 (Kd.int .i64)) Kd.mapk)))) (fun x : S114 => (x.f0, x.f1, x.f2, x.f3, x.f4))
theorem k114_open {w : World} {x : S114} {cs : List Value} (h : Bj7.K w x cs) : ∃ A0 c0 A1 c1 A2 c2 A3 c3, cs = [.slice A0 x.f0.f0.length c0, .slice A1 x.f1.length c1, .slice A2 x.f2.length c2, .slice A3 x.f3.length c3, .map (some x.f4.toNat)] ∧ x.f0.f0.length ≤ c0 ∧ k79.C w A0 x.f0.f0.length x.f0.f0 ∧ x.f1.length ≤ c1 ∧ (Kd.int .i64).C w A1 x.f1.length x.f1 ∧ x.f2.length ≤ c2 ∧ (Kd.int .i64).C w A2 x.f2.length x.f2 ∧ x.f3.length ≤ c3 ∧ (Kd.int .i64).C w A3 x.f3.length x.f3 := by
 obtain ⟨_, _, rfl, s0, ⟨_, _, rfl, ⟨A1, c1, rfl, l1, g1⟩, ⟨_, _, rfl, ⟨A2, c2, rfl, l2, g2⟩, ⟨_, _, rfl, ⟨A3, c3, rfl, l3, g3⟩, rfl⟩⟩⟩⟩ := h
 obtain ⟨A0, c0, rfl, l0, g0⟩ := k36_open s0
 exact ⟨A0, c0, A1, c1, A2, c2, A3, c3, rfl, l0, g0, l1, g1, l2, g2, l3, g3⟩
theorem k114_mk (w : World) (x : S114) {A0 : Option Addr} {c0 : Nat} (l0 : x.f0.f0.length ≤ c0) (g0 : k79.C w A0 x.f0.f0.length x.f0.f0) {A1 : Option Addr} {c1 : Nat} (l1 : x.f1.length ≤ c1) (g1 : (Kd.int .i64).C w A1 x.f1.length x.f1) {A2 : Option Addr} {c2 : Nat} (l2 : x.f2.length ≤ c2) (g2 : (Kd.int .i64).C w A2 x.f2.length x.f2) {A3 : Option Addr} {c3 : Nat} (l3 : x.f3.length ≤ c3) (g3 : (Kd.int .i64).C w A3 x.f3.length x.f3) : Bj7.K w x [.slice A0 x.f0.f0.length c0, .slice A1 x.f1.length c1, .slice A2 x.f2.length c2, .slice A3 x.f3.length c3, .map (some x.f4.toNat)] := ⟨[.slice A0 x.f0.f0.length c0], [.slice A1 x.f1.length c1, .slice A2 x.f2.length c2, .slice A3 x.f3.length c3, .map (some x.f4.toNat)], rfl, (k36_mk w x.f0 l0 g0), ⟨[.slice A1 x.f1.length c1], [.slice A2 x.f2.length c2, .slice A3 x.f3.length c3, .map (some x.f4.toNat)], rfl, ⟨A1, c1, rfl, l1, g1⟩, ⟨[.slice A2 x.f2.length c2], [.slice A3 x.f3.length c3, .map (some x.f4.toNat)], rfl, ⟨A2, c2, rfl, l2, g2⟩, ⟨[.slice A3 x.f3.length c3], [.map (some x.f4.toNat)], rfl, ⟨A3, c3, rfl, l3, g3⟩, rfl⟩⟩⟩⟩
def Ac1 (xs : List S114) (i : Int) : S114 := xs.getD i.toNat z114
theorem Av9 {w : World} {A : Option Addr} {n : Nat} {xs : List S114} (h : Kd.C Bj7 w A n xs) (i : Int) (h0 : 0 ≤ i) (h1 : i < n) : ∃ ad A0 c0 A1 c1 A2 c2 A3 c3, A = some ad ∧ w.cell? (ad.add (i.toNat * 5)) = some (.slice A0 (Ac1 xs i).f0.f0.length c0) ∧ w.cell? ⟨(ad.add (i.toNat * 5)).block, (ad.add (i.toNat * 5)).off + 1, none⟩ = some (.slice A1 (Ac1 xs i).f1.length c1) ∧ w.cell? ⟨(ad.add (i.toNat * 5)).block, (ad.add (i.toNat * 5)).off + 2, none⟩ = some (.slice A2 (Ac1 xs i).f2.length c2) ∧ w.cell? ⟨(ad.add (i.toNat * 5)).block, (ad.add (i.toNat * 5)).off + 3, none⟩ = some (.slice A3 (Ac1 xs i).f3.length c3) ∧ w.cell? ⟨(ad.add (i.toNat * 5)).block, (ad.add (i.toNat * 5)).off + 4, none⟩ = some (.map (some (Ac1 xs i).f4.toNat)) ∧ (Ac1 xs i).f0.f0.length ≤ c0 ∧ k79.C w A0 (Ac1 xs i).f0.f0.length (Ac1 xs i).f0.f0 ∧ (Ac1 xs i).f1.length ≤ c1 ∧ (Kd.int .i64).C w A1 (Ac1 xs i).f1.length (Ac1 xs i).f1 ∧ (Ac1 xs i).f2.length ≤ c2 ∧ (Kd.int .i64).C w A2 (Ac1 xs i).f2.length (Ac1 xs i).f2 ∧ (Ac1 xs i).f3.length ≤ c3 ∧ (Kd.int .i64).C w A3 (Ac1 xs i).f3.length (Ac1 xs i).f3 := by
 obtain ⟨ad, c, e, _, hK, hc0⟩ := Kd.C_get h z114 i h0 h1
 have hc : ∀ j u, c[j]? = some u → w.cell? (ad.add (i.toNat * 5 + j)) = some u := hc0
 obtain ⟨A0, c0, A1, c1, A2, c2, A3, c3, rfl, l0, g0, l1, g1, l2, g2, l3, g3⟩ := k114_open hK
 exact ⟨ad, A0, c0, A1, c1, A2, c2, A3, c3, e, hc 0 _ rfl, by rw [← Aw9 _ _ 1 (by omega)]; exact hc 1 _ rfl, by rw [← Aw9 _ _ 2 (by omega)]; exact hc 2 _ rfl, by rw [← Aw9 _ _ 3 (by omega)]; exact hc 3 _ rfl, by rw [← Aw9 _ _ 4 (by omega)]; exact hc 4 _ rfl, l0, g0, l1, g1, l2, g2, l3, g3⟩
theorem k9_box {w : World} {g : Nat} {f0 : ByteArray} (hb : w.heap[g]? = some (.cells #[.string f0] 9 (0, 0))) : Kd.C Kd.string w (some ⟨g, 0, none⟩) 1 [f0] := by
 refine ⟨rfl, by omega, fun _ => ⟨_, rfl, fun j p hj => ?_⟩⟩
 have hj0 : j = 0 := by have := (List.getElem?_eq_some_iff.1 hj).1; simp at this; omega
 subst hj0
 obtain rfl : f0 = p := by simpa using hj
 refine ⟨[.string f0], rfl, rfl, fun q u hu => ?_⟩
 rw [Nat.zero_mul, Nat.zero_add, At7]
 exact (Ad1 hb q).trans (by simpa using hu)
theorem k30_box {w : World} {g : Nat} {f0 : List Int} {f1 : List Int} {A0 : Option Addr} {c0 : Nat} {A1 : Option Addr} {c1 : Nat} (hb : w.heap[g]? = some (.cells #[.slice A0 f0.length c0, .slice A1 f1.length c1] 30 (0, 0))) (h0 : Kd.C (Kd.int .i64) w A0 f0.length f0) (hl0 : f0.length ≤ c0) (h1 : Kd.C (Kd.int .i64) w A1 f1.length f1) (hl1 : f1.length ≤ c1) : Kd.C k30 w (some ⟨g, 0, none⟩) 1 [(⟨f0, f1⟩ : S30)] := by
 refine ⟨rfl, by omega, fun _ => ⟨_, rfl, fun j p hj => ?_⟩⟩
 have hj0 : j = 0 := by have := (List.getElem?_eq_some_iff.1 hj).1; simp at this; omega
 subst hj0
 obtain rfl : (⟨f0, f1⟩ : S30) = p := by simpa using hj
 refine ⟨[.slice A0 f0.length c0, .slice A1 f1.length c1], rfl, k30_mk w _ hl0 h0 hl1 h1, fun q u hu => ?_⟩
 rw [Nat.zero_mul, Nat.zero_add, At7]
 exact (Ad1 hb q).trans (by simpa using hu)
theorem Ao2 {w : World} {g : Nat} {f0 : List (S79)} {A0 : Option Addr} {c0 : Nat} (hb : w.heap[g]? = some (.cells #[.slice A0 f0.length c0] 36 (0, 0))) (h0 : Kd.C k79 w A0 f0.length f0) (hl0 : f0.length ≤ c0) : Kd.C k36 w (some ⟨g, 0, none⟩) 1 [(⟨f0⟩ : S36)] := by
 refine ⟨rfl, by omega, fun _ => ⟨_, rfl, fun j p hj => ?_⟩⟩
 have hj0 : j = 0 := by have := (List.getElem?_eq_some_iff.1 hj).1; simp at this; omega
 subst hj0
 obtain rfl : (⟨f0⟩ : S36) = p := by simpa using hj
 refine ⟨[.slice A0 f0.length c0], rfl, k36_mk w _ hl0 h0, fun q u hu => ?_⟩
 rw [Nat.zero_mul, Nat.zero_add, At7]
 exact (Ad1 hb q).trans (by simpa using hu)
end Go.Proofs.YtgichahebemmiaaGreatDoor.P
namespace Go.Proofs.YtgichahebemmiaaGreatDoor.P
open Go.RowKit Go.Proofs.YtgichahebemmiaaGreatDoorW.PrintWords Go.Proofs.YtgichahebemmiaaGreatDoorW.PrintLast Go.Proofs.YtgichahebemmiaaGreatDoorW.PrintMore
attribute [local go_sem] Ai1 Ah9 Ak5 Ak4 Ah0 Ag9 Ai2 Ai0   -- for this text's walks alone
set_option linter.unusedVariables false
set_option linter.unusedSimpArgs false
theorem eqA54 (d : Nat) (w : World) (x0 y0 : Int) (x1 y1 : Int) :
  (Op.equalIn (d + 2) 54 (.agg #[.int .i64 x0, .int .i64 x1]) (.agg #[.int .i64 y0, .int .i64 y1])).run Tryz.prog w = .ok (x0 == y0 && (x1 == y1)) w := by
 refine eqA_of Tryz.underlying54 (by kernel_rfl) ?_
 refine eqf_cons (by rfl) (by go_simp; rfl) (by go_simp; rfl) (by go_simp) ?_
 exact eqf_last (by rfl) (by go_simp; rfl) (by go_simp; rfl) (by go_simp)
attribute [local go_sem] Ai1 Ah9 Ak5 Ak4 Ah0 Ag9 Ai2 Ai0   -- for this text's walks alone
set_option linter.unusedVariables false
set_option linter.unusedSimpArgs false
def Au9.f (l0 : List Int) : Option (Bool) := some (decide ((l0.length : Int) > 1048576))
theorem Au9.calls (A0 : Option Addr) (c0 : Nat) (l0 : List Int) (r : Bool) (w : World) (a0 : Kd.C (Kd.int .u8) w A0 l0.length l0) (a1 : l0.length ≤ c0) (h : Au9.f l0 = some r) :
  Calls Tryz.prog 21 #[.slice A0 l0.length c0] w fun e w' => e = .returned (.bool r) ∧ Drawn0 w w' := by
 have a2 := am a0
 have a3 := am a1
 clear a0 a1
 have H : (some (decide ((l0.length : Int) > 1048576))) = some r := h
 clear h
 obtain rfl := Option.some.inj H
 go_enter Tryz.func21, Tryz.ntmps21
 go_wp2
 go_ret
 exact ⟨et, dn⟩
def Aa0 (w0 W : World) (g : Nat) (f0 : List Int) (f1 : Int) : Prop := ∃ A0 c0, W.heap[g]? = some (.cells #[.slice A0 f0.length c0, .int .i64 f1] 117 (0, 0)) ∧ w0.heap.size ≤ g ∧ Kd.C (Kd.int .u8) w0 A0 f0.length f0
theorem Aa0.grown {w0 W : World} {g : Nat} {f0 : List Int} {f1 : Int} {W1 : World} {row : Option Nat} (h : Aa0 w0 W g f0 f1) (hw : W.grownBy W1 row) (hne : some g ≠ row) : Aa0 w0 W1 g f0 f1 := by
 obtain ⟨A0, c0, hb, hg, a0⟩ := h
 exact ⟨A0, c0, Am6 hb hw hne, hg, a0⟩
theorem Aa0.kept {w0 W : World} {g : Nat} {f0 : List Int} {f1 : Int} {W1 : World} {S : Nat → Prop} (h : Aa0 w0 W g f0 f1) (hk : Az9 W W1 S) (hne : ¬ S g) : Aa0 w0 W1 g f0 f1 := by
 obtain ⟨A0, c0, hb, hg, a0⟩ := h
 exact ⟨A0, c0, blk_kept hb hk hne, hg, a0⟩
theorem Aa0.below {w0 W : World} {g : Nat} {f0 : List Int} {f1 : Int} {W1 : World} (h : Aa0 w0 W g f0 f1) (hw : Below W.heap.size W W1) : Aa0 w0 W1 g f0 f1 := h.grown (grown_of_below hw none) (by simp)
theorem Aa0.alloc {w0 W : World} {g : Nat} {f0 : List Int} {f1 : Int} (h : Aa0 w0 W g f0 f1) (o : Obj) : Aa0 w0 (W.alloc o) g f0 f1 := h.below (Ah3 (Below.refl _ _) o)
theorem Aa0.drewN {w0 W : World} {g : Nat} {f0 : List Int} {f1 : Int} (h : Aa0 w0 W g f0 f1) (m : Nat) : Aa0 w0 (W.drewN m) g f0 f1 := h
theorem Aa0.drew {w0 W : World} {g : Nat} {f0 : List Int} {f1 : Int} (h : Aa0 w0 W g f0 f1) : Aa0 w0 W.drew g f0 f1 := h
theorem Aa0.at_ {w0 W : World} {g : Nat} {f0 : List Int} {f1 : Int} {w' : World} {m : Nat} (hq : W.drewN m = w') (h : Aa0 w0 W g f0 f1) : Aa0 w0 w' g f0 f1 := by subst hq; exact Aa0.drewN h m
theorem Aa0.apart {w0 W : World} {g : Nat} {f0 : List Int} {f1 : Int} {α : Type} {d : Kd α} {e : Nat} {base : Nat} {ok : Nat → Prop} {v : Value} {xs : List α} (h : Aa0 w0 W g f0 f1) (ho : d.R e W base ok v xs) (ht : ∀ q, q ∈ e :: d.E → q ≠ 117) : d.R e W base (fun k => ok k ∧ k ≠ g) v xs := by
 obtain ⟨A0, c0, hb, hg, a0⟩ := h
 exact Kd.R_types ho hb ht
theorem Aa0.own_ne {w0 W : World} {g : Nat} {f0 : List Int} {f1 : Int} {α : Type} {d : Kd α} {e : Nat} {base : Nat} {ok : Nat → Prop} {v : Value} {xs : List α} (h : Aa0 w0 W g f0 f1) (ho : d.R e W base ok v xs) (ht : e ≠ 117) : some g ≠ v.ownBlock := by
 obtain ⟨A0, c0, hb, hg, a0⟩ := h
 exact Kd.R_ne ho hb ht
theorem Aa0.apartQ {w0 W : World} {g : Nat} {f0 : List Int} {f1 : Int} {α : Type} {d : Kd α} {e : Nat} {base : Nat} {ok : Nat → Prop} {v : Value} {xs : List α} (h : Aa0 w0 W g f0 f1) (ho : d.Q e W base ok v xs) (ht : ∀ q, q ∈ e :: d.E → q ≠ 117) : d.Q e W base (fun k => ok k ∧ k ≠ g) v xs := by
 obtain ⟨A0, c0, hb, hg, a0⟩ := h
 exact Kd.Q_types ho hb ht
theorem Aa0.lt {w0 W : World} {g : Nat} {f0 : List Int} {f1 : Int} (h : Aa0 w0 W g f0 f1) : g < W.heap.size := by
 obtain ⟨A0, c0, hb, hg, a0⟩ := h
 exact Aj7 hb
theorem Aa0.ge {w0 W : World} {g : Nat} {f0 : List Int} {f1 : Int} (h : Aa0 w0 W g f0 f1) : w0.heap.size ≤ g := by
 obtain ⟨A0, c0, hb, hg, a0⟩ := h
 exact hg
theorem Aa0.ne_blk {w0 W : World} {g : Nat} {f0 : List Int} {f1 : Int} {a : Nat} {cs : Array Value} {t : TypeId} {fr : Nat × Nat} (h : Aa0 w0 W g f0 f1) (a0 : W.heap[a]? = some (.cells cs t fr)) (ht : t ≠ 117) : g ≠ a := by
 obtain ⟨A0, c0, hb, hg, a2⟩ := h
 rintro rfl
 rw [hb] at a0
 injection a0 with a0
 injection a0 with _ a1
 exact ht a1.symm
theorem Aa0.far {w0 W : World} {g : Nat} {f0 : List Int} {f1 : Int} {p : Addr} (h : Aa0 w0 W g f0 f1) (hne : g ≠ p.block) (u : Value) : Aa0 w0 (W.setCell p u) g f0 f1 := by
 obtain ⟨A0, c0, hb, hg, a0⟩ := h
 exact ⟨A0, c0, Aq1 hb hne u, hg, a0⟩
theorem Az7 {W : World} {g : Nat} {A0 : Option Addr} {c0 : Nat} {f0 : List Int} {f1 : Int} (h : W.heap[g]? = some (.cells #[.slice A0 f0.length c0, .int .i64 f1] 117 (0, 0))) : W.cell? ⟨g, 0, none⟩ = some (.slice A0 f0.length c0) := (Ad1 h 0).trans rfl
theorem Az3 {W : World} {g : Nat} {A0 : Option Addr} {c0 : Nat} {f0 : List Int} {f1 : Int} (h : W.heap[g]? = some (.cells #[.slice A0 f0.length c0, .int .i64 f1] 117 (0, 0))) : W.cell? ⟨g, 1, none⟩ = some (.int .i64 f1) := (Ad1 h 1).trans rfl
theorem Aa0.set_1 {w0 W : World} {g : Nat} {f0 : List Int} {f1 : Int} (h : Aa0 w0 W g f0 f1) (x : Int) : Aa0 w0 (W.setCell ⟨g, 1, none⟩ (.int .i64 x)) g f0 x := by
 obtain ⟨A0, c0, hb, hg, a0⟩ := h
 exact ⟨A0, c0, by simpa using Bi3 hb 1 (.int .i64 x), hg, a0⟩
theorem Aa0.q {w0 W W' : World} {g : Nat} {f0 f0' : List Int} {f1 f1' : Int} (H : Aa0 w0 W' g f0' f1') (h : Aa0 w0 W' g f0' f1' → Aa0 w0 W g f0 f1 := by intro h; repeat (with_reducible first | exact h | apply Aa0.alloc | apply Aa0.drewN | apply Aa0.drew | apply Aa0.set_1 | refine Aa0.far ?_ (Aside0.out (by assumption)) _)) : Aa0 w0 W g f0 f1 := h H
theorem Aa0.rk {w0 w W W' W2 : World} {g : Nat} {f0 f0' : List Int} {f1 f1' : Int} {α : Type} {d : Kd α} {e base : Nat} {ok : Nat → Prop} {v : Value} {xs : List α} (H : Aside0 (Aa0 w0 W' g f0' f1')) (ho : Aside0 (d.R e W2 base ok v xs)) (hk : Ab7 w W g none) (ht : ∀ q, q ∈ e :: d.E → q ≠ 117 := by decide) (h1 : Aa0 w0 W' g f0' f1' → Aa0 w0 w g f0 f1 := by intro h; repeat (with_reducible first | exact h | apply Aa0.alloc | apply Aa0.drewN | apply Aa0.drew | apply Aa0.set_1 | refine Aa0.far ?_ (Aside0.out (by assumption)) _)) (h2 : d.R e W2 base ok v xs → d.R e w base ok v xs := by intro h; (with_reducible repeat (first | apply Kd.R_alloc | apply Kd.R_drewN | apply Kd.R_drew)); exact h) : Aside0 (d.R e W base ok v xs) := ⟨Kd.R_mono (Kd.R_keep (Aa0.apart (h1 H.out) (h2 ho.out) ht) hk (fun _ h => h.2)) (fun _ h => h.1)⟩
theorem Aa0.qk {w0 w W W' W2 : World} {g : Nat} {f0 f0' : List Int} {f1 f1' : Int} {α : Type} {d : Kd α} {e base : Nat} {ok : Nat → Prop} {v : Value} {xs : List α} (H : Aside0 (Aa0 w0 W' g f0' f1')) (ho : Aside0 (d.Q e W2 base ok v xs)) (hk : Ab7 w W g none) (ht : ∀ q, q ∈ e :: d.E → q ≠ 117 := by decide) (h1 : Aa0 w0 W' g f0' f1' → Aa0 w0 w g f0 f1 := by intro h; repeat (with_reducible first | exact h | apply Aa0.alloc | apply Aa0.drewN | apply Aa0.drew | apply Aa0.set_1 | refine Aa0.far ?_ (Aside0.out (by assumption)) _)) (h2 : d.Q e W2 base ok v xs → d.Q e w base ok v xs := by intro h; (with_reducible repeat (first | apply Kd.Q_alloc | apply Kd.Q_drewN | apply Kd.Q_drew)); exact h) : Aside0 (d.Q e W base ok v xs) := ⟨Kd.Q_mono (Kd.Q_keep (Aa0.apartQ (h1 H.out) (h2 ho.out) ht) hk (fun _ h => h.2)) (fun _ h => h.1)⟩
theorem Aa0.bl {w0 w W W' : World} {g : Nat} {f0 f0' : List Int} {f1 f1' : Int} (H : Aside0 (Aa0 w0 W' g f0' f1')) (hb : Below w.heap.size w W) (h1 : Aa0 w0 W' g f0' f1' → Aa0 w0 w g f0 f1 := by intro h; repeat (with_reducible first | exact h | apply Aa0.alloc | apply Aa0.drewN | apply Aa0.drew | apply Aa0.set_1 | refine Aa0.far ?_ (Aside0.out (by assumption)) _)) : Aside0 (Aa0 w0 W g f0 f1) := ⟨Aa0.below (h1 H.out) hb⟩
def Aq9.f (l0 : List Int) : Option (List Int × Int) := some (l0, 0)
theorem Aq9.calls (A0 : Option Addr) (c0 : Nat) (l0 : List Int) (r1 : List Int) (r2 : Int) (w0 w : World) (hB : Below w0.heap.size w0 w) (a4 : Kd.C (Kd.int .u8) w0 A0 l0.length l0) (a5 : l0.length ≤ c0) (h : Aq9.f l0 = some (r1, r2)) :
  Calls Tryz.prog 67 #[.slice A0 l0.length c0] w fun e w' => ∃ g_ : Nat, e = .returned (.pointer (some ⟨g_, 0, none⟩)) ∧ Aa0 w0 w' g_ r1 r2 ∧ Below w0.heap.size w0 w' ∧ Below w.heap.size w w' ∧ w.heap.size ≤ g_ := by
 have a6 := Tryz.underlying117
 have a7 := am a4
 have a9 := am a5
 clear a4 a5
 have HBW := am (Below.refl w.heap.size w)
 have a8 := am hB.size
 have HB := am hB
 clear hB
 have H : (some (l0, 0)) = some (r1, r2) := h
 clear h
 simp only [Option.some.injEq, Prod.mk.injEq] at H
 obtain ⟨rfl, rfl⟩ := H
 go_enter Tryz.func67, Tryz.ntmps67
 go_wp2_with (first | (refine bx 5 rfl #[.slice A0 l0.length c0, .int .i64 0] 117 ?_; intro a0 hg w2 hbox hb; replace HB := sb HB hb; have a1 := am (hbox); have a2 := am (bz hg (hq HBW.out)); have a3 := am ((Nat.le_trans a8.out (by rw [hg]; exact (Ac5 (hq HBW.out)) : w.heap.size ≤ a0) : w0.heap.size ≤ a0)); replace HBW := am (Ad9 HBW.out hb); clear hb hbox hg))
 go_ret
 exact ⟨_, rfl, (show Aa0 w0 _ a0 l0 0 from ⟨_, _, bq a1.out, a3.out, a7.out⟩), hs HB.out, hs HBW.out, a2.out⟩
def Ad7.f (a0 : List Int) (a2 : Int) (a1 : Int) : Option (Int × Int) := if a1 < 1 then (some (0, wrap64 (a2 + 1))) else (if (a0.length : Int) = 0 then (if a1 = 0 then (none) else (some (Int.tmod (wrap64 ((wrap64 ((wrap64 (a2 + 1)) - 1)) * 7)) a1, wrap64 (a2 + 1)))) else (if 0 ≤ (Int.tmod (wrap64 ((wrap64 (a2 + 1)) - 1)) (a0.length : Int)) then (if (Int.tmod (wrap64 ((wrap64 (a2 + 1)) - 1)) (a0.length : Int)) < (a0.length : Int) then (if a1 > 200 then (if 0 ≤ (Int.tmod (wrap64 ((wrap64 ((wrap64 (a2 + 1)) - 1)) + 1)) (a0.length : Int)) then (if (Int.tmod (wrap64 ((wrap64 ((wrap64 (a2 + 1)) - 1)) + 1)) (a0.length : Int)) < (a0.length : Int) then (if a1 = 0 then (none) else (some (Int.tmod (wrap64 ((wrap64 ((wrap64 ((wrap64 ((wrap64 (rd a0 (Int.tmod (wrap64 ((wrap64 (a2 + 1)) - 1)) (a0.length : Int)))) + (wrap64 ((wrap64 (Int.tdiv (wrap64 ((wrap64 (a2 + 1)) - 1)) (a0.length : Int))) * 37)))) * 251)) + (wrap64 ((wrap64 (rd a0 (Int.tmod (wrap64 ((wrap64 ((wrap64 (a2 + 1)) - 1)) + 1)) (a0.length : Int)))) * 13)))) + (wrap64 ((wrap64 (a2 + 1)) - 1)))) a1, wrap64 (a2 + 1)))) else (none)) else (none)) else (if a1 = 0 then (none) else (some (Int.tmod (wrap64 ((wrap64 (rd a0 (Int.tmod (wrap64 ((wrap64 (a2 + 1)) - 1)) (a0.length : Int)))) + (wrap64 ((wrap64 (Int.tdiv (wrap64 ((wrap64 (a2 + 1)) - 1)) (a0.length : Int))) * 37)))) a1, wrap64 (a2 + 1))))) else (none)) else (none)))
theorem Ad7.calls (g : Nat) (a0 : List Int) (a2 : Int) (a1 : Int) (r1 : Int) (r2 : Int) (w0 w : World) (hI : Aa0 w0 w g a0 a2) (hB : Below w0.heap.size w0 w) (h : Ad7.f a0 a2 a1 = some (r1, r2)) :
  Calls Tryz.prog 75 #[.pointer (some ⟨g, 0, none⟩), .int .i64 a1] w fun e w' => e = .returned (.int .i64 r1) ∧ Aa0 w0 w' g a0 r2 ∧ Below w0.heap.size w0 w' ∧ Ab7 w w' g none := by
 have a8 := am hI
 have HK := am (Ab7.refl w g none)
 have HL := am hB.size
 clear hI
 have j7 := am hB.size
 have HB := am hB
 clear hB
 have H : (if a1 < 1 then (some (0, wrap64 (a2 + 1))) else (if (a0.length : Int) = 0 then (if a1 = 0 then (none) else (some (Int.tmod (wrap64 ((wrap64 ((wrap64 (a2 + 1)) - 1)) * 7)) a1, wrap64 (a2 + 1)))) else (if 0 ≤ (Int.tmod (wrap64 ((wrap64 (a2 + 1)) - 1)) (a0.length : Int)) then (if (Int.tmod (wrap64 ((wrap64 (a2 + 1)) - 1)) (a0.length : Int)) < (a0.length : Int) then (if a1 > 200 then (if 0 ≤ (Int.tmod (wrap64 ((wrap64 ((wrap64 (a2 + 1)) - 1)) + 1)) (a0.length : Int)) then (if (Int.tmod (wrap64 ((wrap64 ((wrap64 (a2 + 1)) - 1)) + 1)) (a0.length : Int)) < (a0.length : Int) then (if a1 = 0 then (none) else (some (Int.tmod (wrap64 ((wrap64 ((wrap64 ((wrap64 ((wrap64 (rd a0 (Int.tmod (wrap64 ((wrap64 (a2 + 1)) - 1)) (a0.length : Int)))) + (wrap64 ((wrap64 (Int.tdiv (wrap64 ((wrap64 (a2 + 1)) - 1)) (a0.length : Int))) * 37)))) * 251)) + (wrap64 ((wrap64 (rd a0 (Int.tmod (wrap64 ((wrap64 ((wrap64 (a2 + 1)) - 1)) + 1)) (a0.length : Int)))) * 13)))) + (wrap64 ((wrap64 (a2 + 1)) - 1)))) a1, wrap64 (a2 + 1)))) else (none)) else (none)) else (if a1 = 0 then (none) else (some (Int.tmod (wrap64 ((wrap64 (rd a0 (Int.tmod (wrap64 ((wrap64 (a2 + 1)) - 1)) (a0.length : Int)))) + (wrap64 ((wrap64 (Int.tdiv (wrap64 ((wrap64 (a2 + 1)) - 1)) (a0.length : Int))) * 37)))) a1, wrap64 (a2 + 1))))) else (none)) else (none)))) = some (r1, r2) := h
 clear h
 by_cases c3 : a1 < 1
 ·rw [if_pos c3] at H
  have e9 := decide_eq_true c3
  clear c3
  simp only [Option.some.injEq, Prod.mk.injEq] at H
  obtain ⟨rfl, rfl⟩ := H
  obtain ⟨g0, g1, b7, g2, g3⟩ := a8.out
  have g4 := Az7 b7
  have g5 := Az3 b7
  have g6 := Aa2 b7 1
  clear b7 g2
  go_enter Tryz.func75, Tryz.ntmps75
  go_wp2
  repeat (go_quiet (fail); try go_wp2)
  go_ret
  exact ⟨er, Aa0.q a8.out, hsk HB.out (Aa0.ge a8.out), kq HK.out⟩
 ·rw [if_neg c3] at H
  have e9 := decide_eq_false c3
  clear c3
  by_cases c5 : (a0.length : Int) = 0
  ·rw [if_pos c5] at H
   obtain ⟨g7, g8⟩ := bqt c5; clear c5
   by_cases c6 : a1 = 0
   ·rw [if_pos c6] at H
    exact absurd H (by simp)
   ·rw [if_neg c6] at H
    obtain ⟨i7, i9⟩ := bqf c6
    simp only [Option.some.injEq, Prod.mk.injEq] at H
    obtain ⟨rfl, rfl⟩ := H
    obtain ⟨g9, h0, b8, h2, h3⟩ := a8.out
    have h4 := Az7 b8
    have h5 := Az3 b8
    have h6 := Aa2 b8 1
    clear b8 h2
    go_enter Tryz.func75, Tryz.ntmps75
    go_wp2
    repeat (go_quiet (fail); try go_wp2)
    go_ret
    exact ⟨er, Aa0.q a8.out, hsk HB.out (Aa0.ge a8.out), kq HK.out⟩
  ·rw [if_neg c5] at H
   obtain ⟨g7, g8⟩ := bqf c5
   have j5 : ¬ (a0 = []) := fun h_ => c5 (by rw [h_]; rfl)
   obtain ⟨b5, b9⟩ : ∃ j_ : Int, (Int.tmod (wrap64 ((wrap64 (a2 + 1)) - 1)) (a0.length : Int)) = j_ := ⟨_, rfl⟩
   replace H : (if 0 ≤ (b5) then (if (b5) < (a0.length : Int) then (if a1 > 200 then (if 0 ≤ (Int.tmod (wrap64 ((wrap64 ((wrap64 (a2 + 1)) - 1)) + 1)) (a0.length : Int)) then (if (Int.tmod (wrap64 ((wrap64 ((wrap64 (a2 + 1)) - 1)) + 1)) (a0.length : Int)) < (a0.length : Int) then (if a1 = 0 then (none) else (some (Int.tmod (wrap64 ((wrap64 ((wrap64 ((wrap64 ((wrap64 (rd a0 (b5))) + (wrap64 ((wrap64 (Int.tdiv (wrap64 ((wrap64 (a2 + 1)) - 1)) (a0.length : Int))) * 37)))) * 251)) + (wrap64 ((wrap64 (rd a0 (Int.tmod (wrap64 ((wrap64 ((wrap64 (a2 + 1)) - 1)) + 1)) (a0.length : Int)))) * 13)))) + (wrap64 ((wrap64 (a2 + 1)) - 1)))) a1, wrap64 (a2 + 1)))) else (none)) else (none)) else (if a1 = 0 then (none) else (some (Int.tmod (wrap64 ((wrap64 (rd a0 (b5))) + (wrap64 ((wrap64 (Int.tdiv (wrap64 ((wrap64 (a2 + 1)) - 1)) (a0.length : Int))) * 37)))) a1, wrap64 (a2 + 1))))) else (none)) else (none)) = some (r1, r2) := by first | (rw [b9] at H; exact H) | (simp only [b9] at H ⊢; exact H)
   obtain ⟨j6, H⟩ := ife H
   obtain ⟨i0, H⟩ := ife H
   by_cases d3 : a1 > 200
   ·rw [if_pos d3] at H
    have d4 := decide_eq_true d3
    clear d3
    obtain ⟨b4, b6⟩ : ∃ j_ : Int, (Int.tmod (wrap64 ((wrap64 ((wrap64 (a2 + 1)) - 1)) + 1)) (a0.length : Int)) = j_ := ⟨_, rfl⟩
    replace H : (if 0 ≤ (b4) then (if (b4) < (a0.length : Int) then (if a1 = 0 then (none) else (some (Int.tmod (wrap64 ((wrap64 ((wrap64 ((wrap64 ((wrap64 (rd a0 (b5))) + (wrap64 ((wrap64 (Int.tdiv (wrap64 ((wrap64 (a2 + 1)) - 1)) (a0.length : Int))) * 37)))) * 251)) + (wrap64 ((wrap64 (rd a0 (b4))) * 13)))) + (wrap64 ((wrap64 (a2 + 1)) - 1)))) a1, wrap64 (a2 + 1)))) else (none)) else (none)) = some (r1, r2) := by first | (rw [b6] at H; exact H) | (simp only [b6] at H ⊢; exact H)
    obtain ⟨i1, H⟩ := ife H
    obtain ⟨i2, H⟩ := ife H
    by_cases h7 : a1 = 0
    ·rw [if_pos h7] at H
     exact absurd H (by simp)
    ·rw [if_neg h7] at H
     obtain ⟨i3, i4⟩ := bqf h7
     simp only [Option.some.injEq, Prod.mk.injEq] at H
     obtain ⟨rfl, rfl⟩ := H
     obtain ⟨d8, d9, b1, d5, b2⟩ := a8.out
     have e0 := Az7 b1
     have e1 := Az3 b1
     have e2 := Aa2 b1 1
     clear b1 d5
     have a9 : 0 ≤ ((b5) : Int) := od
     have b0 : (b5) < (a0.length : Int) := od
     obtain ⟨a7, d0, a3⟩ := Kd.at_int b2 (b5) a9 b0
     cases d0
     have a4 : a7.block ≠ g := Nat.ne_of_lt (Nat.lt_of_lt_of_le (by have := World.block_lt_of_cell? _ _ a3; first | rwa [Ag3] at this | exact this) (Aa0.ge a8.out))
     replace a3 := Ar1 HB.out a3
     replace a3 := (Ai9 (p := ⟨g, 1, none⟩) (by first | (rw [Ag3]; exact a4) | (show (Addr.add _ _).block ≠ _; rw [Ag3]; exact a4) | exact a4) (.int .i64 (wrap64 (a2 + 1)))).trans a3
     (try have c0 := fun (n_ : Nat) => (show (((w.drewN n_).setCell ⟨g, 1, none⟩ (.int .i64 (wrap64 (a2 + 1))))).cell? _ = some _ from a3))
     clear a4
     obtain ⟨a9, b0⟩ := ee a9 b0
     have d1 : 0 ≤ ((b4) : Int) := od
     have d2 : (b4) < (a0.length : Int) := od
     obtain ⟨d6, h8, a5⟩ := Kd.at_int b2 (b4) d1 d2
     obtain rfl : a7 = d6 := (by injection h8)
     have a6 : a7.block ≠ g := Nat.ne_of_lt (Nat.lt_of_lt_of_le (by have := World.block_lt_of_cell? _ _ a5; first | rwa [Ag3] at this | exact this) (Aa0.ge a8.out))
     replace a5 := Ar1 HB.out a5
     replace a5 := (Ai9 (p := ⟨g, 1, none⟩) (by first | (rw [Ag3]; exact a6) | (show (Addr.add _ _).block ≠ _; rw [Ag3]; exact a6) | exact a6) (.int .i64 (wrap64 (a2 + 1)))).trans a5
     (try have e3 := fun (n_ : Nat) => (show (((w.drewN n_).setCell ⟨g, 1, none⟩ (.int .i64 (wrap64 (a2 + 1))))).cell? _ = some _ from a5))
     clear a6
     obtain ⟨d1, d2⟩ := ee d1 d2
     go_enter Tryz.func75, Tryz.ntmps75
     go_wp2
     repeat (go_quiet (fail); try go_wp2)
     go_ret
     exact ⟨by first | rfl | (simp [Ag8, Ag7] <;> rfl) | (simp only [← b9, ← b6]; first | rfl | (simp [Ag8, Ag7] <;> rfl)) | (simp [*, Ag8, Ag7] <;> rfl), Aa0.q a8.out, hsk HB.out (Aa0.ge a8.out), kq HK.out⟩
   ·rw [if_neg d3] at H
    have d4 := decide_eq_false d3
    clear d3
    by_cases h9 : a1 = 0
    ·rw [if_pos h9] at H
     exact absurd H (by simp)
    ·rw [if_neg h9] at H
     obtain ⟨i5, i6⟩ := bqf h9
     simp only [Option.some.injEq, Prod.mk.injEq] at H
     obtain ⟨rfl, rfl⟩ := H
     obtain ⟨e4, e5, b3, d7, c1⟩ := a8.out
     have e6 := Az7 b3
     have e7 := Az3 b3
     have e8 := Aa2 b3 1
     clear b3 d7
     have a9 : 0 ≤ ((b5) : Int) := od
     have b0 : (b5) < (a0.length : Int) := od
     obtain ⟨a7, d0, a3⟩ := Kd.at_int c1 (b5) a9 b0
     cases d0
     have a4 : a7.block ≠ g := Nat.ne_of_lt (Nat.lt_of_lt_of_le (by have := World.block_lt_of_cell? _ _ a3; first | rwa [Ag3] at this | exact this) (Aa0.ge a8.out))
     replace a3 := Ar1 HB.out a3
     replace a3 := (Ai9 (p := ⟨g, 1, none⟩) (by first | (rw [Ag3]; exact a4) | (show (Addr.add _ _).block ≠ _; rw [Ag3]; exact a4) | exact a4) (.int .i64 (wrap64 (a2 + 1)))).trans a3
     (try have c0 := fun (n_ : Nat) => (show (((w.drewN n_).setCell ⟨g, 1, none⟩ (.int .i64 (wrap64 (a2 + 1))))).cell? _ = some _ from a3))
     clear a4
     obtain ⟨a9, b0⟩ := ee a9 b0
     go_enter Tryz.func75, Tryz.ntmps75
     go_wp2
     repeat (go_quiet (fail); try go_wp2)
     go_ret
     exact ⟨by first | rfl | (simp [Ag8, Ag7] <;> rfl) | (simp only [← b9]; first | rfl | (simp [Ag8, Ag7] <;> rfl)) | (simp [*, Ag8, Ag7] <;> rfl), Aa0.q a8.out, hsk HB.out (Aa0.ge a8.out), kq HK.out⟩
def Ae1.f (a2 : List Int) (a3 : Int) (a1 : Int) : Option (Bool × Int) := (Ad7.f a2 a3 a1).bind fun a0 => (some ((a0.1 == 0), a0.2))
theorem Ae1.calls (g : Nat) (a0 : List Int) (a2 : Int) (a1 : Int) (r1 : Bool) (r2 : Int) (w0 w : World) (hI : Aa0 w0 w g a0 a2) (hB : Below w0.heap.size w0 w) (h : Ae1.f a0 a2 a1 = some (r1, r2)) :
  Calls Tryz.prog 70 #[.pointer (some ⟨g, 0, none⟩), .int .i64 a1] w fun e w' => e = .returned (.bool r1) ∧ Aa0 w0 w' g a0 r2 ∧ Below w0.heap.size w0 w' ∧ Ab7 w w' g none := by
 have a4 := am hI
 have HK := am (Ab7.refl w g none)
 have HL := am hB.size
 clear hI
 have a7 := am hB.size
 have HB := am hB
 clear hB
 have H : ((Ad7.f a0 a2 a1).bind fun a3 => (some ((a3.1 == 0), a3.2))) = some (r1, r2) := h
 clear h
 obtain ⟨⟨a5, a6⟩, A3, H⟩ := ob H
 try dsimp only at H
 simp only [Option.some.injEq, Prod.mk.injEq] at H
 obtain ⟨rfl, rfl⟩ := H
 go_enter Tryz.func70, Tryz.ntmps70
 go_wp2_with (first | (refine gl (some 7) Tryz.func75 rfl #[.pointer (some ⟨g, 0, none⟩), .int .i64 a1] ?_; refine (Ad7.calls g a0 a2 a1 a5 a6 w0 _ (Aa0.q a4.out) (hsk HB.out (Aa0.ge a4.out)) A3.out).mono ?_; rintro e w4 ⟨rfl, hi, hb, hk⟩; refine ⟨_, rfl, ?_⟩; replace HK := kt HK hk; replace HB := am (hb); replace a4 := am (hi); clear hb hk hi))
 go_ret
 exact ⟨er, Aa0.q a4.out, hsk HB.out (Aa0.ge a4.out), kq HK.out⟩
attribute [local go_sem] Ai1 Ah9 Ak5 Ak4 Ah0 Ag9 Ai2 Ai0   -- for this text's walks alone
set_option linter.unusedVariables false
set_option linter.unusedSimpArgs false
mutual
def Ag4.j0 : Nat → ByteArray → Bool → Option (Bool)
 | 0, _, _ => none
 | k + 1, x0, a0 => if a0 = true then (some false) else (Ag4.l0 k x0 0)
def Ag4.l0 : Nat → ByteArray → Int → Option (Bool)
 | 0, _, _ => none
 | k + 1, x0, x3 => if x3 < (x0.size : Int) then (if 0 ≤ x3 then (if (bt x0 x3) < 97 then (some false) else (if (bt x0 x3) > 122 then (some false) else (Ag4.l0 k x0 (wrap64 (x3 + 1))))) else (none)) else (some true)
end
def Ag4.f (k : Nat) (a0 : ByteArray) : Option (Bool) := if (a0.size : Int) < 1 then (Ag4.j0 k a0 true) else (Ag4.j0 k a0 (decide ((a0.size : Int) > 3)))
theorem Ag4.calls (k : Nat) (a0 : ByteArray) (r : Bool) (w : World) (h : Ag4.f k a0 = some r) :
  Calls Tryz.prog 76 #[.string a0] w fun e w' => e = .returned (.bool r) ∧ Drawn0 w w' := by
 have H : (if (a0.size : Int) < 1 then (Ag4.j0 k a0 true) else (Ag4.j0 k a0 (decide ((a0.size : Int) > 3)))) = some r := h
 clear h
 have a5 := am H
 clear H
 go_enter Tryz.func76, Tryz.ntmps76
 go_upto_region 1 with (fail)
 go_cut [11] (fun b3 wc => ∃ (kq : Nat) (a2 : Bool), b3 = .bool a2 ∧ Aside0 (Ag4.j0 kq a0 a2 = some r) ∧ Aside0 (kq ≤ k) ∧ Drawn0 w wc)
 case first =>
  have H := a5.out
  clear a5
  by_cases c3 : (a0.size : Int) < 1
  ·rw [if_pos c3] at H
   have a3 := decide_eq_true c3
   have a6 : decide (a0.size < 1) = true := decide_eq_true (by omega)
   clear c3
   (first | rw [a3] | (simp only [Ae6, Ae7]; rw [a3]) | skip)
   have H' := am H
   clear H
   go_wp2
   go_meet
   case rel => exact ⟨_, (true), et, H', lo, dn⟩
  ·rw [if_neg c3] at H
   have a3 := decide_eq_false c3
   have a6 : decide (a0.size < 1) = false := decide_eq_false (by omega)
   clear c3
   (first | rw [a3] | (simp only [Ae6, Ae7]; rw [a3]) | skip)
   have H' := am H
   clear H
   go_wp2
   go_meet
   case rel => exact ⟨_, (decide ((a0.size : Int) > 3)), et, H', lo, dn⟩
 case rest =>
  clear a5
  obtain ⟨kq, a2, rfl, HA, a9, ⟨b6, rfl⟩⟩ := hcut
  cases kq with
  | zero => exact absurd HA.out (by simp [Ag4.j0])
  | succ b0 =>
   have H := HA.out
   clear HA
   simp only [Ag4.j0] at H
   by_cases c4 : a2 = true
   ·subst c4
    rw [if_pos rfl] at H
    obtain rfl := Option.some.inj H
    go_wp2
    go_ret
    exact ⟨et, dn⟩
   ·replace c4 := Bool.eq_false_iff.mpr c4
    subst c4
    rw [if_neg (show ¬ (false = true) by decide)] at H
    have H' := am H
    clear H
    go_wp2
    go_loopg [3] b0 (fun kq v3 w' => ∃ (a1 : Int), v3 = .int .i64 a1 ∧ Aside0 (Ag4.l0 kq a0 a1 = some r) ∧ Aside0 (kq ≤ b0) ∧ Drawn0 w w')
    case atStart => exact ⟨(0), et, H', ⟨Nat.le_refl _⟩, dn⟩
    case round =>
     clear H'
     try clear c4
     obtain ⟨a1, rfl, HA, b1, ⟨m2, rfl⟩⟩ := hrel
     cases gk with
     | zero => exact absurd HA.out (by simp [Ag4.l0])
     | succ k2 =>
      have H := HA.out
      clear HA
      simp only [Ag4.l0] at H
      by_cases c5 : a1 < (a0.size : Int)
      ·rw [if_pos c5] at H
       have a7 := decide_eq_true c5
       clear c5
       obtain ⟨b4, H⟩ := ife H
       by_cases c8 : (bt a0 a1) < 97
       ·rw [if_pos c8] at H
        have a8 := decide_eq_true c8
        clear c8
        obtain rfl := Option.some.inj H
        have p7 : 0 ≤ (a1 : Int) := od
        have q7 : a1 < (a0.size : Int) := od
        have b2 := Bb7 a0 a1
        obtain ⟨p7, q7⟩ := ee p7 q7
        go_wp2
        go_ret
        exact ⟨et, dn⟩
       ·rw [if_neg c8] at H
        have a8 := decide_eq_false c8
        clear c8
        by_cases c10 : (bt a0 a1) > 122
        ·rw [if_pos c10] at H
         have a4 := decide_eq_true c10
         clear c10
         obtain rfl := Option.some.inj H
         have p7 : 0 ≤ (a1 : Int) := od
         have q7 : a1 < (a0.size : Int) := od
         have b2 := Bb7 a0 a1
         obtain ⟨p7, q7⟩ := ee p7 q7
         have p9 : 0 ≤ (a1 : Int) := od
         have q9 : a1 < (a0.size : Int) := od
         have b5 := Bb7 a0 a1
         obtain ⟨p9, q9⟩ := ee p9 q9
         go_wp2
         go_ret
         exact ⟨et, dn⟩
        ·rw [if_neg c10] at H
         have a4 := decide_eq_false c10
         clear c10
         have H' := am H
         clear H
         have p7 : 0 ≤ (a1 : Int) := od
         have q7 : a1 < (a0.size : Int) := od
         have b2 := Bb7 a0 a1
         obtain ⟨p7, q7⟩ := ee p7 q7
         have p9 : 0 ≤ (a1 : Int) := od
         have q9 : a1 < (a0.size : Int) := od
         have b5 := Bb7 a0 a1
         obtain ⟨p9, q9⟩ := ee p9 q9
         go_wp2
         go_roundg k2
         case measure => have := a9.out; have := b1.out; omega
         case rel => exact ⟨(wrap64 (a1 + 1)), et, H', ⟨by have := a9.out; have := b1.out; omega⟩, dn⟩
      ·rw [if_neg c5] at H
       have a7 := decide_eq_false c5
       clear c5
       obtain rfl := Option.some.inj H
       go_wp2
       go_ret
       exact ⟨et, dn⟩
def Am0.f (a0 : Int) (a1 : Int) (a2 : Int) : Option (Bool) := if a0 ≥ a1 then (some (decide (a0 ≤ a2))) else (some false)
theorem Am0.calls (a0 : Int) (a1 : Int) (a2 : Int) (r : Bool) (w : World) (h : Am0.f a0 a1 a2 = some r) :
  Calls Tryz.prog 77 #[.int .i64 a0, .int .i64 a1, .int .i64 a2] w fun e w' => e = .returned (.bool r) ∧ Drawn0 w w' := by
 have H : (if a0 ≥ a1 then (some (decide (a0 ≤ a2))) else (some false)) = some r := h
 clear h
 by_cases c4 : a0 ≥ a1
 ·rw [if_pos c4] at H
  have a3 := decide_eq_true c4
  clear c4
  obtain rfl := Option.some.inj H
  go_enter Tryz.func77, Tryz.ntmps77
  go_wp2
  go_ret
  exact ⟨et, dn⟩
 ·rw [if_neg c4] at H
  have a3 := decide_eq_false c4
  clear c4
  obtain rfl := Option.some.inj H
  go_enter Tryz.func77, Tryz.ntmps77
  go_wp2
  go_ret
  exact ⟨et, dn⟩
attribute [local go_sem] Ai1 Ah9 Ak5 Ak4 Ah0 Ag9 Ai2 Ai0   -- for this text's walks alone
set_option linter.unusedVariables false
set_option linter.unusedSimpArgs false
mutual
def Aa4.j0 : Nat → Int → Bool → List (S79) → Option (Int)
 | 0, _, _, _ => none
 | k + 1, x3, a1, a0 => if a1 = true then (some 2) else (Aa4.l0 k x3 0 a0)
def Aa4.l0 : Nat → Int → Int → List (S79) → Option (Int)
 | 0, _, _, _ => none
 | k + 1, x3, x4, a0 => if x4 < x3 then (if 0 ≤ x4 then (if x4 < (a0.length : Int) then ((Ag4.f k ((Ac2 a0 x4).f0)).bind fun a1 => (if a1 = true then ((Am0.f ((Ac2 a0 x4).f1) 0 2).bind fun a2 => (if a2 = true then (Aa4.l0 k x3 (wrap64 (x4 + 1)) a0) else (some 3))) else (some 5))) else (none)) else (none)) else (Aa4.l1 k x3 0 a0)
def Aa4.l1 : Nat → Int → Int → List (S79) → Option (Int)
 | 0, _, _, _ => none
 | k + 1, x3, x5, a0 => if x5 < x3 then (Aa4.l2 k x3 x5 0 a0) else (Aa4.l3 k x3 0 a0)
def Aa4.l2 : Nat → Int → Int → Int → List (S79) → Option (Int)
 | 0, _, _, _, _ => none
 | k + 1, x3, x5, x6, a0 => if x6 < x5 then (if 0 ≤ x5 then (if x5 < (a0.length : Int) then (if 0 ≤ x6 then (if x6 < (a0.length : Int) then (if ((Ac2 a0 x5).f0).toList = ((Ac2 a0 x6).f0).toList then (some 6) else (Aa4.l2 k x3 x5 (wrap64 (x6 + 1)) a0)) else (none)) else (none)) else (none)) else (none)) else (Aa4.l1 k x3 (wrap64 (x5 + 1)) a0)
def Aa4.l3 : Nat → Int → Int → List (S79) → Option (Int)
 | 0, _, _, _ => none
 | k + 1, x3, x7, a0 => if x7 < x3 then (if 0 ≤ x7 then (if x7 < (a0.length : Int) then (if ((Ac2 a0 x7).f1) = 0 then (some 0) else (Aa4.l3 k x3 (wrap64 (x7 + 1)) a0)) else (none)) else (none)) else (some 4)
end
def Aa4.f (k : Nat) (a0 : List (S79)) : Option (Int) := if (a0.length : Int) < 1 then (Aa4.j0 k (a0.length : Int) true a0) else (Aa4.j0 k (a0.length : Int) (decide ((a0.length : Int) > 6)) a0)
theorem Aa4.calls (k : Nat) (b6 : Option Addr) (b7 : Nat) (a0 : List (S79)) (r : Int) (w : World) (e5 : Kd.C k79 w b6 a0.length a0) (e6 : a0.length ≤ b7) (h : Aa4.f k a0 = some r) :
  Calls Tryz.prog 45 #[.agg #[.slice b6 a0.length b7]] w fun e w' => e = .returned (.int .i64 r) ∧ Below w.heap.size w w' := by
 have m7 := Tryz.underlying36
 have b2 := am e5
 have l9 := am e6
 clear e5 e6
 have HB := am (Below.refl w.heap.size w)
 have H : (if (a0.length : Int) < 1 then (Aa4.j0 k (a0.length : Int) true a0) else (Aa4.j0 k (a0.length : Int) (decide ((a0.length : Int) > 6)) a0)) = some r := h
 clear h
 have k9 := am H
 clear H
 go_enter Tryz.func45, Tryz.ntmps45
 go_upto_region 2 with (first | (refine bx 1 rfl #[.slice b6 a0.length b7] 36 ?_; intro b5 hg w3 hbox hb; have a1 := am (hbox); have b8 := am (bz hg (hq HB.out)); replace HB := sb HB hb; have e7 := b8; clear hb hbox hg; have a3 := c0_ a1; have a4 := Aa2 a1.out 0))
 repeat (go_quiet (first | (refine bx 1 rfl #[.slice b6 a0.length b7] 36 ?_; intro b5 hg w3 hbox hb; have a1 := am (hbox); have b8 := am (bz hg (hq HB.out)); replace HB := sb HB hb; have e7 := b8; clear hb hbox hg; have a3 := c0_ a1; have a4 := Aa2 a1.out 0)); go_upto_region 2 with (first | (refine bx 1 rfl #[.slice b6 a0.length b7] 36 ?_; intro b5 hg w3 hbox hb; have a1 := am (hbox); have b8 := am (bz hg (hq HB.out)); replace HB := sb HB hb; have e7 := b8; clear hb hbox hg; have a3 := c0_ a1; have a4 := Aa2 a1.out 0)))
 (try simp only [Act.put, lsp])
 go_cut [16] (fun m8 wc => ∃ (kq : Nat) (d3 : Bool), m8 = .bool d3 ∧ Aside0 (Aa4.j0 kq (a0.length : Int) d3 a0 = some r) ∧ Aside0 (kq ≤ k) ∧ Aside0 (wc.heap[b5]? = some (.cells #[(.slice b6 a0.length b7)] 36 (0, 0))) ∧ Aside0 (Below w.heap.size w wc))
 case first =>
  have H := k9.out
  clear k9
  by_cases c5 : (a0.length : Int) < 1
  ·rw [if_pos c5] at H
   have d8 := decide_eq_true c5
   have l4 : decide (a0.length < 1) = true := decide_eq_true (by omega)
   clear c5
   (first | rw [d8] | (simp only [Ae6, Ae7]; rw [d8]) | skip)
   have H' := am H
   clear H
   go_wp2
   repeat (go_quiet (fail); try go_wp2)
   go_meet
   case rel => exact ⟨_, (true), et, H', lo, ⟨bq a1.out⟩, ⟨hs HB.out⟩⟩
  ·rw [if_neg c5] at H
   have d8 := decide_eq_false c5
   have l4 : decide (a0.length < 1) = false := decide_eq_false (by omega)
   clear c5
   (first | rw [d8] | (simp only [Ae6, Ae7]; rw [d8]) | skip)
   have H' := am H
   clear H
   go_wp2
   repeat (go_quiet (fail); try go_wp2)
   go_meet
   case rel => exact ⟨_, (decide ((a0.length : Int) > 6)), et, H', lo, ⟨bq a1.out⟩, ⟨hs HB.out⟩⟩
 case rest =>
  clear k9
  try clear a3; try clear a4
  obtain ⟨kq, d3, rfl, HA, e8, a1, HB⟩ := hcut
  cases kq with
  | zero => exact absurd HA.out (by simp [Aa4.j0])
  | succ m0 =>
   have H := HA.out
   clear HA
   simp only [Aa4.j0] at H
   by_cases c6 : d3 = true
   ·subst c6
    rw [if_pos rfl] at H
    obtain rfl := Option.some.inj H
    go_wp2
    repeat (go_quiet (fail); try go_wp2)
    go_ret
    exact ⟨er, hs HB.out⟩
   ·replace c6 := Bool.eq_false_iff.mpr c6
    subst c6
    rw [if_neg (show ¬ (false = true) by decide)] at H
    have H' := am H
    clear H
    go_wp2
    repeat (go_quiet (fail); try go_wp2)
    go_loopg [4] m0 (fun kq v4 w' => ∃ (a2 : Int), v4 = .int .i64 a2 ∧ Aside0 (Aa4.l0 kq (a0.length : Int) a2 a0 = some r) ∧ Aside0 (kq ≤ m0) ∧ Aside0 (w'.heap[b5]? = some (.cells #[(.slice b6 a0.length b7)] 36 (0, 0))) ∧ Aside0 (Below w.heap.size w w'))
    case atStart => exact ⟨(0), et, H', ⟨Nat.le_refl _⟩, ⟨bq a1.out⟩, ⟨hs HB.out⟩⟩
    case round =>
     clear H'
     try clear c6; try clear a3; try clear a4
     obtain ⟨a2, rfl, HA, e9, a1, HB⟩ := hrel
     cases gk with
     | zero => exact absurd HA.out (by simp [Aa4.l0])
     | succ k2 =>
      have H := HA.out
      clear HA
      simp only [Aa4.l0] at H
      by_cases c7 : a2 < (a0.length : Int)
      ·rw [if_pos c7] at H
       have e2 := decide_eq_true c7
       clear c7
       obtain ⟨m9, H⟩ := ife H
       obtain ⟨n0, H⟩ := ife H
       obtain ⟨e3, l5, H⟩ := ob H
       try dsimp only at H
       have h3 := am H
       clear H
       have i6 := c0_ a1
       have i7 := Aa2 a1.out 0
       have g1 : 0 ≤ (a2 : Int) := od
       have g2 : a2 < (a0.length : Int) := od
       obtain ⟨h4, l6, d4, d5⟩ := Ap3 b2.out a2 g1 g2
       cases l6
       replace d4 := cz HB.out d4
       replace d5 := cz HB.out d5
       obtain ⟨g1, g2⟩ := ee g1 g2
       go_upto_if 29 with (first | (go_at_call 76; (with_reducible refine (Ag4.calls k2 ((Ac2 a0 a2).f0) e3 _ l5.out).mono ?_); rintro e w' ⟨rfl, ⟨nd, rfl⟩⟩; (try first | exact ⟨rfl, _, World.drewN_drewN _ _ _⟩ | exact ⟨rfl, _, Eq.trans (World.drewN_drewN _ _ _) (congrArg (World.drewN _) (Nat.add_assoc _ _ _))⟩)))
       repeat (go_quiet (first | (go_at_call 76; (with_reducible refine (Ag4.calls k2 ((Ac2 a0 a2).f0) e3 _ l5.out).mono ?_); rintro e w' ⟨rfl, ⟨nd, rfl⟩⟩; (try first | exact ⟨rfl, _, World.drewN_drewN _ _ _⟩ | exact ⟨rfl, _, Eq.trans (World.drewN_drewN _ _ _) (congrArg (World.drewN _) (Nat.add_assoc _ _ _))⟩))); go_upto_if 29 with (first | (go_at_call 76; (with_reducible refine (Ag4.calls k2 ((Ac2 a0 a2).f0) e3 _ l5.out).mono ?_); rintro e w' ⟨rfl, ⟨nd, rfl⟩⟩; (try first | exact ⟨rfl, _, World.drewN_drewN _ _ _⟩ | exact ⟨rfl, _, Eq.trans (World.drewN_drewN _ _ _) (congrArg (World.drewN _) (Nat.add_assoc _ _ _))⟩))))
       have H := h3.out
       clear h3
       by_cases i9 : e3 = true
       ·subst i9
        rw [if_pos rfl] at H
        obtain ⟨e4, l7, H⟩ := ob H
        try dsimp only at H
        have h5 := am H
        clear H
        have j5 := c0_ a1
        have j6 := Aa2 a1.out 0
        have g3 : 0 ≤ (a2 : Int) := od
        have g4 : a2 < (a0.length : Int) := od
        obtain ⟨h6, l8, d6, d7⟩ := Ap3 b2.out a2 g3 g4
        obtain rfl : h4 = h6 := (by injection l8)
        replace d6 := cz HB.out d6
        replace d7 := cz HB.out d7
        obtain ⟨g3, g4⟩ := ee g3 g4
        go_upto_if 37 with (first | (go_at_call 77; (with_reducible refine (Am0.calls ((Ac2 a0 a2).f1) 0 2 e4 _ l7.out).mono ?_); rintro e w' ⟨rfl, ⟨nd, rfl⟩⟩; (try first | exact ⟨rfl, _, World.drewN_drewN _ _ _⟩ | exact ⟨rfl, _, Eq.trans (World.drewN_drewN _ _ _) (congrArg (World.drewN _) (Nat.add_assoc _ _ _))⟩)))
        repeat (go_quiet (first | (go_at_call 77; (with_reducible refine (Am0.calls ((Ac2 a0 a2).f1) 0 2 e4 _ l7.out).mono ?_); rintro e w' ⟨rfl, ⟨nd, rfl⟩⟩; (try first | exact ⟨rfl, _, World.drewN_drewN _ _ _⟩ | exact ⟨rfl, _, Eq.trans (World.drewN_drewN _ _ _) (congrArg (World.drewN _) (Nat.add_assoc _ _ _))⟩))); go_upto_if 37 with (first | (go_at_call 77; (with_reducible refine (Am0.calls ((Ac2 a0 a2).f1) 0 2 e4 _ l7.out).mono ?_); rintro e w' ⟨rfl, ⟨nd, rfl⟩⟩; (try first | exact ⟨rfl, _, World.drewN_drewN _ _ _⟩ | exact ⟨rfl, _, Eq.trans (World.drewN_drewN _ _ _) (congrArg (World.drewN _) (Nat.add_assoc _ _ _))⟩))))
        have H := h5.out
        clear h5
        by_cases j7 : e4 = true
        ·subst j7
         rw [if_pos rfl] at H
         have H' := am H
         clear H
         go_wp2
         repeat (go_quiet (fail); try go_wp2)
         go_roundg k2
         case measure => have := e8.out; have := e9.out; omega
         case rel => exact ⟨(wrap64 (a2 + 1)), et, H', ⟨by have := e8.out; have := e9.out; omega⟩, ⟨bq a1.out⟩, ⟨hs HB.out⟩⟩
        ·replace j7 := Bool.eq_false_iff.mpr j7
         subst j7
         rw [if_neg (show ¬ (false = true) by decide)] at H
         obtain rfl := Option.some.inj H
         go_wp2
         repeat (go_quiet (fail); try go_wp2)
         go_ret
         exact ⟨er, hs HB.out⟩
       ·replace i9 := Bool.eq_false_iff.mpr i9
        subst i9
        rw [if_neg (show ¬ (false = true) by decide)] at H
        obtain rfl := Option.some.inj H
        go_wp2
        repeat (go_quiet (fail); try go_wp2)
        go_ret
        exact ⟨er, hs HB.out⟩
      ·rw [if_neg c7] at H
       have e2 := decide_eq_false c7
       clear c7
       have H' := am H
       clear H
       go_wp2
       repeat (go_quiet (fail); try go_wp2)
       go_loopg [5] k2 (fun kq v5 w' => ∃ (a5 : Int), v5 = .int .i64 a5 ∧ Aside0 (Aa4.l1 kq (a0.length : Int) a5 a0 = some r) ∧ Aside0 (kq ≤ k2) ∧ Aside0 (w'.heap[b5]? = some (.cells #[(.slice b6 a0.length b7)] 36 (0, 0))) ∧ Aside0 (Below w.heap.size w w'))
       case atStart => exact ⟨(0), et, H', ⟨Nat.le_refl _⟩, ⟨bq a1.out⟩, ⟨hs HB.out⟩⟩
       case round =>
        clear H'
        try clear c6; try clear c7; try clear e2; try clear a3; try clear a4
        obtain ⟨a5, rfl, HA, g9, a1, HB⟩ := hrel
        cases gk with
        | zero => exact absurd HA.out (by simp [Aa4.l1])
        | succ k3 =>
         have H := HA.out
         clear HA
         simp only [Aa4.l1] at H
         by_cases g0 : a5 < (a0.length : Int)
         ·rw [if_pos g0] at H
          have d9 := decide_eq_true g0
          clear g0
          have H' := am H
          clear H
          go_wp2
          repeat (go_quiet (fail); try go_wp2)
          go_loopg [6] k3 (fun kq v6 w' => ∃ (b3 : Int), v6 = .int .i64 b3 ∧ Aside0 (Aa4.l2 kq (a0.length : Int) a5 b3 a0 = some r) ∧ Aside0 (kq ≤ k3) ∧ Aside0 (w'.heap[b5]? = some (.cells #[(.slice b6 a0.length b7)] 36 (0, 0))) ∧ Aside0 (Below w.heap.size w w'))
          case atStart => exact ⟨(0), et, H', ⟨Nat.le_refl _⟩, ⟨bq a1.out⟩, ⟨hs HB.out⟩⟩
          case round =>
           clear H'
           try clear c6; try clear c7; try clear e2; try clear g0; try clear d9; try clear a3; try clear a4
           obtain ⟨b3, rfl, HA, g5, a1, HB⟩ := hrel
           cases gk with
           | zero => exact absurd HA.out (by simp [Aa4.l2])
           | succ k4 =>
            have H := HA.out
            clear HA
            simp only [Aa4.l2] at H
            by_cases h0 : b3 < a5
            ·rw [if_pos h0] at H
             have h7 := decide_eq_true h0
             clear h0
             obtain ⟨m1, H⟩ := ife H
             obtain ⟨m2, H⟩ := ife H
             obtain ⟨m3, H⟩ := ife H
             obtain ⟨m4, H⟩ := ife H
             by_cases h8 : ((Ac2 a0 a5).f0).toList = ((Ac2 a0 b3).f0).toList
             ·rw [if_pos h8] at H
              obtain ⟨h9, i0⟩ := bqt h8; clear h8
              obtain rfl := Option.some.inj H
              have j8 := c0_ a1
              have j9 := Aa2 a1.out 0
              have b9 : 0 ≤ (a5 : Int) := od
              have c0 : a5 < (a0.length : Int) := od
              obtain ⟨e0, g6, a6, a7⟩ := Ap3 b2.out a5 b9 c0
              cases g6
              replace a6 := cz HB.out a6
              replace a7 := cz HB.out a7
              obtain ⟨b9, c0⟩ := ee b9 c0
              have c1 : 0 ≤ (b3 : Int) := od
              have d0 : b3 < (a0.length : Int) := od
              obtain ⟨e1, g7, a8, a9⟩ := Ap3 b2.out b3 c1 d0
              obtain rfl : e0 = e1 := (by injection g7)
              replace a8 := cz HB.out a8
              replace a9 := cz HB.out a9
              obtain ⟨c1, d0⟩ := ee c1 d0
              go_wp2
              repeat (go_quiet (fail); try go_wp2)
              go_ret
              exact ⟨er, hs HB.out⟩
             ·rw [if_neg h8] at H
              obtain ⟨h9, i0⟩ := bqf h8
              have H' := am H
              clear H
              have k0 := c0_ a1
              have k1 := Aa2 a1.out 0
              have b9 : 0 ≤ (a5 : Int) := od
              have c0 : a5 < (a0.length : Int) := od
              obtain ⟨e0, g6, a6, a7⟩ := Ap3 b2.out a5 b9 c0
              cases g6
              replace a6 := cz HB.out a6
              replace a7 := cz HB.out a7
              obtain ⟨b9, c0⟩ := ee b9 c0
              have c1 : 0 ≤ (b3 : Int) := od
              have d0 : b3 < (a0.length : Int) := od
              obtain ⟨e1, g7, a8, a9⟩ := Ap3 b2.out b3 c1 d0
              obtain rfl : e0 = e1 := (by injection g7)
              replace a8 := cz HB.out a8
              replace a9 := cz HB.out a9
              obtain ⟨c1, d0⟩ := ee c1 d0
              go_wp2
              repeat (go_quiet (fail); try go_wp2)
              go_roundg k4
              case measure => have := e8.out; have := e9.out; have := g9.out; have := g5.out; omega
              case rel => exact ⟨(wrap64 (b3 + 1)), et, H', ⟨by have := e8.out; have := e9.out; have := g9.out; have := g5.out; omega⟩, ⟨bq a1.out⟩, ⟨hs HB.out⟩⟩
            ·rw [if_neg h0] at H
             have h7 := decide_eq_false h0
             clear h0
             have H' := am H
             clear H
             go_wp2
             repeat (go_quiet (fail); try go_wp2)
             go_roundg k4
             case measure => have := e8.out; have := e9.out; have := g9.out; have := g5.out; omega
             case rel => exact ⟨(wrap64 (a5 + 1)), et, H', ⟨by have := e8.out; have := e9.out; have := g9.out; have := g5.out; omega⟩, ⟨bq a1.out⟩, ⟨hs HB.out⟩⟩
         ·rw [if_neg g0] at H
          have d9 := decide_eq_false g0
          clear g0
          have H' := am H
          clear H
          go_wp2
          repeat (go_quiet (fail); try go_wp2)
          go_loopg [7] k3 (fun kq v7 w' => ∃ (b4 : Int), v7 = .int .i64 b4 ∧ Aside0 (Aa4.l3 kq (a0.length : Int) b4 a0 = some r) ∧ Aside0 (kq ≤ k3) ∧ Aside0 (w'.heap[b5]? = some (.cells #[(.slice b6 a0.length b7)] 36 (0, 0))) ∧ Aside0 (Below w.heap.size w w'))
          case atStart => exact ⟨(0), et, H', ⟨Nat.le_refl _⟩, ⟨bq a1.out⟩, ⟨hs HB.out⟩⟩
          case round =>
           clear H'
           try clear c6; try clear c7; try clear e2; try clear g0; try clear d9; try clear a3; try clear a4
           obtain ⟨b4, rfl, HA, g5, a1, HB⟩ := hrel
           cases gk with
           | zero => exact absurd HA.out (by simp [Aa4.l3])
           | succ k4 =>
            have H := HA.out
            clear HA
            simp only [Aa4.l3] at H
            by_cases h2 : b4 < (a0.length : Int)
            ·rw [if_pos h2] at H
             have i1 := decide_eq_true h2
             clear h2
             obtain ⟨m5, H⟩ := ife H
             obtain ⟨m6, H⟩ := ife H
             by_cases i2 : ((Ac2 a0 b4).f1) = 0
             ·rw [if_pos i2] at H
              obtain ⟨i3, i4⟩ := bqt i2; clear i2
              obtain rfl := Option.some.inj H
              have k5 := c0_ a1
              have k6 := Aa2 a1.out 0
              have d1 : 0 ≤ (b4 : Int) := od
              have d2 : b4 < (a0.length : Int) := od
              obtain ⟨i5, g8, b0, b1⟩ := Ap3 b2.out b4 d1 d2
              cases g8
              replace b0 := cz HB.out b0
              replace b1 := cz HB.out b1
              obtain ⟨d1, d2⟩ := ee d1 d2
              go_wp2
              repeat (go_quiet (fail); try go_wp2)
              go_ret
              exact ⟨er, hs HB.out⟩
             ·rw [if_neg i2] at H
              obtain ⟨i3, i4⟩ := bqf i2
              have H' := am H
              clear H
              have k7 := c0_ a1
              have k8 := Aa2 a1.out 0
              have d1 : 0 ≤ (b4 : Int) := od
              have d2 : b4 < (a0.length : Int) := od
              obtain ⟨i5, g8, b0, b1⟩ := Ap3 b2.out b4 d1 d2
              cases g8
              replace b0 := cz HB.out b0
              replace b1 := cz HB.out b1
              obtain ⟨d1, d2⟩ := ee d1 d2
              go_wp2
              repeat (go_quiet (fail); try go_wp2)
              go_roundg k4
              case measure => have := e8.out; have := e9.out; have := g9.out; have := g5.out; omega
              case rel => exact ⟨(wrap64 (b4 + 1)), et, H', ⟨by have := e8.out; have := e9.out; have := g9.out; have := g5.out; omega⟩, ⟨bq a1.out⟩, ⟨hs HB.out⟩⟩
            ·rw [if_neg h2] at H
             have i1 := decide_eq_false h2
             clear h2
             obtain rfl := Option.some.inj H
             go_wp2
             repeat (go_quiet (fail); try go_wp2)
             go_ret
             exact ⟨er, hs HB.out⟩
def Ak8.f (l0 : List (S36)) (a1 : Int) : Option (Bool) := if 0 < (l0.length : Int) then ((Am0.f a1 0 (wrap64 ((((Ad6 l0 0).f0).length : Int) - 1))).bind fun a0 => (some a0)) else (none)
theorem Ak8.calls (A0 : Option Addr) (l0 : List (S36)) (a1 : Int) (r : Bool) (w : World) (d2 : Kd.C k36 w A0 l0.length l0) (h : Ak8.f l0 a1 = some r) :
  Calls Tryz.prog 78 #[.pointer A0, .int .i64 a1] w fun e w' => e = .returned (.bool r) ∧ Drawn0 w w' := by
 have d3 := am d2
 clear d2
 have H : (if 0 < (l0.length : Int) then ((Am0.f a1 0 (wrap64 ((((Ad6 l0 0).f0).length : Int) - 1))).bind fun a7 => (some a7)) else (none)) = some r := h
 clear h
 obtain ⟨c3, H⟩ := ifs H
 have d6 := decide_eq_true c3
 have d7 : decide (0 < l0.length) = true := decide_eq_true (by omega)
 clear c3
 obtain ⟨a7, A4, H⟩ := ob H
 try dsimp only at H
 obtain rfl := Option.some.inj H
 have a8 : 0 ≤ (0 : Int) := (by omega)
 have a9 : 0 < (l0.length : Int) := od
 obtain ⟨b2, b8, b9, c0, a0, a2, a3⟩ := Aj0 d3.out 0 a8 a9
 cases c0
 have d4 : (0 < l0.length) = True := eq_true (by omega)
 (try simp only [t0_] at a0)
 have b4 := am a3
 have b5 := am a2
 clear a3 a2
 obtain ⟨a8, a9⟩ := ee a8 a9
 have b0 : 0 ≤ (0 : Int) := (by omega)
 have b1 : 0 < (l0.length : Int) := od
 obtain ⟨b3, c1, d0, d1, a4, a5, a6⟩ := Aj0 d3.out 0 b0 b1
 obtain rfl : b2 = b3 := (by injection d1)
 have d5 : (0 < l0.length) = True := eq_true (by omega)
 (try simp only [t0_] at a4)
 have b6 := am a6
 have b7 := am a5
 clear a6 a5
 obtain ⟨b0, b1⟩ := ee b0 b1
 obtain ⟨rfl, rfl⟩ := sj a0 a4
 go_enter Tryz.func78, Tryz.ntmps78
 go_wp2_with (first | (refine gl (some 12) Tryz.func77 rfl #[.int .i64 a1, .int .i64 0, .int .i64 (wrap64 ((((Ad6 l0 0).f0).length : Int) - 1))] ?_; (with_reducible refine (Am0.calls a1 0 (wrap64 ((((Ad6 l0 0).f0).length : Int) - 1)) a7 _ A4.out).mono ?_); rintro e w' ⟨rfl, ⟨nd, rfl⟩⟩; refine ⟨_, rfl, ?_⟩))
 go_ret
 exact ⟨et, dn⟩
attribute [local go_sem] Ai1 Ah9 Ak5 Ak4 Ah0 Ag9 Ai2 Ai0   -- for this text's walks alone
set_option linter.unusedVariables false
set_option linter.unusedSimpArgs false
mutual
def Ae4.l0 : Nat → List (S36) → List Int → Int → Option (Int)
 | 0, _, _, _ => none
 | k + 1, x0, x1, x5 => if x5 < (x1.length : Int) then (if 0 ≤ x5 then ((Ak8.f x0 (rd x1 x5)).bind fun a0 => (if a0 = true then (Ae4.l0 k x0 x1 (wrap64 (x5 + 1))) else (some 3))) else (none)) else (Ae4.l1 k x1 0)
def Ae4.l1 : Nat → List Int → Int → Option (Int)
 | 0, _, _ => none
 | k + 1, x1, x6 => if x6 < (x1.length : Int) then (Ae4.l2 k x1 x6 0) else (some 0)
def Ae4.l2 : Nat → List Int → Int → Int → Option (Int)
 | 0, _, _, _ => none
 | k + 1, x1, x6, x7 => if x7 < x6 then (if 0 ≤ x6 then (if x6 < (x1.length : Int) then (if 0 ≤ x7 then (if x7 < (x1.length : Int) then (if (rd x1 x6) = (rd x1 x7) then (some 6) else (Ae4.l2 k x1 x6 (wrap64 (x7 + 1)))) else (none)) else (none)) else (none)) else (none)) else (Ae4.l1 k x1 (wrap64 (x6 + 1)))
end
def Ae4.f (k : Nat) (l0 : List (S36)) (l1 : List Int) : Option (Int) := if 0 < (l0.length : Int) then (if (l1.length : Int) = (((Ad6 l0 0).f0).length : Int) then (Ae4.l0 k l0 l1 0) else (some 2)) else (none)
theorem Ae4.calls (k : Nat) (A0 : Option Addr) (l0 : List (S36)) (A1 : Option Addr) (c1 : Nat) (l1 : List Int) (r : Int) (w : World) (h9 : Kd.C k36 w A0 l0.length l0) (i0 : Kd.C (Kd.int .i64) w A1 l1.length l1) (i1 : l1.length ≤ c1) (h : Ae4.f k l0 l1 = some r) :
  Calls Tryz.prog 46 #[.pointer A0, .slice A1 l1.length c1] w fun e w' => e = .returned (.int .i64 r) ∧ Drawn0 w w' := by
 have e1 := am h9
 clear h9
 have g7 := am i0
 have j5 := am i1
 clear i0 i1
 have H : (if 0 < (l0.length : Int) then (if (l1.length : Int) = (((Ad6 l0 0).f0).length : Int) then (Ae4.l0 k l0 l1 0) else (some 2)) else (none)) = some r := h
 clear h
 obtain ⟨c3, H⟩ := ifs H
 have e2 := decide_eq_true c3
 have e3 : decide (0 < l0.length) = true := decide_eq_true (by omega)
 clear c3
 by_cases c4 : (l1.length : Int) = (((Ad6 l0 0).f0).length : Int)
 ·rw [if_pos c4] at H
  have d0 : ((l1.length : Int) == (((Ad6 l0 0).f0).length : Int)) = true := beq_iff_eq.mpr c4
  have d1 : ((l1.length : Int) != (((Ad6 l0 0).f0).length : Int)) = false := bne_eq_false_iff_eq.mpr c4
  have d2 : (l1.length == ((Ad6 l0 0).f0).length) = true := by first | simpa using c4 | (simp at c4 ⊢; omega)
  clear c4
  have H' := am H
  clear H
  have a9 : 0 ≤ (0 : Int) := (by omega)
  have b0 : 0 < (l0.length : Int) := od
  obtain ⟨b7, e4, e5, e6, a0, a2, a3⟩ := Aj0 e1.out 0 a9 b0
  cases e6
  have g8 : (0 < l0.length) = True := eq_true (by omega)
  (try simp only [t0_] at a0)
  have d3 := am a3
  have d4 := am a2
  clear a3 a2
  obtain ⟨a9, b0⟩ := ee a9 b0
  have b1 : 0 ≤ (0 : Int) := (by omega)
  have b2 : 0 < (l0.length : Int) := od
  obtain ⟨b8, e7, e8, e9, a1, a4, a5⟩ := Aj0 e1.out 0 b1 b2
  obtain rfl : b7 = b8 := (by injection e9)
  have g9 : (0 < l0.length) = True := eq_true (by omega)
  (try simp only [t0_] at a1)
  have d5 := am a5
  have d6 := am a4
  clear a5 a4
  obtain ⟨b1, b2⟩ := ee b1 b2
  obtain ⟨rfl, rfl⟩ := sj a0 a1
  go_enter Tryz.func46, Tryz.ntmps46
  go_wp2
  repeat (go_quiet (fail); try go_wp2)
  go_loopg [5] k (fun kq v5 w' => ∃ (a8 : Int), v5 = .int .i64 a8 ∧ Aside0 (Ae4.l0 kq l0 l1 a8 = some r) ∧ Aside0 (kq ≤ k) ∧ Drawn0 w w')
  case atStart => exact ⟨(0), et, H', ⟨Nat.le_refl _⟩, dn⟩
  case round =>
   clear H'
   try clear c1; try clear c3; try clear e2; try clear e3; try clear c4; try clear d0; try clear d1; try clear d2; try clear a0; try clear a1; try clear a9; try clear b1; try clear b0; try clear b2
   obtain ⟨a8, rfl, HA, g5, ⟨m1, rfl⟩⟩ := hrel
   cases gk with
   | zero => exact absurd HA.out (by simp [Ae4.l0])
   | succ k1 =>
    have H := HA.out
    clear HA
    simp only [Ae4.l0] at H
    by_cases c5 : a8 < (l1.length : Int)
    ·rw [if_pos c5] at H
     have g0 := decide_eq_true c5
     clear c5
     obtain ⟨i9, H⟩ := ife H
     obtain ⟨d7, A7, H⟩ := ob H
     try dsimp only at H
     have i2 := am H
     clear H
     have g1 : 0 ≤ (a8 : Int) := od
     have g2 : a8 < (l1.length : Int) := od
     obtain ⟨i3, h8, h5⟩ := Kd.at_int g7.out a8 g1 g2
     cases h8
     obtain ⟨g1, g2⟩ := ee g1 g2
     go_upto_if 28 with (first | (go_at_call 78; refine (Ak8.calls _ l0 (rd l1 a8) d7 _ (cq e1.out) A7.out).mono ?_; rintro e w' ⟨rfl, ⟨nd, rfl⟩⟩; (try first | exact ⟨rfl, _, World.drewN_drewN _ _ _⟩ | exact ⟨rfl, _, Eq.trans (World.drewN_drewN _ _ _) (congrArg (World.drewN _) (Nat.add_assoc _ _ _))⟩)))
     repeat (go_quiet (first | (go_at_call 78; refine (Ak8.calls _ l0 (rd l1 a8) d7 _ (cq e1.out) A7.out).mono ?_; rintro e w' ⟨rfl, ⟨nd, rfl⟩⟩; (try first | exact ⟨rfl, _, World.drewN_drewN _ _ _⟩ | exact ⟨rfl, _, Eq.trans (World.drewN_drewN _ _ _) (congrArg (World.drewN _) (Nat.add_assoc _ _ _))⟩))); go_upto_if 28 with (first | (go_at_call 78; refine (Ak8.calls _ l0 (rd l1 a8) d7 _ (cq e1.out) A7.out).mono ?_; rintro e w' ⟨rfl, ⟨nd, rfl⟩⟩; (try first | exact ⟨rfl, _, World.drewN_drewN _ _ _⟩ | exact ⟨rfl, _, Eq.trans (World.drewN_drewN _ _ _) (congrArg (World.drewN _) (Nat.add_assoc _ _ _))⟩))))
     have H := i2.out
     clear i2
     by_cases c9 : d7 = true
     ·subst c9
      rw [if_pos rfl] at H
      have H' := am H
      clear H
      go_wp2
      repeat (go_quiet (fail); try go_wp2)
      go_roundg k1
      case measure => have := g5.out; omega
      case rel => exact ⟨(wrap64 (a8 + 1)), et, H', ⟨by have := g5.out; omega⟩, dn⟩
     ·replace c9 := Bool.eq_false_iff.mpr c9
      subst c9
      rw [if_neg (show ¬ (false = true) by decide)] at H
      obtain rfl := Option.some.inj H
      go_wp2
      repeat (go_quiet (fail); try go_wp2)
      go_ret
      exact ⟨et, dn⟩
    ·rw [if_neg c5] at H
     have g0 := decide_eq_false c5
     clear c5
     have H' := am H
     clear H
     go_wp2
     repeat (go_quiet (fail); try go_wp2)
     go_loopg [6] k1 (fun kq v6 w' => ∃ (a6 : Int), v6 = .int .i64 a6 ∧ Aside0 (Ae4.l1 kq l1 a6 = some r) ∧ Aside0 (kq ≤ k1) ∧ Drawn0 w w')
     case atStart => exact ⟨(0), et, H', ⟨Nat.le_refl _⟩, dn⟩
     case round =>
      clear H'
      try clear c1; try clear c3; try clear e2; try clear e3; try clear c4; try clear d0; try clear d1; try clear d2; try clear c5; try clear g0; try clear a0; try clear a1; try clear a9; try clear b1; try clear b0; try clear b2
      obtain ⟨a6, rfl, HA, h6, ⟨m2, rfl⟩⟩ := hrel
      cases gk with
      | zero => exact absurd HA.out (by simp [Ae4.l1])
      | succ k2 =>
       have H := HA.out
       clear HA
       simp only [Ae4.l1] at H
       by_cases c10 : a6 < (l1.length : Int)
       ·rw [if_pos c10] at H
        have e0 := decide_eq_true c10
        clear c10
        have H' := am H
        clear H
        go_wp2
        repeat (go_quiet (fail); try go_wp2)
        go_loopg [7] k2 (fun kq v7 w' => ∃ (a7 : Int), v7 = .int .i64 a7 ∧ Aside0 (Ae4.l2 kq l1 a6 a7 = some r) ∧ Aside0 (kq ≤ k2) ∧ Drawn0 w w')
        case atStart => exact ⟨(0), et, H', ⟨Nat.le_refl _⟩, dn⟩
        case round =>
         clear H'
         try clear c1; try clear c3; try clear e2; try clear e3; try clear c4; try clear d0; try clear d1; try clear d2; try clear c5; try clear g0; try clear c10; try clear e0; try clear a0; try clear a1; try clear a9; try clear b1; try clear b0; try clear b2
         obtain ⟨a7, rfl, HA, h7, ⟨m3, rfl⟩⟩ := hrel
         cases gk with
         | zero => exact absurd HA.out (by simp [Ae4.l2])
         | succ k3 =>
          have H := HA.out
          clear HA
          simp only [Ae4.l2] at H
          by_cases g6 : a7 < a6
          ·rw [if_pos g6] at H
           have h0 := decide_eq_true g6
           clear g6
           obtain ⟨i4, H⟩ := ife H
           obtain ⟨i5, H⟩ := ife H
           obtain ⟨i6, H⟩ := ife H
           obtain ⟨i7, H⟩ := ife H
           by_cases h2 : (rd l1 a6) = (rd l1 a7)
           ·rw [if_pos h2] at H
            obtain ⟨h3, h4⟩ := bqt h2; clear h2
            obtain rfl := Option.some.inj H
            have b3 : 0 ≤ (a6 : Int) := od
            have b4 : a6 < (l1.length : Int) := od
            obtain ⟨b9, g3, d8⟩ := Kd.at_int g7.out a6 b3 b4
            cases g3
            obtain ⟨b3, b4⟩ := ee b3 b4
            have b5 : 0 ≤ (a7 : Int) := od
            have b6 : a7 < (l1.length : Int) := od
            obtain ⟨c0, g4, d9⟩ := Kd.at_int g7.out a7 b5 b6
            obtain rfl : b9 = c0 := (by injection g4)
            obtain ⟨b5, b6⟩ := ee b5 b6
            go_wp2
            repeat (go_quiet (fail); try go_wp2)
            go_ret
            exact ⟨et, dn⟩
           ·rw [if_neg h2] at H
            obtain ⟨h3, h4⟩ := bqf h2
            have H' := am H
            clear H
            have b3 : 0 ≤ (a6 : Int) := od
            have b4 : a6 < (l1.length : Int) := od
            obtain ⟨b9, g3, d8⟩ := Kd.at_int g7.out a6 b3 b4
            cases g3
            obtain ⟨b3, b4⟩ := ee b3 b4
            have b5 : 0 ≤ (a7 : Int) := od
            have b6 : a7 < (l1.length : Int) := od
            obtain ⟨c0, g4, d9⟩ := Kd.at_int g7.out a7 b5 b6
            obtain rfl : b9 = c0 := (by injection g4)
            obtain ⟨b5, b6⟩ := ee b5 b6
            go_wp2
            repeat (go_quiet (fail); try go_wp2)
            go_roundg k3
            case measure => have := g5.out; have := h6.out; have := h7.out; omega
            case rel => exact ⟨(wrap64 (a7 + 1)), et, H', ⟨by have := g5.out; have := h6.out; have := h7.out; omega⟩, dn⟩
          ·rw [if_neg g6] at H
           have h0 := decide_eq_false g6
           clear g6
           have H' := am H
           clear H
           go_wp2
           repeat (go_quiet (fail); try go_wp2)
           go_roundg k3
           case measure => have := g5.out; have := h6.out; have := h7.out; omega
           case rel => exact ⟨(wrap64 (a6 + 1)), et, H', ⟨by have := g5.out; have := h6.out; have := h7.out; omega⟩, dn⟩
       ·rw [if_neg c10] at H
        have e0 := decide_eq_false c10
        clear c10
        obtain rfl := Option.some.inj H
        go_wp2
        repeat (go_quiet (fail); try go_wp2)
        go_ret
        exact ⟨et, dn⟩
 ·rw [if_neg c4] at H
  obtain ⟨d0, d1⟩ := bqf c4
  have d2 : (l1.length == ((Ad6 l0 0).f0).length) = false := by first | simpa using c4 | (simp at c4 ⊢; omega)
  obtain rfl := Option.some.inj H
  have a9 : 0 ≤ (0 : Int) := (by omega)
  have b0 : 0 < (l0.length : Int) := od
  obtain ⟨b7, e4, e5, e6, a0, a2, a3⟩ := Aj0 e1.out 0 a9 b0
  cases e6
  have g8 : (0 < l0.length) = True := eq_true (by omega)
  (try simp only [t0_] at a0)
  have d3 := am a3
  have d4 := am a2
  clear a3 a2
  obtain ⟨a9, b0⟩ := ee a9 b0
  have b1 : 0 ≤ (0 : Int) := (by omega)
  have b2 : 0 < (l0.length : Int) := od
  obtain ⟨b8, e7, e8, e9, a1, a4, a5⟩ := Aj0 e1.out 0 b1 b2
  obtain rfl : b7 = b8 := (by injection e9)
  have g9 : (0 < l0.length) = True := eq_true (by omega)
  (try simp only [t0_] at a1)
  have d5 := am a5
  have d6 := am a4
  clear a5 a4
  obtain ⟨b1, b2⟩ := ee b1 b2
  obtain ⟨rfl, rfl⟩ := sj a0 a1
  go_enter Tryz.func46, Tryz.ntmps46
  go_wp2
  repeat (go_quiet (fail); try go_wp2)
  go_ret
  exact ⟨et, dn⟩
def An2.f (k : Nat) (a0 : List (S79)) (l1 : List Int) : Option (Int) := (Aa4.f k a0).bind fun a1 => (if a1 = 0 then ((Ae4.f k [(⟨a0⟩ : S36)] l1).bind fun a2 => (some a2)) else (some a1))
theorem An2.calls (k : Nat) (a4 : Option Addr) (a5 : Nat) (a0 : List (S79)) (A1 : Option Addr) (c1 : Nat) (l1 : List Int) (r : Int) (w : World) (a6 : Kd.C k79 w a4 a0.length a0) (a7 : a0.length ≤ a5) (b6 : Kd.C (Kd.int .i64) w A1 l1.length l1) (b7 : l1.length ≤ c1) (h : An2.f k a0 l1 = some r) :
  Calls Tryz.prog 28 #[.agg #[.slice a4 a0.length a5], .slice A1 l1.length c1] w fun e w' => e = .returned (.int .i64 r) ∧ Below w.heap.size w w' := by
 have c0 := Tryz.underlying36
 have a8 := am a6
 have a9 := am a7
 clear a6 a7
 have d0 := am b6
 have d1 := am b7
 clear b6 b7
 have HB := am (Below.refl w.heap.size w)
 have H : ((Aa4.f k a0).bind fun a2 => (if a2 = 0 then ((Ae4.f k [(⟨a0⟩ : S36)] l1).bind fun b0 => (some b0)) else (some a2))) = some r := h
 clear h
 obtain ⟨a2, A3, H⟩ := ob H
 try dsimp only at H
 have b8 := am H
 clear H
 go_enter Tryz.func28, Tryz.ntmps28
 go_upto_if 9 with (first | (refine bx 2 rfl #[.slice a4 a0.length a5] 36 ?_; intro b1 hg w5 hbox hb; have a1 := am (hbox); have b2 := am (bz hg (hq HB.out)); replace HB := sb HB hb; have b9 := b2; clear hb hbox hg; have b3 := c0_ a1; have b4 := Aa2 a1.out 0) | (refine gl (some 7) Tryz.func45 rfl #[.agg #[.slice a4 a0.length a5]] ?_; refine (Aa4.calls k _ _ a0 a2 _ (cq (Kd.C_below a8.out HB.out)) a9.out A3.out).mono ?_; rintro e w7 ⟨rfl, hb⟩; refine ⟨_, rfl, ?_⟩; replace a1 := bb a1 hb; replace HB := sb HB hb; clear hb))
 have H := b8.out
 clear b8
 by_cases c8 : a2 = 0
 ·rw [if_pos c8] at H
  obtain ⟨a3, b5⟩ := bqt c8; clear c8
  (first | rw [a3] | (simp only [Ae6, Ae7]; rw [a3]) | skip)
  obtain ⟨b0, A9, H⟩ := ob H
  try dsimp only at H
  obtain rfl := Option.some.inj H
  go_wp2_with (first | (refine gl (some 12) Tryz.func46 rfl #[.pointer (some ⟨b1, 0, none⟩), .slice A1 l1.length c1] ?_; refine (Ae4.calls k _ [(⟨a0⟩ : S36)] _ _ l1 b0 _ (Ao2 (bq a1.out) (cq (Kd.C_below a8.out HB.out)) (by exact a9.out)) (cq (Kd.C_below d0.out HB.out)) d1.out A9.out).mono ?_; rintro e w' ⟨rfl, ⟨nd, rfl⟩⟩; refine ⟨_, rfl, ?_⟩))
  go_ret
  exact ⟨er, hs HB.out⟩
 ·rw [if_neg c8] at H
  obtain ⟨a3, b5⟩ := bqf c8
  (first | rw [a3] | (simp only [Ae6, Ae7]; rw [a3]) | skip)
  obtain rfl := Option.some.inj H
  go_wp2
  go_ret
  exact ⟨er, hs HB.out⟩
def At1.f (l0 : List (S36)) (a1 : Int) : Option (Bool) := (Ak8.f l0 a1).bind fun a0 => (if a0 = true then (some true) else ((Am0.f a1 (-12) (-1)).bind fun a2 => (some a2)))
theorem At1.calls (A0 : Option Addr) (l0 : List (S36)) (a1 : Int) (r : Bool) (w : World) (a3 : Kd.C k36 w A0 l0.length l0) (h : At1.f l0 a1 = some r) :
  Calls Tryz.prog 47 #[.pointer A0, .int .i64 a1] w fun e w' => e = .returned (.bool r) ∧ Drawn0 w w' := by
 have a4 := am a3
 clear a3
 have H : ((Ak8.f l0 a1).bind fun a0 => (if a0 = true then (some true) else ((Am0.f a1 (-12) (-1)).bind fun a2 => (some a2)))) = some r := h
 clear h
 obtain ⟨a0, A3, H⟩ := ob H
 try dsimp only at H
 by_cases c4 : a0 = true
 ·subst c4
  rw [if_pos rfl] at H
  obtain rfl := Option.some.inj H
  go_enter Tryz.func47, Tryz.ntmps47
  go_wp2_with (first | (refine gl (some 7) Tryz.func78 rfl #[.pointer A0, .int .i64 a1] ?_; refine (Ak8.calls _ l0 a1 true _ (cq a4.out) A3.out).mono ?_; rintro e w' ⟨rfl, ⟨nd, rfl⟩⟩; refine ⟨_, rfl, ?_⟩))
  go_ret
  exact ⟨et, dn⟩
 ·replace c4 := Bool.eq_false_iff.mpr c4
  subst c4
  rw [if_neg (show ¬ (false = true) by decide)] at H
  obtain ⟨a2, A5, H⟩ := ob H
  try dsimp only at H
  obtain rfl := Option.some.inj H
  go_enter Tryz.func47, Tryz.ntmps47
  go_wp2_with (first | (refine gl (some 7) Tryz.func78 rfl #[.pointer A0, .int .i64 a1] ?_; refine (Ak8.calls _ l0 a1 false _ (cq a4.out) A3.out).mono ?_; rintro e w' ⟨rfl, ⟨nd, rfl⟩⟩; refine ⟨_, rfl, ?_⟩) | (go_at_call 77; refine (Am0.calls a1 (-12) (-1) a2 _ A5.out).mono ?_; rintro e w' ⟨rfl, ⟨nd, rfl⟩⟩))
  go_ret
  exact ⟨et, dn⟩
mutual
def Ae9.l0 : Nat → List (S36) → List Int → Int → Int → Int → Option (Int)
 | 0, _, _, _, _, _ => none
 | k + 1, x0, x1, x2, x7, x8 => if 0 < (x0.length : Int) then (if 0 ≤ x2 then (if x2 < (x1.length : Int) then (if 0 ≤ (rd x1 x2) then (if (rd x1 x2) < (((Ad6 x0 0).f0).length : Int) then (if x8 < ((Ac2 ((Ad6 x0 0).f0) (rd x1 x2)).f1) then ((Ae9.f k x0 x1 x7).bind fun a0 => (if a0 < 0 then (some (-1)) else (Ae9.l0 k x0 x1 x2 a0 (wrap64 (x8 + 1))))) else (some x7)) else (none)) else (none)) else (none)) else (none)) else (none)
def Ae9.f : Nat → List (S36) → List Int → Int → Option (Int)
 | 0, _, _, _ => none
 | k + 1, l0, l1, a2 => if a2 ≥ (l1.length : Int) then (some (-1)) else (if 0 ≤ a2 then (if a2 < (l1.length : Int) then (if (rd l1 a2) < 0 then (some (wrap64 (a2 + 1))) else (Ae9.l0 k l0 l1 a2 (wrap64 (a2 + 1)) 0)) else (none)) else (none))
end
theorem Ae9.calls (k : Nat) : ∀ (A0 : Option Addr) (l0 : List (S36)) (A1 : Option Addr) (c1 : Nat) (l1 : List Int) (a2 : Int) (r : Int) (w : World) (h4 : Kd.C k36 w A0 l0.length l0) (h5 : Kd.C (Kd.int .i64) w A1 l1.length l1) (h6 : l1.length ≤ c1) (h : Ae9.f k l0 l1 a2 = some r),
  Calls Tryz.prog 48 #[.pointer A0, .slice A1 l1.length c1, .int .i64 a2] w fun e w' => e = .returned (.int .i64 r) ∧ Below w.heap.size w w' := by
 induction k using Nat.strongRecOn with
 | _ k ih =>
 intro A0 l0 A1 c1 l1 a2 r w h4 h5 h6 h
 cases k with
 | zero => exact absurd h (by simp [Ae9.f])
 | succ k =>
 simp only [Ae9.f] at h
 have e2 := am h4
 clear h4
 have e3 := am h5
 have h7 := am h6
 clear h5 h6
 have HB := am (Below.refl w.heap.size w)
 have H : (if a2 ≥ (l1.length : Int) then (some (-1)) else (if 0 ≤ a2 then (if a2 < (l1.length : Int) then (if (rd l1 a2) < 0 then (some (wrap64 (a2 + 1))) else (Ae9.l0 k l0 l1 a2 (wrap64 (a2 + 1)) 0)) else (none)) else (none))) = some r := h
 clear h
 by_cases c4 : a2 ≥ (l1.length : Int)
 ·rw [if_pos c4] at H
  have g5 := decide_eq_true c4
  clear c4
  obtain rfl := Option.some.inj H
  go_enter Tryz.func48, Tryz.ntmps48
  go_wp2
  repeat (go_quiet (fail); try go_wp2)
  go_ret
  exact ⟨er, hq HB.out⟩
 ·rw [if_neg c4] at H
  have g5 := decide_eq_false c4
  clear c4
  obtain ⟨h8, H⟩ := ife H
  obtain ⟨h9, H⟩ := ife H
  by_cases c7 : (rd l1 a2) < 0
  ·rw [if_pos c7] at H
   have g6 := decide_eq_true c7
   clear c7
   obtain rfl := Option.some.inj H
   have b1 : 0 ≤ (a2 : Int) := od
   have b2 : a2 < (l1.length : Int) := od
   obtain ⟨d3, e4, d1⟩ := Kd.at_int e3.out a2 b1 b2
   cases e4
   obtain ⟨b1, b2⟩ := ee b1 b2
   go_enter Tryz.func48, Tryz.ntmps48
   go_wp2
   repeat (go_quiet (fail); try go_wp2)
   go_ret
   exact ⟨er, hq HB.out⟩
  ·rw [if_neg c7] at H
   have g6 := decide_eq_false c7
   clear c7
   have H' := am H
   clear H
   have b1 : 0 ≤ (a2 : Int) := od
   have b2 : a2 < (l1.length : Int) := od
   obtain ⟨d3, e4, d1⟩ := Kd.at_int e3.out a2 b1 b2
   cases e4
   obtain ⟨b1, b2⟩ := ee b1 b2
   go_enter Tryz.func48, Tryz.ntmps48
   go_wp2
   repeat (go_quiet (fail); try go_wp2)
   go_loopg [7, 8] k (fun kq v7 v8 w' => ∃ (d2 : Int) (d4 : Int), v7 = .int .i64 d2 ∧ v8 = .int .i64 d4 ∧ Aside0 (Ae9.l0 kq l0 l1 a2 d2 d4 = some r) ∧ Aside0 (kq ≤ k) ∧ Aside0 (Below w.heap.size w w'))
   case atStart => exact ⟨(wrap64 (a2 + 1)), (0), et, et, H', ⟨Nat.le_refl _⟩, ⟨hq HB.out⟩⟩
   case round =>
    clear H'
    try clear c1; try clear c4; try clear g5; try clear h8; try clear h9; try clear c7; try clear g6; try clear d1; try clear b1; try clear b2
    obtain ⟨d2, d4, rfl, rfl, HA, g7, HB⟩ := hrel
    cases gk with
    | zero => exact absurd HA.out (by simp [Ae9.l0])
    | succ k1 =>
     have H := HA.out
     clear HA
     simp only [Ae9.l0] at H
     obtain ⟨c8, H⟩ := ifs H
     have i5 := decide_eq_true c8
     have i6 : decide (0 < l0.length) = true := decide_eq_true (by omega)
     clear c8
     obtain ⟨i7, H⟩ := ife H
     obtain ⟨i1, H⟩ := ife H
     obtain ⟨i2, H⟩ := ife H
     obtain ⟨i3, H⟩ := ife H
     by_cases g3 : d4 < ((Ac2 ((Ad6 l0 0).f0) (rd l1 a2)).f1)
     ·rw [if_pos g3] at H
      have g8 := decide_eq_true g3
      clear g3
      obtain ⟨d5, i0, H⟩ := ob H
      try dsimp only at H
      have g9 := am H
      clear H
      have b4 : 0 ≤ (0 : Int) := (by omega)
      have b5 : 0 < (l0.length : Int) := od
      obtain ⟨d6, e5, e6, e7, a0, a3, a4⟩ := Aj0 e2.out 0 b4 b5
      cases e7
      have h0 : (0 < l0.length) = True := eq_true (by omega)
      (try simp only [t0_] at a0)
      replace a0 := cz HB.out a0
      have d9 := am a4
      have e0 := am a3
      clear a4 a3
      obtain ⟨b4, b5⟩ := ee b4 b5
      have b6 : 0 ≤ (0 : Int) := (by omega)
      have b7 : 0 < (l0.length : Int) := od
      obtain ⟨d7, e8, e9, g0, a1, a5, a6⟩ := Aj0 e2.out 0 b6 b7
      obtain rfl : d6 = d7 := (by injection g0)
      have h2 : (0 < l0.length) = True := eq_true (by omega)
      (try simp only [t0_] at a1)
      replace a1 := cz HB.out a1
      have b0 := am a6
      have e1 := am a5
      clear a6 a5
      obtain ⟨b6, b7⟩ := ee b6 b7
      obtain ⟨rfl, rfl⟩ := sj a0 a1
      have b8 : 0 ≤ (a2 : Int) := od
      have b9 : a2 < (l1.length : Int) := od
      obtain ⟨d8, g1, a7⟩ := Kd.at_int e3.out a2 b8 b9
      obtain rfl : d3 = d8 := (by injection g1)
      replace a7 := cz HB.out a7
      obtain ⟨b8, b9⟩ := ee b8 b9
      have c0 : 0 ≤ ((rd l1 a2) : Int) := od
      have d0 : (rd l1 a2) < (((Ad6 l0 0).f0).length : Int) := od
      obtain ⟨h3, g2, a8, a9⟩ := Ap3 b0.out (rd l1 a2) c0 d0
      cases g2
      replace a8 := cz HB.out a8
      replace a9 := cz HB.out a9
      obtain ⟨c0, d0⟩ := ee c0 d0
      go_upto_if 42 with (first | (go_at_call 48; refine (ih k1 (by have := g7.out; omega) _ l0 _ _ l1 d2 d5 _ (cq (Kd.C_below e2.out HB.out)) (cq (Kd.C_below e3.out HB.out)) h7.out i0.out).mono ?_; rintro e i4 ⟨rfl, hb⟩; replace HB := sb HB hb; (try clear hb)))
      repeat (go_quiet (first | (go_at_call 48; refine (ih k1 (by have := g7.out; omega) _ l0 _ _ l1 d2 d5 _ (cq (Kd.C_below e2.out HB.out)) (cq (Kd.C_below e3.out HB.out)) h7.out i0.out).mono ?_; rintro e i4 ⟨rfl, hb⟩; replace HB := sb HB hb; (try clear hb))); go_upto_if 42 with (first | (go_at_call 48; refine (ih k1 (by have := g7.out; omega) _ l0 _ _ l1 d2 d5 _ (cq (Kd.C_below e2.out HB.out)) (cq (Kd.C_below e3.out HB.out)) h7.out i0.out).mono ?_; rintro e i4 ⟨rfl, hb⟩; replace HB := sb HB hb; (try clear hb))))
      have H := g9.out
      clear g9
      by_cases g4 : d5 < 0
      ·rw [if_pos g4] at H
       have b3 := decide_eq_true g4
       clear g4
       (first | rw [b3] | (simp only [Ae6, Ae7]; rw [b3]) | skip)
       obtain rfl := Option.some.inj H
       go_wp2
       repeat (go_quiet (fail); try go_wp2)
       go_ret
       exact ⟨er, hq HB.out⟩
      ·rw [if_neg g4] at H
       have b3 := decide_eq_false g4
       clear g4
       (first | rw [b3] | (simp only [Ae6, Ae7]; rw [b3]) | skip)
       have H' := am H
       clear H
       go_wp2
       repeat (go_quiet (fail); try go_wp2)
       go_roundg k1
       case measure => have := g7.out; omega
       case rel => exact ⟨(d5), (wrap64 (d4 + 1)), et, et, H', ⟨by have := g7.out; omega⟩, ⟨hq HB.out⟩⟩
     ·rw [if_neg g3] at H
      have g8 := decide_eq_false g3
      clear g3
      obtain rfl := Option.some.inj H
      have b4 : 0 ≤ (0 : Int) := (by omega)
      have b5 : 0 < (l0.length : Int) := od
      obtain ⟨d6, e5, e6, e7, a0, a3, a4⟩ := Aj0 e2.out 0 b4 b5
      cases e7
      have h0 : (0 < l0.length) = True := eq_true (by omega)
      (try simp only [t0_] at a0)
      replace a0 := cz HB.out a0
      have d9 := am a4
      have e0 := am a3
      clear a4 a3
      obtain ⟨b4, b5⟩ := ee b4 b5
      have b6 : 0 ≤ (0 : Int) := (by omega)
      have b7 : 0 < (l0.length : Int) := od
      obtain ⟨d7, e8, e9, g0, a1, a5, a6⟩ := Aj0 e2.out 0 b6 b7
      obtain rfl : d6 = d7 := (by injection g0)
      have h2 : (0 < l0.length) = True := eq_true (by omega)
      (try simp only [t0_] at a1)
      replace a1 := cz HB.out a1
      have b0 := am a6
      have e1 := am a5
      clear a6 a5
      obtain ⟨b6, b7⟩ := ee b6 b7
      obtain ⟨rfl, rfl⟩ := sj a0 a1
      have b8 : 0 ≤ (a2 : Int) := od
      have b9 : a2 < (l1.length : Int) := od
      obtain ⟨d8, g1, a7⟩ := Kd.at_int e3.out a2 b8 b9
      obtain rfl : d3 = d8 := (by injection g1)
      replace a7 := cz HB.out a7
      obtain ⟨b8, b9⟩ := ee b8 b9
      have c0 : 0 ≤ ((rd l1 a2) : Int) := od
      have d0 : (rd l1 a2) < (((Ad6 l0 0).f0).length : Int) := od
      obtain ⟨h3, g2, a8, a9⟩ := Ap3 b0.out (rd l1 a2) c0 d0
      cases g2
      replace a8 := cz HB.out a8
      replace a9 := cz HB.out a9
      obtain ⟨c0, d0⟩ := ee c0 d0
      go_wp2
      repeat (go_quiet (fail); try go_wp2)
      go_ret
      exact ⟨er, hq HB.out⟩
end Go.Proofs.YtgichahebemmiaaGreatDoor.P
