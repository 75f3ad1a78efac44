/- A part of the proof of the law FnTexts. -/
import Derived.LoopN
import Derived.Lib.SliceRun
import Derived.Shelf.SlicesG.CompactI
import Derived.Sort.OwnSortedInts
import Derived.Lib.OwnBridge
import Derived.Shelf.SlicesG.Turned
import Derived.Shelf.SortM.Plain
import Derived.Shelf.SortM.SortNone
import Derived.Laws.IdiomStrings
import Derived.Shelf.Strings.Cut
import Derived.Shelf.Strings.FieldsFuncAny
import Derived.Shelf.Strings.OnBuilder
import Derived.Shelf.Strings.BuilderX
import Derived.Shelf.Strings.SlTrimAscii
import Derived.Test.YtbdpnkpienpnaaaGreatDoorCFnTexts1
import Derived.Test.YtbdpnkpienpnaaaGreatDoorCFnTexts19
set_option maxHeartbeats 8000000
set_option maxRecDepth 100000
namespace Go.Proofs.YtbdpnkpienpnaaaGreatDoor.P
open Go.RowKit Go.Proofs.YtbdpnkpienpnaaaGreatDoorW.PrintWords Go.Proofs.YtbdpnkpienpnaaaGreatDoorW.PrintLast Go.Proofs.YtbdpnkpienpnaaaGreatDoorW.PrintMore
attribute [local go_sem] max2_int min2_int max_two min_two max_three min_three max_four min_four   -- for this text's walks alone
set_option linter.unusedVariables false
set_option linter.unusedSimpArgs false
theorem below_keep {w0 w W W' : World} {g : Nat} (h0 : Below w0.heap.size w0 w) (h : Below w.heap.size w W) (hk : KeepBut W W' g none) (hg : w.heap.size ≤ g) (hb : Below w0.heap.size w0 W') : Below w.heap.size w W' :=
 ⟨hb.os.trans h0.os.symm, hb.tape.trans h0.tape.symm, hb.output.trans h0.output.symm, Nat.le_trans h.size hk.1, fun k hkk => (hk.2 k (Nat.lt_of_lt_of_le hkk h.size) (by omega) (by simp)).trans (h.block k hkk)⟩
def errW : Option Int → Value
 | none => .nilIface
 | some c => .iface 0 (.int .i64 c)
theorem errW_none : errW none = .nilIface := rfl
theorem errW_some (c : Int) : errW (some c) = .iface 0 (.int .i64 c) := rfl
section
variable {P : Program} {ops : Array Oper} {Q : Exit → Act → World → Prop}
theorem gate_calleeV {o : Oper} {rest : List Oper} {a : Act} {W : World} (t : Tmp) {asl : Array Operand} {ts : Array TypeId} (_ho : o.op = .call { callee := .value (.tmp t), args := asl, argTypes := ts }) (h : wpList P ops Q (o :: rest) a W) : wpList P ops Q (o :: rest) a W := h
theorem goesV_ {rest : List Oper} {oi : Oper} {a : Act} {w : World} (N : Option Tmp) (hd : oi.dst = N) (hg : oi.guard = none) {t : Tmp} {f : FuncId} {fn : Func} {asl : Array Operand} {ts : Array TypeId} {caps : Array Value} (hf : P.funcs[f]? = some fn) (hname : (fn.name == "runtime.NumGoroutine") = false) (hb : fn.body.isSome = true) (args : Array Value)
  (hop : oi.op = .call { callee := .value (.tmp t), args := asl, argTypes := ts }) (hv : a.eval (.tmp t) = .func (.func f) #[] caps) (hargs : asl.map a.eval ++ caps = args)
  (h : Calls P f args w fun e w' => ∃ v, e = .returned v ∧ wpList P ops Q rest (a.put N v) w') : wpList P ops Q (oi :: rest) a w := by
 refine wpList_plain hg fun K hK => ?_
 have he := enters_ hf hname hb args w
 have hrun : (execOp a.eval oi).run P w = .ok (.enter f args) w := by
  unfold execOp
  simp [hop, resolve, Deferred.ofValue, invoke, hv, hargs, he]
 unfold Oper.wp
 rw [hrun, Oper.upon_enter]
 refine h.mono fun e w'' hh => ?_
 obtain ⟨v, rfl, hk⟩ := hh
 subst hd
 exact hK _ _ hk
end
theorem info2 : (Tryz.prog.info? 2).map (fun i => (i.zero, i.size, i.bytes)) = some (some (.int .i64 0), 1, 8) := by kernel_rfl
theorem info3 : (Tryz.prog.info? 3).map (fun i => (i.zero, i.size, i.bytes)) = some (some (.int .i64 0), 1, 8) := by kernel_rfl
theorem info9 : (Tryz.prog.info? 9).map (fun i => (i.zero, i.size, i.bytes)) = some (some (.string ⟨#[]⟩), 1, 16) := by kernel_rfl
theorem info90 : (Tryz.prog.info? 90).map (fun i => (i.zero, i.size, i.bytes)) = some (some (.agg #[(.string ⟨#[]⟩), (.int .i64 0)]), 2, 24) := by kernel_rfl
structure S90 where
 f0 : ByteArray
 f1 : Int
def z90 : S90 := ⟨(⟨#[]⟩ : ByteArray), (0 : Int)⟩
def k90 : Kd S90 := Kd.iso (Kd.pair Kd.string (Kd.int .i64)) (fun x : S90 => (x.f0, x.f1))
theorem k90_open {w : World} {x : S90} {cs : List Value} (h : k90.K w x cs) : cs = [.string x.f0, .int .i64 x.f1] := by
 obtain ⟨_, _, rfl, rfl, rfl⟩ := h
 exact rfl
theorem k90_openM {w : World} {base : Nat} {ok : Nat → Prop} {x : S90} {cs : List Value} (h : k90.M w base ok x cs) : cs = [.string x.f0, .int .i64 x.f1] := by
 obtain ⟨_, _, rfl, rfl, rfl⟩ := h
 exact rfl
theorem k90_mkM (w : World) (base : Nat) (ok : Nat → Prop) (x : S90)  : k90.M w base ok x [.string x.f0, .int .i64 x.f1] := ⟨[.string x.f0], [.int .i64 x.f1], rfl, rfl, rfl⟩
def rd_T90 (xs : List S90) (i : Int) : S90 := xs.getD i.toNat z90
theorem at_T90 {w : World} {A : Option Addr} {n : Nat} {xs : List S90} (h : Kd.C k90 w A n xs) (i : Int) (h0 : 0 ≤ i) (h1 : i < n) : ∃ ad , A = some ad ∧ w.cell? (ad.add (i.toNat * 2)) = some (.string (rd_T90 xs i).f0) ∧ w.cell? ⟨(ad.add (i.toNat * 2)).block, (ad.add (i.toNat * 2)).off + 1, none⟩ = some (.int .i64 (rd_T90 xs i).f1) := by
 obtain ⟨ad, c, e, _, hK, hc0⟩ := Kd.C_get h z90 i h0 h1
 have hc : ∀ j u, c[j]? = some u → w.cell? (ad.add (i.toNat * 2 + j)) = some u := hc0
 obtain rfl := k90_open hK
 exact ⟨ad, e, hc 0 _ rfl, by rw [← add_field _ _ 1 (by omega)]; exact hc 1 _ rfl⟩
structure S26 where
 f0 : (List S90)
def z26 : S26 := ⟨([] : List S90)⟩
def k26 : Kd S26 := Kd.iso (Kd.slice 90 k90) (fun x : S26 => x.f0)
theorem k26_open {w : World} {x : S26} {cs : List Value} (h : k26.K w x cs) : ∃ A0 c0, cs = [.slice A0 x.f0.length c0] ∧ x.f0.length ≤ c0 ∧ k90.C w A0 x.f0.length x.f0 := by
 obtain ⟨A0, c0, rfl, l0, g0⟩ := h
 exact ⟨A0, c0, rfl, l0, g0⟩
theorem k26_mk (w : World) (x : S26) {A0 : Option Addr} {c0 : Nat} (l0 : x.f0.length ≤ c0) (g0 : k90.C w A0 x.f0.length x.f0) : k26.K w x [.slice A0 x.f0.length c0] := ⟨A0, c0, rfl, l0, g0⟩
def rd_T26 (xs : List S26) (i : Int) : S26 := xs.getD i.toNat z26
theorem at_T26 {w : World} {A : Option Addr} {n : Nat} {xs : List S26} (h : Kd.C k26 w A n xs) (i : Int) (h0 : 0 ≤ i) (h1 : i < n) : ∃ ad A0 c0, A = some ad ∧ w.cell? (ad.add i.toNat) = some (.slice A0 (rd_T26 xs i).f0.length c0) ∧ (rd_T26 xs i).f0.length ≤ c0 ∧ k90.C w A0 (rd_T26 xs i).f0.length (rd_T26 xs i).f0 := by
 obtain ⟨ad, c, e, _, hK, hc0⟩ := Kd.C_get h z26 i h0 h1
 have hc : ∀ j u, c[j]? = some u → w.cell? (ad.add (i.toNat * 1 + j)) = some u := hc0
 obtain ⟨A0, c0, rfl, l0, g0⟩ := k26_open hK
 exact ⟨ad, A0, c0, e, by have hq := hc 0 _ rfl; rwa [Nat.mul_one, Nat.add_zero] at hq, l0, g0⟩
def rd_L6 (xs : List (List Int)) (i : Int) : (List Int) := xs.getD i.toNat ([] : List Int)
theorem at_L6 {w : World} {A : Option Addr} {n : Nat} {xs : List (List Int)} (h : Kd.C (Kd.slice 2 (Kd.int .i64)) w A n xs) (i : Int) (h0 : 0 ≤ i) (h1 : i < n) : ∃ ad A0 c0, A = some ad ∧ w.cell? (ad.add i.toNat) = some (.slice A0 (rd_L6 xs i).length c0) ∧ (rd_L6 xs i).length ≤ c0 ∧ (Kd.int .i64).C w A0 (rd_L6 xs i).length (rd_L6 xs i) := by
 obtain ⟨ad, c, e, _, hK, hc0⟩ := Kd.C_get h ([] : List Int) i h0 h1
 have hc : ∀ j u, c[j]? = some u → w.cell? (ad.add (i.toNat * 1 + j)) = some u := hc0
 obtain ⟨A0, c0, rfl, l0, g0⟩ := hK
 exact ⟨ad, A0, c0, e, by have hq := hc 0 _ rfl; rwa [Nat.mul_one, Nat.add_zero] at hq, l0, g0⟩
structure S29 where
 f0 : (List Int)
 f1 : (List Int)
def z29 : S29 := ⟨([] : List Int), ([] : List Int)⟩
def k29 : Kd S29 := Kd.iso (Kd.pair (Kd.slice 2 (Kd.int .i64)) (Kd.slice 2 (Kd.int .i64))) (fun x : S29 => (x.f0, x.f1))
theorem k29_open {w : World} {x : S29} {cs : List Value} (h : k29.K w x cs) : ∃ A0 c0 A1 c1, cs = [.slice A0 x.f0.length c0, .slice A1 x.f1.length c1] ∧ x.f0.length ≤ c0 ∧ (Kd.int .i64).C w A0 x.f0.length x.f0 ∧ x.f1.length ≤ c1 ∧ (Kd.int .i64).C w A1 x.f1.length x.f1 := by
 obtain ⟨_, _, rfl, ⟨A0, c0, rfl, l0, g0⟩, ⟨A1, c1, rfl, l1, g1⟩⟩ := h
 exact ⟨A0, c0, A1, c1, rfl, l0, g0, l1, g1⟩
theorem k29_mk (w : World) (x : S29) {A0 : Option Addr} {c0 : Nat} (l0 : x.f0.length ≤ c0) (g0 : (Kd.int .i64).C w A0 x.f0.length x.f0) {A1 : Option Addr} {c1 : Nat} (l1 : x.f1.length ≤ c1) (g1 : (Kd.int .i64).C w A1 x.f1.length x.f1) : k29.K w x [.slice A0 x.f0.length c0, .slice A1 x.f1.length c1] := ⟨[.slice A0 x.f0.length c0], [.slice A1 x.f1.length c1], rfl, ⟨A0, c0, rfl, l0, g0⟩, ⟨A1, c1, rfl, l1, g1⟩⟩
def rd_T29 (xs : List S29) (i : Int) : S29 := xs.getD i.toNat z29
theorem at_T29 {w : World} {A : Option Addr} {n : Nat} {xs : List S29} (h : Kd.C k29 w A n xs) (i : Int) (h0 : 0 ≤ i) (h1 : i < n) : ∃ ad A0 c0 A1 c1, A = some ad ∧ w.cell? (ad.add (i.toNat * 2)) = some (.slice A0 (rd_T29 xs i).f0.length c0) ∧ w.cell? ⟨(ad.add (i.toNat * 2)).block, (ad.add (i.toNat * 2)).off + 1, none⟩ = some (.slice A1 (rd_T29 xs i).f1.length c1) ∧ (rd_T29 xs i).f0.length ≤ c0 ∧ (Kd.int .i64).C w A0 (rd_T29 xs i).f0.length (rd_T29 xs i).f0 ∧ (rd_T29 xs i).f1.length ≤ c1 ∧ (Kd.int .i64).C w A1 (rd_T29 xs i).f1.length (rd_T29 xs i).f1 := by
 obtain ⟨ad, c, e, _, hK, hc0⟩ := Kd.C_get h z29 i h0 h1
 have hc : ∀ j u, c[j]? = some u → w.cell? (ad.add (i.toNat * 2 + j)) = some u := hc0
 obtain ⟨A0, c0, A1, c1, rfl, l0, g0, l1, g1⟩ := k29_open hK
 exact ⟨ad, A0, c0, A1, c1, e, hc 0 _ rfl, by rw [← add_field _ _ 1 (by omega)]; exact hc 1 _ rfl, l0, g0, l1, g1⟩
theorem k9_box {w : World} {g : Nat} {f0 : ByteArray} (hb : w.heap[g]? = some (.cells #[.string f0] 9 (0, 0))) : Kd.C Kd.string w (some ⟨g, 0, none⟩) 1 [f0] := by
 refine ⟨rfl, by omega, fun _ => ⟨_, rfl, fun j p hj => ?_⟩⟩
 have hj0 : j = 0 := by have := (List.getElem?_eq_some_iff.1 hj).1; simp at this; omega
 subst hj0
 obtain rfl : f0 = p := by simpa using hj
 refine ⟨[.string f0], rfl, rfl, fun q u hu => ?_⟩
 rw [Nat.zero_mul, Nat.zero_add, add_plain]
 exact (blk_cell hb q).trans (by simpa using hu)
theorem k26_box {w : World} {g : Nat} {f0 : List (S90)} {A0 : Option Addr} {c0 : Nat} (hb : w.heap[g]? = some (.cells #[.slice A0 f0.length c0] 26 (0, 0))) (h0 : Kd.C k90 w A0 f0.length f0) (hl0 : f0.length ≤ c0) : Kd.C k26 w (some ⟨g, 0, none⟩) 1 [(⟨f0⟩ : S26)] := by
 refine ⟨rfl, by omega, fun _ => ⟨_, rfl, fun j p hj => ?_⟩⟩
 have hj0 : j = 0 := by have := (List.getElem?_eq_some_iff.1 hj).1; simp at this; omega
 subst hj0
 obtain rfl : (⟨f0⟩ : S26) = p := by simpa using hj
 refine ⟨[.slice A0 f0.length c0], rfl, k26_mk w _ hl0 h0, fun q u hu => ?_⟩
 rw [Nat.zero_mul, Nat.zero_add, add_plain]
 exact (blk_cell hb q).trans (by simpa using hu)
theorem k29_box {w : World} {g : Nat} {f0 : List Int} {f1 : List Int} {A0 : Option Addr} {c0 : Nat} {A1 : Option Addr} {c1 : Nat} (hb : w.heap[g]? = some (.cells #[.slice A0 f0.length c0, .slice A1 f1.length c1] 29 (0, 0))) (h0 : Kd.C (Kd.int .i64) w A0 f0.length f0) (hl0 : f0.length ≤ c0) (h1 : Kd.C (Kd.int .i64) w A1 f1.length f1) (hl1 : f1.length ≤ c1) : Kd.C k29 w (some ⟨g, 0, none⟩) 1 [(⟨f0, f1⟩ : S29)] := by
 refine ⟨rfl, by omega, fun _ => ⟨_, rfl, fun j p hj => ?_⟩⟩
 have hj0 : j = 0 := by have := (List.getElem?_eq_some_iff.1 hj).1; simp at this; omega
 subst hj0
 obtain rfl : (⟨f0, f1⟩ : S29) = p := by simpa using hj
 refine ⟨[.slice A0 f0.length c0, .slice A1 f1.length c1], rfl, k29_mk w _ hl0 h0 hl1 h1, fun q u hu => ?_⟩
 rw [Nat.zero_mul, Nat.zero_add, add_plain]
 exact (blk_cell hb q).trans (by simpa using hu)
end Go.Proofs.YtbdpnkpienpnaaaGreatDoor.P
namespace Go.Proofs.YtbdpnkpienpnaaaGreatDoor.P
open Go.RowKit Go.Proofs.YtbdpnkpienpnaaaGreatDoorW.PrintWords Go.Proofs.YtbdpnkpienpnaaaGreatDoorW.PrintLast Go.Proofs.YtbdpnkpienpnaaaGreatDoorW.PrintMore
attribute [local go_sem] max2_int min2_int max_two min_two max_three min_three max_four min_four   -- for this text's walks alone
set_option linter.unusedVariables false
set_option linter.unusedSimpArgs false
theorem eqA46 (d : Nat) (w : World) (x0 y0 : Int) (x1 y1 : ByteArray) :
  (Op.equalIn (d + 2) 46 (.agg #[.int .i64 x0, .string x1]) (.agg #[.int .i64 y0, .string y1])).run Tryz.prog w = .ok (x0 == y0 && (x1.toList == y1.toList)) w := by
 refine eqA_of Tryz.underlying46 (by kernel_rfl) ?_
 refine eqf_cons (by rfl) (by go_simp; rfl) (by go_simp; rfl) (by go_simp) ?_
 exact eqf_last (by rfl) (by go_simp; rfl) (by go_simp; rfl) (by go_simp)
attribute [local go_sem] max2_int min2_int max_two min_two max_three min_three max_four min_four   -- for this text's walks alone
set_option linter.unusedVariables false
set_option linter.unusedSimpArgs false
def laws_lwBig.f (l0 : List Int) : Option (Bool) := some (decide ((l0.length : Int) > 1048576))
theorem laws_lwBig.calls (A0 : Option Addr) (c0 : Nat) (l0 : List Int) (r : Bool) (w : World) (a1 : Kd.C (Kd.int .u8) w A0 l0.length l0) (a0 : l0.length ≤ c0) (h : laws_lwBig.f l0 = some r) :
  Calls Tryz.prog 5 #[.slice A0 l0.length c0] w fun e w' => e = .returned (.bool r) ∧ Drawn0 w w' := by
 have a3 := am a1
 have a2 := am a0
 clear a1 a0
 have H : (some (decide ((l0.length : Int) > 1048576))) = some r := h
 clear h
 obtain rfl := Option.some.inj H
 go_enter Tryz.func5, Tryz.ntmps5
 go_wp2
 go_ret
 exact ⟨et, dn⟩
def cmp_Or_int64.l0 : Nat → Int → List Int → Int → Int → Option (Int)
 | 0, _, _, _, _ => none
 | k + 1, x3, x6, x7, x8 => if x8 < x7 then (if 0 ≤ x8 then (if x8 < (x6.length : Int) then (if (rd x6 x8) = x3 then (cmp_Or_int64.l0 k x3 x6 x7 (wrap64 (x8 + 1))) else (some (rd x6 x8))) else (none)) else (none)) else (some x3)
def cmp_Or_int64.f (k : Nat) (l0 : List Int) : Option (Int) := cmp_Or_int64.l0 k 0 l0 (l0.length : Int) 0
theorem cmp_Or_int64.calls (k : Nat) (A0 : Option Addr) (c0 : Nat) (l0 : List Int) (r : Int) (w : World) (b2 : Kd.C (Kd.int .i64) w A0 l0.length l0) (b1 : l0.length ≤ c0) (h : cmp_Or_int64.f k l0 = some r) :
  Calls Tryz.prog 58 #[.slice A0 l0.length c0] w fun e w' => e = .returned (.int .i64 r) ∧ Drawn0 w w' := by
 have b0 := am b2
 have b5 := am b1
 clear b2 b1
 have H : (cmp_Or_int64.l0 k 0 l0 (l0.length : Int) 0) = some r := h
 clear h
 have H' := am H
 clear H
 go_enter Tryz.func58, Tryz.ntmps58
 go_wp2
 go_loopg [8] k (fun kq v8 w' => ∃ (a0 : Int), v8 = .int .i64 a0 ∧ Aside0 (cmp_Or_int64.l0 kq 0 l0 (l0.length : Int) a0 = some r) ∧ Aside0 (kq ≤ k) ∧ Drawn0 w w')
 case atStart => exact ⟨(0), et, H', ⟨Nat.le_refl _⟩, dn⟩
 case round =>
  clear H'
  obtain ⟨a0, rfl, HA, a9, ⟨m1, rfl⟩⟩ := hrel
  cases gk with
  | zero => exact absurd HA.out (by simp [cmp_Or_int64.l0])
  | succ k1 =>
   have H := HA.out
   clear HA
   simp only [cmp_Or_int64.l0] at H
   by_cases c2 : a0 < (l0.length : Int)
   ·rw [if_pos c2] at H
    have a6 := decide_eq_true c2
    clear c2
    obtain ⟨b3, H⟩ := ife H
    obtain ⟨b4, H⟩ := ife H
    by_cases c5 : (rd l0 a0) = 0
    ·rw [if_pos c5] at H
     obtain ⟨a7, a8⟩ := bqt c5; clear c5
     have H' := am H
     clear H
     have a1 : 0 ≤ (a0 : Int) := od
     have a2 : a0 < (l0.length : Int) := od
     obtain ⟨a5, a4, a3⟩ := Kd.at_int b0.out a0 a1 a2
     cases a4
     obtain ⟨a1, a2⟩ := ee a1 a2
     go_wp2
     go_roundg k1
     case measure => have := a9.out; omega
     case rel => exact ⟨(wrap64 (a0 + 1)), et, H', ⟨by have := a9.out; omega⟩, dn⟩
    ·rw [if_neg c5] at H
     obtain ⟨a7, a8⟩ := bqf c5
     obtain rfl := Option.some.inj H
     have a1 : 0 ≤ (a0 : Int) := od
     have a2 : a0 < (l0.length : Int) := od
     obtain ⟨a5, a4, a3⟩ := Kd.at_int b0.out a0 a1 a2
     cases a4
     obtain ⟨a1, a2⟩ := ee a1 a2
     go_wp2
     go_ret
     exact ⟨et, dn⟩
   ·rw [if_neg c2] at H
    have a6 := decide_eq_false c2
    clear c2
    obtain rfl := Option.some.inj H
    go_wp2
    go_ret
    exact ⟨et, dn⟩
def impl_firstCode.f (k : Nat) (l0 : List Int) : Option (Int) := (cmp_Or_int64.f k l0).bind fun a0 => (some a0)
theorem impl_firstCode.calls (k : Nat) (A0 : Option Addr) (c0 : Nat) (l0 : List Int) (r : Int) (w : World) (a2 : Kd.C (Kd.int .i64) w A0 l0.length l0) (a1 : l0.length ≤ c0) (h : impl_firstCode.f k l0 = some r) :
  Calls Tryz.prog 27 #[.slice A0 l0.length c0] w fun e w' => e = .returned (.int .i64 r) ∧ Below w.heap.size w w' := by
 have a4 := am a2
 have a3 := am a1
 clear a2 a1
 have HB := am (Below.refl w.heap.size w)
 have H : ((cmp_Or_int64.f k l0).bind fun a0 => (some a0)) = some r := h
 clear h
 obtain ⟨a0, A2, H⟩ := ob H
 try dsimp only at H
 obtain rfl := Option.some.inj H
 go_enter Tryz.func27, Tryz.ntmps27
 go_wp2_with (first | (refine gl (some 4) Tryz.func58 rfl #[.slice A0 l0.length c0] ?_; refine (cmp_Or_int64.calls k _ _ l0 a0 _ (cq a4.out) a3.out A2.out).mono ?_; rintro e w' ⟨rfl, ⟨nd, rfl⟩⟩; refine ⟨_, rfl, ?_⟩))
 go_ret
 exact ⟨er, hq HB.out⟩
def impl_within.f (a0 : Int) (a1 : Int) (a2 : Int) : Option (Bool) := if a0 ≥ a1 then (some (decide (a0 ≤ a2))) else (some false)
theorem impl_within.calls (a0 : Int) (a1 : Int) (a2 : Int) (r : Bool) (w : World) (h : impl_within.f a0 a1 a2 = some r) :
  Calls Tryz.prog 33 #[.int .i64 a0, .int .i64 a1, .int .i64 a2] w fun e w' => e = .returned (.bool r) ∧ Drawn0 w w' := by
 have H : (if a0 ≥ a1 then (some (decide (a0 ≤ a2))) else (some false)) = some r := h
 clear h
 by_cases c4 : a0 ≥ a1
 ·rw [if_pos c4] at H
  have a3 := decide_eq_true c4
  clear c4
  obtain rfl := Option.some.inj H
  go_enter Tryz.func33, Tryz.ntmps33
  go_wp2
  go_ret
  exact ⟨et, dn⟩
 ·rw [if_neg c4] at H
  have a3 := decide_eq_false c4
  clear c4
  obtain rfl := Option.some.inj H
  go_enter Tryz.func33, Tryz.ntmps33
  go_wp2
  go_ret
  exact ⟨et, dn⟩
def strings_Trim.f (s cut : ByteArray) : Option ByteArray := if s.size ≤ 9223372036854775807 ∧ cut.size < 4294967281 ∧ (cut.data.toList.all fun b => decide (b.toNat < 128)) = true then some ⟨(Lib.trimS s.data.toList cut.data.toList).toArray⟩ else none
theorem strings_Trim.calls (s cut : ByteArray) (r : ByteArray) (w : World) (h : strings_Trim.f s cut = some r) :
  Calls Tryz.prog 95 #[.string s, .string cut] w fun e w' => e = .returned (.string r) ∧ Below w.heap.size w w' := by
 unfold strings_Trim.f at h
 by_cases hc : s.size ≤ 9223372036854775807 ∧ cut.size < 4294967281 ∧ (cut.data.toList.all fun b => decide (b.toNat < 128)) = true
 ·rw [if_pos hc] at h
  obtain rfl := Option.some.inj h
  exact Any.strings_Trim_laid Shelf.lays160 (by kernel_rfl) s cut w hc.1 hc.2.1 (ascii_of_all hc.2.2)
 ·rw [if_neg hc] at h
  cases h
def impl_isName.f (a0 : ByteArray) : Option (Bool) := if (a0.size : Int) ≥ 1 then (if (a0.size : Int) ≤ 3 then ((strings_Trim.f a0 (⟨#[97, 98, 99, 100, 101, 102, 103, 104, 105, 106, 107, 108, 109, 110, 111, 112, 113, 114, 115, 116, 117, 118, 119, 120, 121, 122]⟩ : ByteArray)).bind fun a1 => (some (a1.toList == ([] : List UInt8)))) else (some false)) else (some false)
theorem impl_isName.calls (a0 : ByteArray) (r : Bool) (w : World) (h : impl_isName.f a0 = some r) :
  Calls Tryz.prog 76 #[.string a0] w fun e w' => e = .returned (.bool r) ∧ Below w.heap.size w w' := by
 have HB := am (Below.refl w.heap.size w)
 have H : (if (a0.size : Int) ≥ 1 then (if (a0.size : Int) ≤ 3 then ((strings_Trim.f a0 (⟨#[97, 98, 99, 100, 101, 102, 103, 104, 105, 106, 107, 108, 109, 110, 111, 112, 113, 114, 115, 116, 117, 118, 119, 120, 121, 122]⟩ : ByteArray)).bind fun a1 => (some (a1.toList == ([] : List UInt8)))) else (some false)) else (some false)) = some r := h
 clear h
 by_cases c2 : (a0.size : Int) ≥ 1
 ·rw [if_pos c2] at H
  have a2 := decide_eq_true c2
  have a3 : decide (1 ≤ a0.size) = true := decide_eq_true (by omega)
  clear c2
  by_cases c3 : (a0.size : Int) ≤ 3
  ·rw [if_pos c3] at H
   have a4 := decide_eq_true c3
   have a5 : decide (a0.size ≤ 3) = true := decide_eq_true (by omega)
   clear c3
   obtain ⟨a1, A4, H⟩ := ob H
   try dsimp only at H
   obtain rfl := Option.some.inj H
   go_enter Tryz.func76, Tryz.ntmps76
   go_wp2_with (first | (go_at_call 95; refine (strings_Trim.calls a0 (⟨#[97, 98, 99, 100, 101, 102, 103, 104, 105, 106, 107, 108, 109, 110, 111, 112, 113, 114, 115, 116, 117, 118, 119, 120, 121, 122]⟩ : ByteArray) a1 _ A4.out).mono ?_; rintro e w5 ⟨rfl, hb⟩; replace HB := sb HB hb; (try clear hb)))
   go_ret
   exact ⟨er, hq HB.out⟩
  ·rw [if_neg c3] at H
   have a4 := decide_eq_false c3
   have a5 : decide (a0.size ≤ 3) = false := decide_eq_false (by omega)
   clear c3
   obtain rfl := Option.some.inj H
   go_enter Tryz.func76, Tryz.ntmps76
   go_wp2
   go_ret
   exact ⟨er, hq HB.out⟩
 ·rw [if_neg c2] at H
  have a2 := decide_eq_false c2
  have a3 : decide (1 ≤ a0.size) = false := decide_eq_false (by omega)
  clear c2
  obtain rfl := Option.some.inj H
  go_enter Tryz.func76, Tryz.ntmps76
  go_wp2
  go_ret
  exact ⟨er, hq HB.out⟩
def impl_symbolIndex_1_with.f (a0 : ByteArray) (a1 : Int) (l1 : List ByteArray) : Option (Bool) := if 0 < (l1.length : Int) then (some (a0.toList == (rdOf ByteArray.empty l1 0).toList)) else (none)
theorem impl_symbolIndex_1_with.calls (a2 : ByteArray) (a3 : Int) (A1 : Option Addr) (l1 : List ByteArray) (r : Bool) (w : World) (b5 : Kd.C Kd.string w A1 l1.length l1) (h : impl_symbolIndex_1_with.f a2 a3 l1 = some r) :
  Calls Tryz.prog 97 #[.agg #[.string a2, .int .i64 a3], .pointer A1] w fun e w' => e = .returned (.bool r) ∧ Below w.heap.size w w' := by
 have c0 := Tryz.underlying90
 have b7 := am b5
 clear b5
 have HB := am (Below.refl w.heap.size w)
 have H : (if 0 < (l1.length : Int) then (some (a2.toList == (rdOf ByteArray.empty l1 0).toList)) else (none)) = some r := h
 clear h
 obtain ⟨c3, H⟩ := ifs H
 have b8 := decide_eq_true c3
 have b9 : decide (0 < l1.length) = true := decide_eq_true (by omega)
 clear c3
 obtain rfl := Option.some.inj H
 go_enter Tryz.func97, Tryz.ntmps97
 go_wp2_with (first | (refine bx 2 rfl #[.string a2, .int .i64 a3] 90 ?_; intro b4 hg w4 hbox hb; have a1 := am (hbox); have a6 := am (bz hg (hq HB.out)); replace HB := sb HB hb; have b2 := a6; clear hb hbox hg; have a8 := c0_ a1; have a9 := c1_ a1; have b0 := blk_frozen a1.out 0; have b1 := blk_frozen a1.out 1; have a4 : 0 ≤ (0 : Int) := (by omega); have a5 : 0 < (l1.length : Int) := od; obtain ⟨b3, a7, a0⟩ := Kd.at_string b7.out 0 a4 a5; cases a7; have b6 : (0 < l1.length) = True := eq_true (by omega); (try simp only [t0_] at a0); replace a0 := cz HB.out a0; replace a4 := eq_true a4; replace a5 := eq_true a5))
 go_ret
 exact ⟨er, hs HB.out⟩
def slices_IndexFunc_impl_Symbol_impl_Symbol_impl_symbolIndex_1.l0 : Nat → List (S90) → Int → Int → List ByteArray → Option (Int)
 | 0, _, _, _, _ => none
 | k + 1, x0, x7, x8, a0 => if x8 < x7 then (if 0 ≤ x8 then (if x8 < (x0.length : Int) then ((impl_symbolIndex_1_with.f ((rd_T90 x0 x8).f0) ((rd_T90 x0 x8).f1) a0).bind fun a1 => (if a1 = true then (some x8) else (slices_IndexFunc_impl_Symbol_impl_Symbol_impl_symbolIndex_1.l0 k x0 x7 (wrap64 (x8 + 1)) a0))) else (none)) else (none)) else (some (-1))
def slices_IndexFunc_impl_Symbol_impl_Symbol_impl_symbolIndex_1.f (k : Nat) (l0 : List (S90)) (a0 : List ByteArray) : Option (Int) := slices_IndexFunc_impl_Symbol_impl_Symbol_impl_symbolIndex_1.l0 k l0 (l0.length : Int) 0 a0
theorem slices_IndexFunc_impl_Symbol_impl_Symbol_impl_symbolIndex_1.calls (k : Nat) (A0 : Option Addr) (c0 : Nat) (l0 : List (S90)) (a4 : Option Addr) (a3 : List ByteArray) (r : Int) (w : World) (b6 : Kd.C k90 w A0 l0.length l0) (b5 : l0.length ≤ c0) (a5 : Kd.C Kd.string w a4 a3.length a3) (h : slices_IndexFunc_impl_Symbol_impl_Symbol_impl_symbolIndex_1.f k l0 a3 = some r) :
  Calls Tryz.prog 96 #[.slice A0 l0.length c0, .func (.func 97) #[] #[.pointer a4]] w fun e w' => e = .returned (.int .i64 r) ∧ Below w.heap.size w w' := by
 have c1 := Tryz.underlying90
 have b7 := am b6
 have d0 := am b5
 clear b6 b5
 have a8 := am a5
 clear a5
 have HB := am (Below.refl w.heap.size w)
 have H : (slices_IndexFunc_impl_Symbol_impl_Symbol_impl_symbolIndex_1.l0 k l0 (l0.length : Int) 0 a3) = some r := h
 clear h
 have H' := am H
 clear H
 go_enter Tryz.func96, Tryz.ntmps96
 go_wp2
 go_loopg [8] k (fun kq v8 w' => ∃ (a0 : Int), v8 = .int .i64 a0 ∧ Aside0 (slices_IndexFunc_impl_Symbol_impl_Symbol_impl_symbolIndex_1.l0 kq l0 (l0.length : Int) a0 a3 = some r) ∧ Aside0 (kq ≤ k) ∧ Aside0 (Below w.heap.size w w'))
 case atStart => exact ⟨(0), et, H', ⟨Nat.le_refl _⟩, ⟨hq HB.out⟩⟩
 case round =>
  clear H'
  obtain ⟨a0, rfl, HA, b3, HB⟩ := hrel
  cases gk with
  | zero => exact absurd HA.out (by simp [slices_IndexFunc_impl_Symbol_impl_Symbol_impl_symbolIndex_1.l0])
  | succ k1 =>
   have H := HA.out
   clear HA
   simp only [slices_IndexFunc_impl_Symbol_impl_Symbol_impl_symbolIndex_1.l0] at H
   by_cases c3 : a0 < (l0.length : Int)
   ·rw [if_pos c3] at H
    have b0 := decide_eq_true c3
    clear c3
    obtain ⟨b8, H⟩ := ife H
    obtain ⟨b9, H⟩ := ife H
    obtain ⟨a9, A6, H⟩ := ob H
    try dsimp only at H
    have b2 := am H
    clear H
    have a6 : 0 ≤ (a0 : Int) := od
    have a7 : a0 < (l0.length : Int) := od
    obtain ⟨b4, b1, a1, a2⟩ := at_T90 b7.out a0 a6 a7
    cases b1
    replace a1 := cz HB.out a1
    replace a2 := cz HB.out a2
    obtain ⟨a6, a7⟩ := ee a6 a7
    go_upto_if 16 with (first | ((first | (refine gl (some 16) Tryz.func97 rfl #[.agg #[.string ((rd_T90 l0 a0).f0), .int .i64 ((rd_T90 l0 a0).f1)], .pointer a4] ?_) | ((with_reducible refine gate_calleeV _ rfl ?_); refine goesV_ (some 16) rfl rfl Tryz.func97 (by kernel_rfl) rfl #[.agg #[.string ((rd_T90 l0 a0).f0), .int .i64 ((rd_T90 l0 a0).f1)], .pointer a4] rfl rfl (by first | rfl | (simp <;> first | rfl | exact ⟨rfl, rfl⟩ | exact ⟨rfl, rfl, rfl⟩) | ((try simp only [List.map_toArray, List.map_cons, List.map_nil]); first | done | rfl | (simp only [List.length_drop, List.length_take]; rfl))) ?_)); refine (impl_symbolIndex_1_with.calls ((rd_T90 l0 a0).f0) ((rd_T90 l0 a0).f1) _ a3 a9 _ (cq (Kd.C_below a8.out HB.out)) A6.out).mono ?_; rintro e w8 ⟨rfl, hb⟩; refine ⟨_, rfl, ?_⟩; replace HB := sb HB hb; clear hb))
    have H := b2.out
    clear b2
    by_cases c9 : a9 = true
    ·subst c9
     rw [if_pos rfl] at H
     obtain rfl := Option.some.inj H
     go_wp2
     go_ret
     exact ⟨er, hq HB.out⟩
    ·replace c9 := Bool.eq_false_iff.mpr c9
     subst c9
     rw [if_neg (show ¬ (false = true) by decide)] at H
     have H' := am H
     clear H
     go_wp2
     go_roundg k1
     case measure => have := b3.out; omega
     case rel => exact ⟨(wrap64 (a0 + 1)), et, H', ⟨by have := b3.out; omega⟩, ⟨hq HB.out⟩⟩
   ·rw [if_neg c3] at H
    have b0 := decide_eq_false c3
    clear c3
    obtain rfl := Option.some.inj H
    go_wp2
    go_ret
    exact ⟨er, hq HB.out⟩
def impl_symbolIndex.f (k : Nat) (a0 : List (S90)) (a1 : ByteArray) : Option (Int) := (slices_IndexFunc_impl_Symbol_impl_Symbol_impl_symbolIndex_1.f k a0 [a1]).bind fun a2 => (some a2)
theorem impl_symbolIndex.calls (k : Nat) (a5 : Option Addr) (a6 : Nat) (a2 : List (S90)) (a1 : ByteArray) (r : Int) (w : World) (a8 : Kd.C k90 w a5 a2.length a2) (a7 : a2.length ≤ a6) (h : impl_symbolIndex.f k a2 a1 = some r) :
  Calls Tryz.prog 77 #[.agg #[.slice a5 a2.length a6], .string a1] w fun e w' => e = .returned (.int .i64 r) ∧ Below w.heap.size w w' := by
 have d1 := Tryz.underlying26
 have b4 := am a8
 have b3 := am a7
 clear a8 a7
 have HB := am (Below.refl w.heap.size w)
 have H : ((slices_IndexFunc_impl_Symbol_impl_Symbol_impl_symbolIndex_1.f k a2 [a1]).bind fun a9 => (some a9)) = some r := h
 clear h
 obtain ⟨a9, A3, H⟩ := ob H
 try dsimp only at H
 obtain rfl := Option.some.inj H
 go_enter Tryz.func77, Tryz.ntmps77
 go_wp2_with (first | (refine bx 2 rfl #[.slice a5 a2.length a6] 26 ?_; intro c0 hg w4 hbox hb; have a0 := am (hbox); have b1 := am (bz hg (hq HB.out)); replace HB := sb HB hb; have b8 := b1; clear hb hbox hg) | (refine bx 3 rfl #[.string a1] 9 ?_; intro b5 hg w5 hbox hb; have a4 := am (hbox); have b2 := am (bz hg (hs HB.out)); replace HB := sb HB hb; have b9 := b2; have a3 := nl hg a0; have b0 := ng hg a0; replace a0 := bb a0 hb; clear hb hbox hg; obtain ⟨c1, d0⟩ := nn a3; have b6 := c0_ a0; have b7 := blk_frozen a0.out 0) | (refine gl (some 8) Tryz.func96 rfl #[.slice a5 a2.length a6, .func (.func 97) #[] #[.pointer (some ⟨b5, 0, none⟩)]] ?_; refine (slices_IndexFunc_impl_Symbol_impl_Symbol_impl_symbolIndex_1.calls k _ _ a2 _ [a1] a9 _ (cq (Kd.C_below b4.out HB.out)) b3.out (k9_box (bq a4.out)) A3.out).mono ?_; rintro e w8 ⟨rfl, hb⟩; refine ⟨_, rfl, ?_⟩; replace a0 := bb a0 hb; replace a4 := bb a4 hb; replace HB := sb HB hb; clear hb))
 go_ret
 exact ⟨er, hs HB.out⟩
def impl_SignatureFault_1.f (a1 : ByteArray) (a0 : Int) : Option (Bool) := some (a0 == 0)
theorem impl_SignatureFault_1.calls (a2 : ByteArray) (a1 : Int) (r : Bool) (w : World) (h : impl_SignatureFault_1.f a2 a1 = some r) :
  Calls Tryz.prog 79 #[.agg #[.string a2, .int .i64 a1]] w fun e w' => e = .returned (.bool r) ∧ Below w.heap.size w w' := by
 have b0 := Tryz.underlying90
 have HB := am (Below.refl w.heap.size w)
 have H : (some (a1 == 0)) = some r := h
 clear h
 obtain rfl := Option.some.inj H
 go_enter Tryz.func79, Tryz.ntmps79
 go_wp2_with (first | (refine bx 1 rfl #[.string a2, .int .i64 a1] 90 ?_; intro a9 hg w2 hbox hb; have a0 := am (hbox); have a3 := am (bz hg (hq HB.out)); replace HB := sb HB hb; have a8 := a3; clear hb hbox hg; have a4 := c0_ a0; have a5 := c1_ a0; have a6 := blk_frozen a0.out 0; have a7 := blk_frozen a0.out 1))
 go_ret
 exact ⟨er, hs HB.out⟩
def slices_IndexFunc_impl_Symbol_impl_Symbol_impl_SignatureFault_1.l0 : Nat → List (S90) → Int → Int → Option (Int)
 | 0, _, _, _ => none
 | k + 1, x0, x7, x8 => if x8 < x7 then (if 0 ≤ x8 then (if x8 < (x0.length : Int) then ((impl_SignatureFault_1.f ((rd_T90 x0 x8).f0) ((rd_T90 x0 x8).f1)).bind fun a0 => (if a0 = true then (some x8) else (slices_IndexFunc_impl_Symbol_impl_Symbol_impl_SignatureFault_1.l0 k x0 x7 (wrap64 (x8 + 1))))) else (none)) else (none)) else (some (-1))
def slices_IndexFunc_impl_Symbol_impl_Symbol_impl_SignatureFault_1.f (k : Nat) (l0 : List (S90))  : Option (Int) := slices_IndexFunc_impl_Symbol_impl_Symbol_impl_SignatureFault_1.l0 k l0 (l0.length : Int) 0
theorem slices_IndexFunc_impl_Symbol_impl_Symbol_impl_SignatureFault_1.calls (k : Nat) (A0 : Option Addr) (c0 : Nat) (l0 : List (S90))  (r : Int) (w : World) (b2 : Kd.C k90 w A0 l0.length l0) (b1 : l0.length ≤ c0) (h : slices_IndexFunc_impl_Symbol_impl_Symbol_impl_SignatureFault_1.f k l0 = some r) :
  Calls Tryz.prog 96 #[.slice A0 l0.length c0, .func (.func 79) #[] #[]] w fun e w' => e = .returned (.int .i64 r) ∧ Below w.heap.size w w' := by
 have b6 := Tryz.underlying90
 have b3 := am b2
 have b7 := am b1
 clear b2 b1
 have HB := am (Below.refl w.heap.size w)
 have H : (slices_IndexFunc_impl_Symbol_impl_Symbol_impl_SignatureFault_1.l0 k l0 (l0.length : Int) 0) = some r := h
 clear h
 have H' := am H
 clear H
 go_enter Tryz.func96, Tryz.ntmps96
 go_wp2
 go_loopg [8] k (fun kq v8 w' => ∃ (a0 : Int), v8 = .int .i64 a0 ∧ Aside0 (slices_IndexFunc_impl_Symbol_impl_Symbol_impl_SignatureFault_1.l0 kq l0 (l0.length : Int) a0 = some r) ∧ Aside0 (kq ≤ k) ∧ Aside0 (Below w.heap.size w w'))
 case atStart => exact ⟨(0), et, H', ⟨Nat.le_refl _⟩, ⟨hq HB.out⟩⟩
 case round =>
  clear H'
  obtain ⟨a0, rfl, HA, a9, HB⟩ := hrel
  cases gk with
  | zero => exact absurd HA.out (by simp [slices_IndexFunc_impl_Symbol_impl_Symbol_impl_SignatureFault_1.l0])
  | succ k1 =>
   have H := HA.out
   clear HA
   simp only [slices_IndexFunc_impl_Symbol_impl_Symbol_impl_SignatureFault_1.l0] at H
   by_cases c3 : a0 < (l0.length : Int)
   ·rw [if_pos c3] at H
    have a6 := decide_eq_true c3
    clear c3
    obtain ⟨b4, H⟩ := ife H
    obtain ⟨b5, H⟩ := ife H
    obtain ⟨a5, A6, H⟩ := ob H
    try dsimp only at H
    have a8 := am H
    clear H
    have a3 : 0 ≤ (a0 : Int) := od
    have a4 : a0 < (l0.length : Int) := od
    obtain ⟨b0, a7, a1, a2⟩ := at_T90 b3.out a0 a3 a4
    cases a7
    replace a1 := cz HB.out a1
    replace a2 := cz HB.out a2
    obtain ⟨a3, a4⟩ := ee a3 a4
    go_upto_if 16 with (first | ((first | (refine gl (some 16) Tryz.func79 rfl #[.agg #[.string ((rd_T90 l0 a0).f0), .int .i64 ((rd_T90 l0 a0).f1)]] ?_) | ((with_reducible refine gate_calleeV _ rfl ?_); refine goesV_ (some 16) rfl rfl Tryz.func79 (by kernel_rfl) rfl #[.agg #[.string ((rd_T90 l0 a0).f0), .int .i64 ((rd_T90 l0 a0).f1)]] rfl rfl (by first | rfl | (simp <;> first | rfl | exact ⟨rfl, rfl⟩ | exact ⟨rfl, rfl, rfl⟩) | ((try simp only [List.map_toArray, List.map_cons, List.map_nil]); first | done | rfl | (simp only [List.length_drop, List.length_take]; rfl))) ?_)); (with_reducible refine (impl_SignatureFault_1.calls ((rd_T90 l0 a0).f0) ((rd_T90 l0 a0).f1) a5 _ A6.out).mono ?_); rintro e w8 ⟨rfl, hb⟩; refine ⟨_, rfl, ?_⟩; replace HB := sb HB hb; clear hb))
    have H := a8.out
    clear a8
    by_cases c9 : a5 = true
    ·subst c9
     rw [if_pos rfl] at H
     obtain rfl := Option.some.inj H
     go_wp2
     go_ret
     exact ⟨er, hq HB.out⟩
    ·replace c9 := Bool.eq_false_iff.mpr c9
     subst c9
     rw [if_neg (show ¬ (false = true) by decide)] at H
     have H' := am H
     clear H
     go_wp2
     go_roundg k1
     case measure => have := a9.out; omega
     case rel => exact ⟨(wrap64 (a0 + 1)), et, H', ⟨by have := a9.out; omega⟩, ⟨hq HB.out⟩⟩
   ·rw [if_neg c3] at H
    have a6 := decide_eq_false c3
    clear c3
    obtain rfl := Option.some.inj H
    go_wp2
    go_ret
    exact ⟨er, hq HB.out⟩
def slices_ContainsFunc_impl_Symbol_impl_Symbol_impl_SignatureFault_1.f (k : Nat) (l0 : List (S90))  : Option (Bool) := (slices_IndexFunc_impl_Symbol_impl_Symbol_impl_SignatureFault_1.f k l0).bind fun a0 => (some (decide (a0 ≥ 0)))
theorem slices_ContainsFunc_impl_Symbol_impl_Symbol_impl_SignatureFault_1.calls (k : Nat) (A0 : Option Addr) (c0 : Nat) (l0 : List (S90))  (r : Bool) (w : World) (a2 : Kd.C k90 w A0 l0.length l0) (a1 : l0.length ≤ c0) (h : slices_ContainsFunc_impl_Symbol_impl_Symbol_impl_SignatureFault_1.f k l0 = some r) :
  Calls Tryz.prog 78 #[.slice A0 l0.length c0, .func (.func 79) #[] #[]] w fun e w' => e = .returned (.bool r) ∧ Below w.heap.size w w' := by
 have a4 := am a2
 have a3 := am a1
 clear a2 a1
 have HB := am (Below.refl w.heap.size w)
 have H : ((slices_IndexFunc_impl_Symbol_impl_Symbol_impl_SignatureFault_1.f k l0).bind fun a0 => (some (decide (a0 ≥ 0)))) = some r := h
 clear h
 obtain ⟨a0, A3, H⟩ := ob H
 try dsimp only at H
 obtain rfl := Option.some.inj H
 go_enter Tryz.func78, Tryz.ntmps78
 go_wp2_with (first | (refine gl (some 7) Tryz.func96 rfl #[.slice A0 l0.length c0, .func (.func 79) #[] #[]] ?_; refine (slices_IndexFunc_impl_Symbol_impl_Symbol_impl_SignatureFault_1.calls k _ _ l0  a0 _ (cq a4.out) a3.out A3.out).mono ?_; rintro e w4 ⟨rfl, hb⟩; refine ⟨_, rfl, ?_⟩; replace HB := sb HB hb; clear hb))
 go_ret
 exact ⟨er, hq HB.out⟩
attribute [local go_sem] max2_int min2_int max_two min_two max_three min_three max_four min_four   -- for this text's walks alone
set_option linter.unusedVariables false
set_option linter.unusedSimpArgs false
mutual
def impl_SignatureFault.j0 : Nat → Bool → List (S90) → Option (Int)
 | 0, _, _ => none
 | k + 1, a1, a0 => if a1 = true then (some 2) else (impl_SignatureFault.l0 k a0 (a0.length : Int) 0 a0)
def impl_SignatureFault.l0 : Nat → List (S90) → Int → Int → List (S90) → Option (Int)
 | 0, _, _, _, _ => none
 | k + 1, a2, a5, a1, a0 => if a1 < a5 then (if 0 ≤ a1 then (if a1 < (a2.length : Int) then ((impl_isName.f ((rd_T90 a2 a1).f0)).bind fun a3 => (if a3 = true then ((impl_within.f ((rd_T90 a2 a1).f1) 0 2).bind fun a4 => (if a4 = true then (impl_SignatureFault.l0 k a2 a5 (wrap64 (a1 + 1)) a0) else (some 3))) else (some 5))) else (none)) else (none)) else (impl_SignatureFault.l1 k a0 (a0.length : Int) 0 a0)
def impl_SignatureFault.l1 : Nat → List (S90) → Int → Int → List (S90) → Option (Int)
 | 0, _, _, _, _ => none
 | k + 1, a4, a5, a1, a0 => if a1 < a5 then (if 0 ≤ a1 then (if a1 < (a4.length : Int) then ((impl_symbolIndex.f k a0 ((rd_T90 a4 a1).f0)).bind fun a2 => (if a2 = a1 then (impl_SignatureFault.l1 k a4 a5 (wrap64 (a1 + 1)) a0) else (some 6))) else (none)) else (none)) else ((slices_ContainsFunc_impl_Symbol_impl_Symbol_impl_SignatureFault_1.f k a0).bind fun a3 => (if a3 = true then (some 0) else (some 4)))
end
def impl_SignatureFault.f (k : Nat) (a0 : List (S90)) : Option (Int) := if (a0.length : Int) < 1 then (impl_SignatureFault.j0 k true a0) else (impl_SignatureFault.j0 k (decide ((a0.length : Int) > 6)) a0)
theorem impl_SignatureFault.calls (k : Nat) (b0 : Option Addr) (a5 : Nat) (a1 : List (S90)) (r : Int) (w : World) (d4 : Kd.C k90 w b0 a1.length a1) (d3 : a1.length ≤ a5) (h : impl_SignatureFault.f k a1 = some r) :
  Calls Tryz.prog 45 #[.agg #[.slice b0 a1.length a5]] w fun e w' => e = .returned (.int .i64 r) ∧ Below w.heap.size w w' := by
 have n1 := Tryz.underlying26
 have n2 := Tryz.underlying90
 have b1 := am d4
 have d1 := am d3
 clear d4 d3
 have HB := am (Below.refl w.heap.size w)
 have H : (if (a1.length : Int) < 1 then (impl_SignatureFault.j0 k true a1) else (impl_SignatureFault.j0 k (decide ((a1.length : Int) > 6)) a1)) = some r := h
 clear h
 have j8 := am H
 clear H
 go_enter Tryz.func45, Tryz.ntmps45
 go_upto_region 1 with (first | ((with_reducible refine gate_dst (N := 1) rfl ?_); (try (refine gate_guard (by rfl) ?_; dsimp only)); refine box_event ?hg (N := 1) ?hd (cs := #[.slice b0 a1.length a5]) (t := 26) ?hr ?_; (case hd => rfl); (case hg => rfl); (case hr => first | (go_simp; done) | (go_simp; rfl)); intro a9 hg w3 hbox hb; have a0 := am (hbox); have e2 := am (bz hg (hq HB.out)); replace HB := sb HB hb; have k8 := e2; clear hb hbox hg))
 (try simp only [Act.put, lsp])
 go_cut [16] (fun n3 wc => ∃ (kq : Nat) (b6 : Bool), n3 = .bool b6 ∧ Aside0 (impl_SignatureFault.j0 kq b6 a1 = some r) ∧ Aside0 (kq ≤ k) ∧ Aside0 (wc.heap[a9]? = some (.cells #[(.slice b0 a1.length a5)] 26 (0, 0))) ∧ Aside0 (Below w.heap.size w wc))
 case first =>
  have H := j8.out
  clear j8
  by_cases c4 : (a1.length : Int) < 1
  ·rw [if_pos c4] at H
   have b8 := decide_eq_true c4
   have j9 : decide (a1.length < 1) = true := decide_eq_true (by omega)
   clear c4
   (first | rw [b8] | (simp only [i64_w, i32_w]; rw [b8]) | skip)
   have H' := am H
   clear H
   have k4 := c0_ a0
   have k6 := blk_frozen a0.out 0
   go_wp2
   go_meet
   case rel => exact ⟨_, (true), et, H', lo, ⟨bq a0.out⟩, ⟨hs HB.out⟩⟩
  ·rw [if_neg c4] at H
   have b8 := decide_eq_false c4
   have j9 : decide (a1.length < 1) = false := decide_eq_false (by omega)
   clear c4
   (first | rw [b8] | (simp only [i64_w, i32_w]; rw [b8]) | skip)
   have H' := am H
   clear H
   have k5 := c0_ a0
   have k7 := blk_frozen a0.out 0
   go_wp2
   go_meet
   case rel => exact ⟨_, (decide ((a1.length : Int) > 6)), et, H', lo, ⟨bq a0.out⟩, ⟨hs HB.out⟩⟩
 case rest =>
  clear j8
  obtain ⟨kq, b6, rfl, HA, h0, a0, HB⟩ := hcut
  cases kq with
  | zero => exact absurd HA.out (by simp [impl_SignatureFault.j0])
  | succ m6 =>
   have H := HA.out
   clear HA
   simp only [impl_SignatureFault.j0] at H
   by_cases c7 : b6 = true
   ·subst c7
    rw [if_pos rfl] at H
    obtain rfl := Option.some.inj H
    go_wp2
    go_ret
    exact ⟨er, hs HB.out⟩
   ·replace c7 := Bool.eq_false_iff.mpr c7
    subst c7
    rw [if_neg (show ¬ (false = true) by decide)] at H
    have H' := am H
    clear H
    have b9 := c0_ a0
    have c0 := blk_frozen a0.out 0
    go_wp2
    go_loopg [20] m6 (fun kq n4 w' => ∃ (a2 : Int), n4 = .int .i64 a2 ∧ Aside0 (impl_SignatureFault.l0 kq a1 (a1.length : Int) a2 a1 = some r) ∧ Aside0 (kq ≤ m6) ∧ Aside0 (w'.heap[a9]? = some (.cells #[(.slice b0 a1.length a5)] 26 (0, 0))) ∧ Aside0 (Below w.heap.size w w'))
    case atStart => exact ⟨(0), et, H', ⟨Nat.le_refl _⟩, ⟨bq a0.out⟩, ⟨hs HB.out⟩⟩
    case round =>
     clear H'
     try clear c7; try clear b9; try clear c0
     obtain ⟨a2, rfl, HA, h2, a0, HB⟩ := hrel
     cases gk with
     | zero => exact absurd HA.out (by simp [impl_SignatureFault.l0])
     | succ k2 =>
      have H := HA.out
      clear HA
      simp only [impl_SignatureFault.l0] at H
      by_cases c9 : a2 < (a1.length : Int)
      ·rw [if_pos c9] at H
       have g3 := decide_eq_true c9
       clear c9
       obtain ⟨l6, H⟩ := ife H
       obtain ⟨l7, H⟩ := ife H
       obtain ⟨g6, m7, H⟩ := ob H
       try dsimp only at H
       have e5 := am H
       clear H
       have d5 : 0 ≤ (a2 : Int) := od
       have d7 : a2 < (a1.length : Int) := od
       obtain ⟨e9, k0, b2, b3⟩ := at_T90 b1.out a2 d5 d7
       cases k0
       replace b2 := cz HB.out b2
       replace b3 := cz HB.out b3
       obtain ⟨d5, d7⟩ := ee d5 d7
       go_upto_if 27 with (first | ((with_reducible refine gate_dst (N := 4) rfl ?_); (try (refine gate_guard (by rfl) ?_; dsimp only)); refine box_event ?hg (N := 4) ?hd (cs := #[.string (⟨#[]⟩ : ByteArray), .int .i64 0]) (t := 90) ?hr ?_; (case hd => rfl); (case hg => rfl); (case hr => first | (go_simp; done) | (go_simp; rfl)); intro g4 hg n7 hbox hb; have a4 := am (hbox); have e3 := am (bz hg (hs HB.out)); replace HB := sb HB hb; have k9 := e3; have d9 := nl hg a0; have a7 := ng hg a0; replace a0 := bb a0 hb; clear hb hbox hg; obtain ⟨m0, m3⟩ := nn a7; have h6 := c0_ a4; have h7 := c1_ a4; have i4 := blk_frozen a4.out 0; have i5 := blk_frozen a4.out 1) | (refine gl (some 26) Tryz.func76 rfl #[.string ((rd_T90 a1 a2).f0)] ?_; (with_reducible refine (impl_isName.calls ((rd_T90 a1 a2).f0) g6 _ m7.out).mono ?_); rintro e n8 ⟨rfl, hb⟩; refine ⟨_, rfl, ?_⟩; replace a0 := am (blk_below (g := a9) (o := .cells #[.slice (some e9) a1.length a5] 26 (0, 0)) (bf a0.out) hb); replace a4 := am (blk_below (g := g4) (o := .cells #[.string ((rd_T90 a1 a2).f0), .int .i64 ((rd_T90 a1 a2).f1)] 90 (0, 0)) (by refine bq ?_; refine blk_put (cs := #[.string ((rd_T90 a1 a2).f0), .int .i64 0]) ?_ 1 _ rfl; refine bq ?_; refine blk_put (cs := #[.string (⟨#[]⟩ : ByteArray), .int .i64 0]) ?_ 0 _ rfl; refine bq ?_; exact a4.out) hb); replace HB := sb HB hb; clear hb))
       have H := e5.out
       clear e5
       by_cases h3 : g6 = true
       ·subst h3
        rw [if_pos rfl] at H
        obtain ⟨g7, m8, H⟩ := ob H
        try dsimp only at H
        have e6 := am H
        clear H
        obtain ⟨m1, m4⟩ := nn a7
        have h8 := c0_ a4
        have h9 := c1_ a4
        have i6 := blk_frozen a4.out 0
        have i7 := blk_frozen a4.out 1
        go_upto_if 31 with (first | (refine gl (some 30) Tryz.func33 rfl #[.int .i64 ((rd_T90 a1 a2).f1), .int .i64 0, .int .i64 2] ?_; (with_reducible refine (impl_within.calls ((rd_T90 a1 a2).f1) 0 2 g7 _ m8.out).mono ?_); rintro e w' ⟨rfl, ⟨nd, rfl⟩⟩; refine ⟨_, rfl, ?_⟩))
        have H := e6.out
        clear e6
        by_cases h4 : g7 = true
        ·subst h4
         rw [if_pos rfl] at H
         have H' := am H
         clear H
         go_wp2
         go_roundg k2
         case measure => have := h0.out; have := h2.out; omega
         case rel => exact ⟨(wrap64 (a2 + 1)), et, H', ⟨by have := h0.out; have := h2.out; omega⟩, ⟨bq a0.out⟩, ⟨hs HB.out⟩⟩
        ·replace h4 := Bool.eq_false_iff.mpr h4
         subst h4
         rw [if_neg (show ¬ (false = true) by decide)] at H
         obtain rfl := Option.some.inj H
         go_wp2
         go_ret
         exact ⟨er, hs HB.out⟩
       ·replace h3 := Bool.eq_false_iff.mpr h3
        subst h3
        rw [if_neg (show ¬ (false = true) by decide)] at H
        obtain rfl := Option.some.inj H
        go_wp2
        go_ret
        exact ⟨er, hs HB.out⟩
      ·rw [if_neg c9] at H
       have g3 := decide_eq_false c9
       clear c9
       have H' := am H
       clear H
       have c1 := c0_ a0
       have d0 := blk_frozen a0.out 0
       go_wp2
       go_loopg [36] k2 (fun kq n6 w' => ∃ (a3 : Int), n6 = .int .i64 a3 ∧ Aside0 (impl_SignatureFault.l1 kq a1 (a1.length : Int) a3 a1 = some r) ∧ Aside0 (kq ≤ k2) ∧ Aside0 (w'.heap[a9]? = some (.cells #[(.slice b0 a1.length a5)] 26 (0, 0))) ∧ Aside0 (Below w.heap.size w w'))
       case atStart => exact ⟨(0), et, H', ⟨Nat.le_refl _⟩, ⟨bq a0.out⟩, ⟨hs HB.out⟩⟩
       case round =>
        clear H'
        try clear c7; try clear c9; try clear g3; try clear c1; try clear b9; try clear d0; try clear c0
        obtain ⟨a3, rfl, HA, l5, a0, HB⟩ := hrel
        cases gk with
        | zero => exact absurd HA.out (by simp [impl_SignatureFault.l1])
        | succ k3 =>
         have H := HA.out
         clear HA
         simp only [impl_SignatureFault.l1] at H
         by_cases e1 : a3 < (a1.length : Int)
         ·rw [if_pos e1] at H
          have g0 := decide_eq_true e1
          clear e1
          obtain ⟨l8, H⟩ := ife H
          obtain ⟨l9, H⟩ := ife H
          obtain ⟨g8, m9, H⟩ := ob H
          try dsimp only at H
          have e7 := am H
          clear H
          have d6 : 0 ≤ (a3 : Int) := od
          have d8 : a3 < (a1.length : Int) := od
          obtain ⟨d2, k1, b4, b5⟩ := at_T90 b1.out a3 d6 d8
          cases k1
          replace b4 := cz HB.out b4
          replace b5 := cz HB.out b5
          obtain ⟨d6, d8⟩ := ee d6 d8
          go_upto_if 46 with (first | ((with_reducible refine gate_dst (N := 6) rfl ?_); (try (refine gate_guard (by rfl) ?_; dsimp only)); refine box_event ?hg (N := 6) ?hd (cs := #[.string (⟨#[]⟩ : ByteArray), .int .i64 0]) (t := 90) ?hr ?_; (case hd => rfl); (case hg => rfl); (case hr => first | (go_simp; done) | (go_simp; rfl)); intro g5 hg n9 hbox hb; have a6 := am (hbox); have e4 := am (bz hg (hs HB.out)); replace HB := sb HB hb; have l4 := e4; have e0 := nl hg a0; have b7 := ng hg a0; replace a0 := bb a0 hb; clear hb hbox hg; obtain ⟨m2, m5⟩ := nn b7; have i0 := c0_ a6; have i1 := c1_ a6; have i9 := blk_frozen a6.out 0; have j5 := blk_frozen a6.out 1; have i2 := c0_ a0; have j6 := blk_frozen a0.out 0) | (refine gl (some 44) Tryz.func77 rfl #[.agg #[.slice (some d2) a1.length a5], .string ((rd_T90 a1 a3).f0)] ?_; refine (impl_symbolIndex.calls k3 _ _ a1 ((rd_T90 a1 a3).f0) g8 _ (Kd.C_below b1.out (hs HB.out)) d1.out m9.out).mono ?_; rintro e o0 ⟨rfl, hb⟩; refine ⟨_, rfl, ?_⟩; replace a0 := am (blk_below (g := a9) (o := .cells #[.slice (some d2) a1.length a5] 26 (0, 0)) (bf a0.out) hb); replace a6 := am (blk_below (g := g5) (o := .cells #[.string ((rd_T90 a1 a3).f0), .int .i64 ((rd_T90 a1 a3).f1)] 90 (0, 0)) (by refine bq ?_; refine blk_put (cs := #[.string ((rd_T90 a1 a3).f0), .int .i64 0]) ?_ 1 _ rfl; refine bq ?_; refine blk_put (cs := #[.string (⟨#[]⟩ : ByteArray), .int .i64 0]) ?_ 0 _ rfl; refine bq ?_; exact a6.out) hb); replace HB := sb HB hb; clear hb))
          have H := e7.out
          clear e7
          by_cases g1 : g8 = a3
          ·rw [if_pos g1] at H
           obtain ⟨a8, g2⟩ := bqt g1; clear g1
           (first | rw [a8] | (simp only [i64_w, i32_w]; rw [a8]) | skip)
           have H' := am H
           clear H
           go_wp2
           go_roundg k3
           case measure => have := h0.out; have := h2.out; have := l5.out; omega
           case rel => exact ⟨(wrap64 (a3 + 1)), et, H', ⟨by have := h0.out; have := h2.out; have := l5.out; omega⟩, ⟨bq a0.out⟩, ⟨hs HB.out⟩⟩
          ·rw [if_neg g1] at H
           obtain ⟨a8, g2⟩ := bqf g1
           (first | rw [a8] | (simp only [i64_w, i32_w]; rw [a8]) | skip)
           obtain rfl := Option.some.inj H
           go_wp2
           go_ret
           exact ⟨er, hs HB.out⟩
         ·rw [if_neg e1] at H
          have g0 := decide_eq_false e1
          clear e1
          obtain ⟨g9, n0, H⟩ := ob H
          try dsimp only at H
          have e8 := am H
          clear H
          have i3 := c0_ a0
          have j7 := blk_frozen a0.out 0
          go_upto_if 51 with (first | (refine gl (some 50) Tryz.func78 rfl #[.slice b0 a1.length a5, .func (.func 79) #[] #[]] ?_; refine (slices_ContainsFunc_impl_Symbol_impl_Symbol_impl_SignatureFault_1.calls k3 _ _ a1  g9 _ (cq (Kd.C_below b1.out HB.out)) d1.out n0.out).mono ?_; rintro e o1 ⟨rfl, hb⟩; refine ⟨_, rfl, ?_⟩; replace a0 := bb a0 hb; replace HB := sb HB hb; clear hb))
          have H := e8.out
          clear e8
          by_cases h5 : g9 = true
          ·subst h5
           rw [if_pos rfl] at H
           obtain rfl := Option.some.inj H
           go_wp2
           go_ret
           exact ⟨er, hs HB.out⟩
          ·replace h5 := Bool.eq_false_iff.mpr h5
           subst h5
           rw [if_neg (show ¬ (false = true) by decide)] at H
           obtain rfl := Option.some.inj H
           go_wp2
           go_ret
           exact ⟨er, hs HB.out⟩
def impl_arityOf.f (a0 : List (S90)) (a1 : Int) : Option (Int) := if a1 < 0 then (some 0) else (if 0 ≤ a1 then (if a1 < (a0.length : Int) then (some ((rd_T90 a0 a1).f1)) else (none)) else (none))
theorem impl_arityOf.calls (a8 : Option Addr) (a9 : Nat) (a0 : List (S90)) (a1 : Int) (r : Int) (w : World) (a7 : Kd.C k90 w a8 a0.length a0) (a6 : a0.length ≤ a9) (h : impl_arityOf.f a0 a1 = some r) :
  Calls Tryz.prog 91 #[.agg #[.slice a8 a0.length a9], .int .i64 a1] w fun e w' => e = .returned (.int .i64 r) ∧ Below w.heap.size w w' := by
 have d2 := Tryz.underlying26
 have b3 := am a7
 have b8 := am a6
 clear a7 a6
 have HB := am (Below.refl w.heap.size w)
 have H : (if a1 < 0 then (some 0) else (if 0 ≤ a1 then (if a1 < (a0.length : Int) then (some ((rd_T90 a0 a1).f1)) else (none)) else (none))) = some r := h
 clear h
 have b9 := am H
 clear H
 go_enter Tryz.func91, Tryz.ntmps91
 go_upto_if 6 with (first | (refine bx 2 rfl #[.slice a8 a0.length a9] 26 ?_; intro c1 hg w4 hbox hb; have a5 := am (hbox); have b2 := am (bz hg (hq HB.out)); replace HB := sb HB hb; have b7 := b2; clear hb hbox hg))
 have H := b9.out
 clear b9
 by_cases c5 : a1 < 0
 ·rw [if_pos c5] at H
  have a4 := decide_eq_true c5
  clear c5
  (first | rw [a4] | (simp only [i64_w, i32_w]; rw [a4]) | skip)
  obtain rfl := Option.some.inj H
  go_wp2
  go_ret
  exact ⟨er, hs HB.out⟩
 ·rw [if_neg c5] at H
  have a4 := decide_eq_false c5
  clear c5
  (first | rw [a4] | (simp only [i64_w, i32_w]; rw [a4]) | skip)
  obtain ⟨d0, H⟩ := ife H
  obtain ⟨d1, H⟩ := ife H
  obtain rfl := Option.some.inj H
  have b5 := c0_ a5
  have b6 := blk_frozen a5.out 0
  have b0 : 0 ≤ (a1 : Int) := od
  have b1 : a1 < (a0.length : Int) := od
  obtain ⟨c0, b4, a2, a3⟩ := at_T90 b3.out a1 b0 b1
  cases b4
  replace a2 := cz HB.out a2
  replace a3 := cz HB.out a3
  obtain ⟨b0, b1⟩ := ee b0 b1
  go_wp2
  go_ret
  exact ⟨er, hs HB.out⟩
def impl_endOf.l0 : Nat → List Int → Int → Int → List (S90) → Option (Int)
 | 0, _, _, _, _ => none
 | k + 1, x1, x2, x7, a0 => if x7 > 0 then (if x2 ≥ (x1.length : Int) then (some (wrap64 ((x1.length : Int) + 1))) else (if 0 ≤ x2 then (if x2 < (x1.length : Int) then ((impl_arityOf.f a0 (rd x1 x2)).bind fun a1 => (impl_endOf.l0 k x1 (wrap64 (x2 + 1)) (wrap64 (x7 + (wrap64 (a1 - 1)))) a0)) else (none)) else (none))) else (some x2)
def impl_endOf.f (k : Nat) (a0 : List (S90)) (l1 : List Int) (a2 : Int) : Option (Int) := impl_endOf.l0 k l1 a2 1 a0
def impl_endOf.T6 : Bool × List (List Nat × List Nat) := (true, [([], []), ([], []), ([], []), ([], []), ([2, 3], [2, 3]), ([4], [4]), ([1, 5], [1, 5]), ([6], [6]), ([0, 7], [0, 7]), ([8, 6, 0, 1, 2, 3, 4, 5, 6, 7, 8], [0, 8])])
def impl_endOf.B6 : List Nat := [0, 0, 0, 0, 12, 28, 62, 126, 255, 511]
theorem impl_endOf.tab6 : rtab .any (opsOf Tryz.f61 6) = impl_endOf.T6 := by kernel_rfl
theorem impl_endOf.bits6 : waitsOk impl_endOf.T6.2 impl_endOf.B6 = true := by kernel_rfl
theorem impl_endOf.calls (k : Nat) (a6 : Option Addr) (a7 : Nat) (a1 : List (S90)) (A1 : Option Addr) (c1 : Nat) (l1 : List Int) (a2 : Int) (r : Int) (w : World) (b2 : Kd.C k90 w a6 a1.length a1) (b1 : a1.length ≤ a7) (d6 : Kd.C (Kd.int .i64) w A1 l1.length l1) (d5 : l1.length ≤ c1) (h : impl_endOf.f k a1 l1 a2 = some r) :
  Calls Tryz.prog 61 #[.agg #[.slice a6 a1.length a7], .slice A1 l1.length c1, .int .i64 a2] w fun e w' => e = .returned (.int .i64 r) ∧ Below w.heap.size w w' := by
 have e0 := Tryz.underlying26
 have b7 := am b2
 have b6 := am b1
 clear b2 b1
 have d7 := am d6
 have e1 := am d5
 clear d6 d5
 have HB := am (Below.refl w.heap.size w)
 have H : (impl_endOf.l0 k l1 a2 1 a1) = some r := h
 clear h
 have H' := am H
 clear H
 go_enter Tryz.func61, Tryz.ntmps61
 go_wp2_with (first | (refine bx 3 rfl #[.slice a6 a1.length a7] 26 ?_; intro b0 hg w4 hbox hb; have a0 := am (hbox); have b5 := am (bz hg (hq HB.out)); replace HB := sb HB hb; have d2 := b5; clear hb hbox hg))
 go_loopg [2, 7] k (fun kq v2 v7 w' => ∃ (a3 : Int) (a9 : Int), v2 = .int .i64 a3 ∧ v7 = .int .i64 a9 ∧ Aside0 (impl_endOf.l0 kq l1 a3 a9 a1 = some r) ∧ Aside0 (kq ≤ k) ∧ Aside0 (w'.heap[b0]? = some (.cells #[(.slice a6 a1.length a7)] 26 (0, 0))) ∧ Aside0 (Below w.heap.size w w'))
 case atStart => exact ⟨(a2), (1), et, et, H', ⟨Nat.le_refl _⟩, ⟨bq a0.out⟩, ⟨hs HB.out⟩⟩
 case round =>
  clear H'
  try clear c1
  obtain ⟨a3, a9, rfl, rfl, HA, d3, a0, HB⟩ := hrel
  cases gk with
  | zero => exact absurd HA.out (by simp [impl_endOf.l0])
  | succ k1 =>
   have H := HA.out
   clear HA
   simp only [impl_endOf.l0] at H
   by_cases c5 : a9 > 0
   ·rw [if_pos c5] at H
    have c0 := decide_eq_true c5
    clear c5
    by_cases c6 : a3 ≥ (l1.length : Int)
    ·rw [if_pos c6] at H
     have d0 := decide_eq_true c6
     clear c6
     obtain rfl := Option.some.inj H
     go_wp2
     go_ret
     exact ⟨er, hs HB.out⟩
    ·rw [if_neg c6] at H
     have d0 := decide_eq_false c6
     clear c6
     obtain ⟨d8, H⟩ := ife H
     obtain ⟨d9, H⟩ := ife H
     obtain ⟨b9, A9, H⟩ := ob H
     try dsimp only at H
     have H' := am H
     clear H
     try go_wp2
     replace a0 := am (blk_drew a0.out)
     replace HB := am (below_drew1 HB.out)
     have b3 : 0 ≤ (a3 : Int) := od
     have b4 : a3 < (l1.length : Int) := od
     obtain ⟨b8, d1, a4⟩ := Kd.at_int d7.out a3 b3 b4
     have a5 := a4
     cases d1
     replace a4 := cz HB.out a4
     obtain ⟨b3, b4⟩ := ee b3 b4
     refine st_ (n := 10) (S := fun w' => w'.cell? ⟨b0, 0, none⟩ = some (.slice a6 a1.length a7) ∧ w'.cell? (b8.add (a3).toNat) = some (.int .i64 (rd l1 a3))) (ds := []) ⟨(blk_cell a0.out 0).trans rfl, (cz HB.out a5)⟩ (fun hHeld => ?_); refine with_tabW impl_endOf.tab6 impl_endOf.bits6 (fun a8 d4 => ?_)
     generalize wr.drew = e2 at a0 HB a4 hHeld ⊢
     refine pu 0 19 rfl rfl a8 ?_
     refine pu 2 21 rfl rfl a8 ?_
     refine pu 3 22 rfl rfl a8 ?_
     refine pu 4 23 rfl rfl a8 ?_
     refine tk 1 20 rfl rfl a8 d4 hHeld ?_
     refine tk 5 24 rfl rfl a8 d4 hHeld ?_
     refine on_ 6 (some 25) rfl rfl a8 (fun K hK => ?_)
     refine gs Tryz.func91 #[.agg #[.slice a6 a1.length a7], .int .i64 (rd l1 a3)] ?_
     refine (impl_arityOf.calls _ _ a1 (rd l1 a3) b9 _ (cq (Kd.C_below b7.out HB.out)) b6.out A9.out).mono ?_
     rintro e e3 ⟨rfl, hb⟩
     refine ⟨_, rfl, ?_⟩
     replace a0 := bb a0 hb
     replace HB := sb HB hb
     (try clear hb)
     refine hK.out _ _ ⟨(blk_cell a0.out 0).trans rfl, (cz HB.out a5)⟩ (fun hHeld => ?_)
     clear hK K
     refine nr (some 25) ?_
     refine pu 7 26 rfl rfl a8 ?_
     refine pu 8 27 rfl rfl a8 ?_
     refine pu 9 7 rfl rfl a8 ?_
     refine done_ (done_of a8.out (by kernel_rfl)) ?_
     try go_wp2
     go_roundg k1
     case measure => have := d3.out; omega
     case rel => exact ⟨(wrap64 (a3 + 1)), (wrap64 (a9 + (wrap64 (b9 - 1)))), et, et, H', ⟨by have := d3.out; omega⟩, ⟨bq a0.out⟩, ⟨hs HB.out⟩⟩
   ·rw [if_neg c5] at H
    have c0 := decide_eq_false c5
    clear c5
    obtain rfl := Option.some.inj H
    go_wp2
    go_ret
    exact ⟨er, hs HB.out⟩
def impl_isSymbol.f (a0 : List (S90)) (a1 : Int) : Option (Bool) := (impl_within.f a1 0 (wrap64 ((a0.length : Int) - 1))).bind fun a2 => (some a2)
theorem impl_isSymbol.calls (a5 : Option Addr) (a6 : Nat) (a0 : List (S90)) (a1 : Int) (r : Bool) (w : World) (a4 : Kd.C k90 w a5 a0.length a0) (a3 : a0.length ≤ a6) (h : impl_isSymbol.f a0 a1 = some r) :
  Calls Tryz.prog 90 #[.agg #[.slice a5 a0.length a6], .int .i64 a1] w fun e w' => e = .returned (.bool r) ∧ Below w.heap.size w w' := by
 have b5 := Tryz.underlying26
 have b3 := am a4
 have b2 := am a3
 clear a4 a3
 have HB := am (Below.refl w.heap.size w)
 have H : ((impl_within.f a1 0 (wrap64 ((a0.length : Int) - 1))).bind fun a7 => (some a7)) = some r := h
 clear h
 obtain ⟨a7, A3, H⟩ := ob H
 try dsimp only at H
 obtain rfl := Option.some.inj H
 go_enter Tryz.func90, Tryz.ntmps90
 go_wp2_with (first | (refine bx 2 rfl #[.slice a5 a0.length a6] 26 ?_; intro b4 hg w4 hbox hb; have a2 := am (hbox); have a8 := am (bz hg (hq HB.out)); replace HB := sb HB hb; have b1 := a8; clear hb hbox hg; have a9 := c0_ a2; have b0 := blk_frozen a2.out 0) | (refine gl (some 10) Tryz.func33 rfl #[.int .i64 a1, .int .i64 0, .int .i64 (wrap64 ((a0.length : Int) - 1))] ?_; (with_reducible refine (impl_within.calls a1 0 (wrap64 ((a0.length : Int) - 1)) a7 _ A3.out).mono ?_); rintro e w' ⟨rfl, ⟨nd, rfl⟩⟩; refine ⟨_, rfl, ?_⟩))
 go_ret
 exact ⟨er, hs HB.out⟩
def impl_isNode.f (a0 : List (S90)) (a1 : Int) : Option (Bool) := (impl_isSymbol.f a0 a1).bind fun a2 => (if a2 = true then (some true) else ((impl_within.f a1 (-12) (-1)).bind fun a3 => (some a3)))
theorem impl_isNode.calls (a3 : Option Addr) (a4 : Nat) (a2 : List (S90)) (a1 : Int) (r : Bool) (w : World) (a9 : Kd.C k90 w a3 a2.length a2) (a8 : a2.length ≤ a4) (h : impl_isNode.f a2 a1 = some r) :
  Calls Tryz.prog 60 #[.agg #[.slice a3 a2.length a4], .int .i64 a1] w fun e w' => e = .returned (.bool r) ∧ Below w.heap.size w w' := by
 have b8 := Tryz.underlying26
 have a7 := am a9
 have a6 := am a8
 clear a9 a8
 have HB := am (Below.refl w.heap.size w)
 have H : ((impl_isSymbol.f a2 a1).bind fun b0 => (if b0 = true then (some true) else ((impl_within.f a1 (-12) (-1)).bind fun b1 => (some b1)))) = some r := h
 clear h
 obtain ⟨b0, A3, H⟩ := ob H
 try dsimp only at H
 by_cases c4 : b0 = true
 ·subst c4
  rw [if_pos rfl] at H
  obtain rfl := Option.some.inj H
  go_enter Tryz.func60, Tryz.ntmps60
  go_wp2_with (first | (refine bx 2 rfl #[.slice a3 a2.length a4] 26 ?_; intro b3 hg w5 hbox hb; have a0 := am (hbox); have a5 := am (bz hg (hq HB.out)); replace HB := sb HB hb; have b2 := a5; clear hb hbox hg; have b6 := c0_ a0; have b7 := blk_frozen a0.out 0) | (refine gl (some 7) Tryz.func90 rfl #[.agg #[.slice a3 a2.length a4], .int .i64 a1] ?_; refine (impl_isSymbol.calls _ _ a2 a1 true _ (cq (Kd.C_below a7.out HB.out)) a6.out A3.out).mono ?_; rintro e w7 ⟨rfl, hb⟩; refine ⟨_, rfl, ?_⟩; replace a0 := bb a0 hb; replace HB := sb HB hb; clear hb))
  go_ret
  exact ⟨er, hs HB.out⟩
 ·replace c4 := Bool.eq_false_iff.mpr c4
  subst c4
  rw [if_neg (show ¬ (false = true) by decide)] at H
  obtain ⟨b1, A8, H⟩ := ob H
  try dsimp only at H
  obtain rfl := Option.some.inj H
  go_enter Tryz.func60, Tryz.ntmps60
  go_wp2_with (first | (refine bx 2 rfl #[.slice a3 a2.length a4] 26 ?_; intro b3 hg w9 hbox hb; have a0 := am (hbox); have a5 := am (bz hg (hq HB.out)); replace HB := sb HB hb; have b2 := a5; clear hb hbox hg; have b4 := c0_ a0; have b5 := blk_frozen a0.out 0) | (refine gl (some 7) Tryz.func90 rfl #[.agg #[.slice a3 a2.length a4], .int .i64 a1] ?_; refine (impl_isSymbol.calls _ _ a2 a1 false _ (cq (Kd.C_below a7.out HB.out)) a6.out A3.out).mono ?_; rintro e b9 ⟨rfl, hb⟩; refine ⟨_, rfl, ?_⟩; replace a0 := bb a0 hb; replace HB := sb HB hb; clear hb) | (go_at_call 33; refine (impl_within.calls a1 (-12) (-1) b1 _ A8.out).mono ?_; rintro e w' ⟨rfl, ⟨nd, rfl⟩⟩))
  go_ret
  exact ⟨er, hs HB.out⟩
def impl_TermFault_1_with.f (a0 : Int) (l1 : List (S26)) : Option (Bool) := if 0 < (l1.length : Int) then ((impl_isNode.f ((rd_T26 l1 0).f0) a0).bind fun a1 => (some (!a1))) else (none)
theorem impl_TermFault_1_with.calls (a0 : Int) (A1 : Option Addr) (l1 : List (S26)) (r : Bool) (w : World) (b3 : Kd.C k26 w A1 l1.length l1) (h : impl_TermFault_1_with.f a0 l1 = some r) :
  Calls Tryz.prog 59 #[.int .i64 a0, .pointer A1] w fun e w' => e = .returned (.bool r) ∧ Below w.heap.size w w' := by
 have b8 := Tryz.underlying26
 have b5 := am b3
 clear b3
 have HB := am (Below.refl w.heap.size w)
 have H : (if 0 < (l1.length : Int) then ((impl_isNode.f ((rd_T26 l1 0).f0) a0).bind fun b0 => (some (!b0))) else (none)) = some r := h
 clear h
 obtain ⟨c3, H⟩ := ifs H
 have b6 := decide_eq_true c3
 have b7 : decide (0 < l1.length) = true := decide_eq_true (by omega)
 clear c3
 obtain ⟨b0, A4, H⟩ := ob H
 try dsimp only at H
 obtain rfl := Option.some.inj H
 have a8 : 0 ≤ (0 : Int) := (by omega)
 have a9 : 0 < (l1.length : Int) := od
 obtain ⟨b2, a6, a7, b1, a5, a2, a1⟩ := at_T26 b5.out 0 a8 a9
 cases b1
 have b4 : (0 < l1.length) = True := eq_true (by omega)
 (try simp only [t0_] at a5)
 have a4 := am a1
 have a3 := am a2
 clear a1 a2
 obtain ⟨a8, a9⟩ := ee a8 a9
 go_enter Tryz.func59, Tryz.ntmps59
 go_wp2_with (first | (refine gl (some 6) Tryz.func60 rfl #[.agg #[.slice a6 ((rd_T26 l1 0).f0).length a7], .int .i64 a0] ?_; refine (impl_isNode.calls _ _ ((rd_T26 l1 0).f0) a0 b0 _ (cq a4.out) a3.out A4.out).mono ?_; rintro e w5 ⟨rfl, hb⟩; refine ⟨_, rfl, ?_⟩; replace HB := sb HB hb; clear hb))
 go_ret
 exact ⟨er, hq HB.out⟩
attribute [local go_sem] max2_int min2_int max_two min_two max_three min_three max_four min_four   -- for this text's walks alone
set_option linter.unusedVariables false
set_option linter.unusedSimpArgs false
def slices_IndexFunc_int64_int64_impl_TermFault_1.l0 : Nat → List Int → Int → Int → List (S26) → Option (Int)
 | 0, _, _, _, _ => none
 | k + 1, x0, x7, x8, a0 => if x8 < x7 then (if 0 ≤ x8 then (if x8 < (x0.length : Int) then ((impl_TermFault_1_with.f (rd x0 x8) a0).bind fun a1 => (if a1 = true then (some x8) else (slices_IndexFunc_int64_int64_impl_TermFault_1.l0 k x0 x7 (wrap64 (x8 + 1)) a0))) else (none)) else (none)) else (some (-1))
def slices_IndexFunc_int64_int64_impl_TermFault_1.f (k : Nat) (l0 : List Int) (a0 : List (S26)) : Option (Int) := slices_IndexFunc_int64_int64_impl_TermFault_1.l0 k l0 (l0.length : Int) 0 a0
theorem slices_IndexFunc_int64_int64_impl_TermFault_1.calls (k : Nat) (A0 : Option Addr) (c0 : Nat) (l0 : List Int) (a3 : Option Addr) (a2 : List (S26)) (r : Int) (w : World) (b5 : Kd.C (Kd.int .i64) w A0 l0.length l0) (b4 : l0.length ≤ c0) (a4 : Kd.C k26 w a3 a2.length a2) (h : slices_IndexFunc_int64_int64_impl_TermFault_1.f k l0 a2 = some r) :
  Calls Tryz.prog 70 #[.slice A0 l0.length c0, .func (.func 59) #[] #[.pointer a3]] w fun e w' => e = .returned (.int .i64 r) ∧ Below w.heap.size w w' := by
 have b6 := am b5
 have b9 := am b4
 clear b5 b4
 have a7 := am a4
 clear a4
 have HB := am (Below.refl w.heap.size w)
 have H : (slices_IndexFunc_int64_int64_impl_TermFault_1.l0 k l0 (l0.length : Int) 0 a2) = some r := h
 clear h
 have H' := am H
 clear H
 go_enter Tryz.func70, Tryz.ntmps70
 go_wp2
 go_loopg [8] k (fun kq v8 w' => ∃ (a0 : Int), v8 = .int .i64 a0 ∧ Aside0 (slices_IndexFunc_int64_int64_impl_TermFault_1.l0 kq l0 (l0.length : Int) a0 a2 = some r) ∧ Aside0 (kq ≤ k) ∧ Aside0 (Below w.heap.size w w'))
 case atStart => exact ⟨(0), et, H', ⟨Nat.le_refl _⟩, ⟨hq HB.out⟩⟩
 case round =>
  clear H'
  obtain ⟨a0, rfl, HA, b2, HB⟩ := hrel
  cases gk with
  | zero => exact absurd HA.out (by simp [slices_IndexFunc_int64_int64_impl_TermFault_1.l0])
  | succ k1 =>
   have H := HA.out
   clear HA
   simp only [slices_IndexFunc_int64_int64_impl_TermFault_1.l0] at H
   by_cases c3 : a0 < (l0.length : Int)
   ·rw [if_pos c3] at H
    have a9 := decide_eq_true c3
    clear c3
    obtain ⟨b7, H⟩ := ife H
    obtain ⟨b8, H⟩ := ife H
    obtain ⟨a8, A6, H⟩ := ob H
    try dsimp only at H
    have b1 := am H
    clear H
    have a5 : 0 ≤ (a0 : Int) := od
    have a6 : a0 < (l0.length : Int) := od
    obtain ⟨b3, b0, a1⟩ := Kd.at_int b6.out a0 a5 a6
    cases b0
    replace a1 := cz HB.out a1
    obtain ⟨a5, a6⟩ := ee a5 a6
    go_upto_if 16 with (first | ((first | (refine gl (some 16) Tryz.func59 rfl #[.int .i64 (rd l0 a0), .pointer a3] ?_) | ((with_reducible refine gate_calleeV _ rfl ?_); refine goesV_ (some 16) rfl rfl Tryz.func59 (by kernel_rfl) rfl #[.int .i64 (rd l0 a0), .pointer a3] rfl rfl (by first | rfl | (simp <;> first | rfl | exact ⟨rfl, rfl⟩ | exact ⟨rfl, rfl, rfl⟩) | ((try simp only [List.map_toArray, List.map_cons, List.map_nil]); first | done | rfl | (simp only [List.length_drop, List.length_take]; rfl))) ?_)); refine (impl_TermFault_1_with.calls (rd l0 a0) _ a2 a8 _ (cq (Kd.C_below a7.out HB.out)) A6.out).mono ?_; rintro e w8 ⟨rfl, hb⟩; refine ⟨_, rfl, ?_⟩; replace HB := sb HB hb; clear hb))
    have H := b1.out
    clear b1
    by_cases c9 : a8 = true
    ·subst c9
     rw [if_pos rfl] at H
     obtain rfl := Option.some.inj H
     go_wp2
     go_ret
     exact ⟨er, hq HB.out⟩
    ·replace c9 := Bool.eq_false_iff.mpr c9
     subst c9
     rw [if_neg (show ¬ (false = true) by decide)] at H
     have H' := am H
     clear H
     go_wp2
     go_roundg k1
     case measure => have := b2.out; omega
     case rel => exact ⟨(wrap64 (a0 + 1)), et, H', ⟨by have := b2.out; omega⟩, ⟨hq HB.out⟩⟩
   ·rw [if_neg c3] at H
    have a9 := decide_eq_false c3
    clear c3
    obtain rfl := Option.some.inj H
    go_wp2
    go_ret
    exact ⟨er, hq HB.out⟩
def slices_ContainsFunc_int64_int64_impl_TermFault_1.f (k : Nat) (l0 : List Int) (a0 : List (S26)) : Option (Bool) := (slices_IndexFunc_int64_int64_impl_TermFault_1.f k l0 a0).bind fun a1 => (some (decide (a1 ≥ 0)))
theorem slices_ContainsFunc_int64_int64_impl_TermFault_1.calls (k : Nat) (A0 : Option Addr) (c0 : Nat) (l0 : List Int) (a2 : Option Addr) (a0 : List (S26)) (r : Bool) (w : World) (a6 : Kd.C (Kd.int .i64) w A0 l0.length l0) (a5 : l0.length ≤ c0) (a1 : Kd.C k26 w a2 a0.length a0) (h : slices_ContainsFunc_int64_int64_impl_TermFault_1.f k l0 a0 = some r) :
  Calls Tryz.prog 36 #[.slice A0 l0.length c0, .func (.func 59) #[] #[.pointer a2]] w fun e w' => e = .returned (.bool r) ∧ Below w.heap.size w w' := by
 have a8 := am a6
 have a7 := am a5
 clear a6 a5
 have a4 := am a1
 clear a1
 have HB := am (Below.refl w.heap.size w)
 have H : ((slices_IndexFunc_int64_int64_impl_TermFault_1.f k l0 a0).bind fun a3 => (some (decide (a3 ≥ 0)))) = some r := h
 clear h
 obtain ⟨a3, A3, H⟩ := ob H
 try dsimp only at H
 obtain rfl := Option.some.inj H
 go_enter Tryz.func36, Tryz.ntmps36
 go_wp2_with (first | (refine gl (some 7) Tryz.func70 rfl #[.slice A0 l0.length c0, .func (.func 59) #[] #[.pointer a2]] ?_; refine (slices_IndexFunc_int64_int64_impl_TermFault_1.calls k _ _ l0 _ a0 a3 _ (cq a8.out) a7.out (cq a4.out) A3.out).mono ?_; rintro e w4 ⟨rfl, hb⟩; refine ⟨_, rfl, ?_⟩; replace HB := sb HB hb; clear hb))
 go_ret
 exact ⟨er, hq HB.out⟩
def impl_TermFault.j0 : Nat → List Int → Bool → List (S90) → Option (Int)
 | 0, _, _, _ => none
 | k + 1, x1, a3, a0 => if a3 = true then (some 2) else ((slices_ContainsFunc_int64_int64_impl_TermFault_1.f k x1 [(⟨a0⟩ : S26)]).bind fun a1 => (if a1 = true then (some 3) else ((impl_endOf.f k a0 x1 0).bind fun a2 => (if a2 = (x1.length : Int) then (some 0) else (some 1)))))
def impl_TermFault.f (k : Nat) (a0 : List (S90)) (l1 : List Int) : Option (Int) := (impl_SignatureFault.f k a0).bind fun a1 => (if a1 = 0 then (if (l1.length : Int) < 1 then (impl_TermFault.j0 k l1 true a0) else (impl_TermFault.j0 k l1 (decide ((l1.length : Int) > 24)) a0)) else (some a1))
theorem impl_TermFault.calls (k : Nat) (a5 : Option Addr) (a6 : Nat) (a1 : List (S90)) (A1 : Option Addr) (c1 : Nat) (l1 : List Int) (r : Int) (w : World) (b3 : Kd.C k90 w a5 a1.length a1) (b2 : a1.length ≤ a6) (e4 : Kd.C (Kd.int .i64) w A1 l1.length l1) (e3 : l1.length ≤ c1) (h : impl_TermFault.f k a1 l1 = some r) :
  Calls Tryz.prog 28 #[.agg #[.slice a5 a1.length a6], .slice A1 l1.length c1] w fun e w' => e = .returned (.int .i64 r) ∧ Below w.heap.size w w' := by
 have e8 := Tryz.underlying26
 have a9 := am b3
 have a8 := am b2
 clear b3 b2
 have e2 := am e4
 have e0 := am e3
 clear e4 e3
 have HB := am (Below.refl w.heap.size w)
 have H : ((impl_SignatureFault.f k a1).bind fun b0 => (if b0 = 0 then (if (l1.length : Int) < 1 then (impl_TermFault.j0 k l1 true a1) else (impl_TermFault.j0 k l1 (decide ((l1.length : Int) > 24)) a1)) else (some b0))) = some r := h
 clear h
 obtain ⟨b0, A3, H⟩ := ob H
 try dsimp only at H
 have e1 := am H
 clear H
 go_enter Tryz.func28, Tryz.ntmps28
 go_upto_if 9 with (first | ((with_reducible refine gate_dst (N := 2) rfl ?_); (try (refine gate_guard (by rfl) ?_; dsimp only)); refine box_event ?hg (N := 2) ?hd (cs := #[.slice a5 a1.length a6]) (t := 26) ?hr ?_; (case hd => rfl); (case hg => rfl); (case hr => first | (go_simp; done) | (go_simp; rfl)); intro b1 hg w5 hbox hb; have a0 := am (hbox); have b6 := am (bz hg (hq HB.out)); replace HB := sb HB hb; have d9 := b6; clear hb hbox hg; have b4 := c0_ a0; have b5 := blk_frozen a0.out 0) | (refine gl (some 7) Tryz.func45 rfl #[.agg #[.slice a5 a1.length a6]] ?_; refine (impl_SignatureFault.calls k _ _ a1 b0 _ (cq (Kd.C_below a9.out HB.out)) a8.out A3.out).mono ?_; rintro e w7 ⟨rfl, hb⟩; refine ⟨_, rfl, ?_⟩; replace a0 := bb a0 hb; replace HB := sb HB hb; clear hb))
 have H := e1.out
 clear e1
 by_cases c8 : b0 = 0
 ·rw [if_pos c8] at H
  obtain ⟨a7, d1⟩ := bqt c8; clear c8
  (first | rw [a7] | (simp only [i64_w, i32_w]; rw [a7]) | skip)
  have d8 := am H
  clear H
  go_upto_region 4 with (fail)
  go_cut [18] (fun e9 wc => ∃ (kq : Nat) (a4 : Bool), e9 = .bool a4 ∧ Aside0 (impl_TermFault.j0 kq l1 a4 a1 = some r) ∧ Aside0 (kq ≤ k) ∧ Aside0 (wc.heap[b1]? = some (.cells #[(.slice a5 a1.length a6)] 26 (0, 0))) ∧ Aside0 (Below w.heap.size w wc))
  case first =>
   have H := d8.out
   clear d8
   by_cases c10 : (l1.length : Int) < 1
   ·rw [if_pos c10] at H
    have a2 := decide_eq_true c10
    have b9 : decide (l1.length < 1) = true := decide_eq_true (by omega)
    clear c10
    (first | rw [a2] | (simp only [i64_w, i32_w]; rw [a2]) | skip)
    have H' := am H
    clear H
    go_wp2
    go_meet
    case rel => exact ⟨_, (true), et, H', lo, ⟨bq a0.out⟩, ⟨hs HB.out⟩⟩
   ·rw [if_neg c10] at H
    have a2 := decide_eq_false c10
    have b9 : decide (l1.length < 1) = false := decide_eq_false (by omega)
    clear c10
    (first | rw [a2] | (simp only [i64_w, i32_w]; rw [a2]) | skip)
    have H' := am H
    clear H
    go_wp2
    go_meet
    case rel => exact ⟨_, (decide ((l1.length : Int) > 24)), et, H', lo, ⟨bq a0.out⟩, ⟨hs HB.out⟩⟩
  case rest =>
   clear d8
   try clear c1; try clear c8; try clear a7; try clear d1; try clear b4; try clear b5
   obtain ⟨kq, a4, rfl, HA, g0, a0, HB⟩ := hcut
   cases kq with
   | zero => exact absurd HA.out (by simp [impl_TermFault.j0])
   | succ e5 =>
    have H := HA.out
    clear HA
    simp only [impl_TermFault.j0] at H
    by_cases d4 : a4 = true
    ·subst d4
     rw [if_pos rfl] at H
     obtain rfl := Option.some.inj H
     go_wp2
     go_ret
     exact ⟨er, hs HB.out⟩
    ·replace d4 := Bool.eq_false_iff.mpr d4
     subst d4
     rw [if_neg (show ¬ (false = true) by decide)] at H
     obtain ⟨d2, e6, H⟩ := ob H
     try dsimp only at H
     have b7 := am H
     clear H
     go_upto_if 21 with (first | (refine gl (some 21) Tryz.func36 rfl #[.slice A1 l1.length c1, .func (.func 59) #[] #[.pointer (some ⟨b1, 0, none⟩)]] ?_; refine (slices_ContainsFunc_int64_int64_impl_TermFault_1.calls e5 _ _ l1 _ [(⟨a1⟩ : S26)] d2 _ (cq (Kd.C_below e2.out HB.out)) e0.out (k26_box (bq a0.out) (cq (Kd.C_below a9.out HB.out)) (by exact a8.out)) e6.out).mono ?_; rintro e g1 ⟨rfl, hb⟩; refine ⟨_, rfl, ?_⟩; replace a0 := bb a0 hb; replace HB := sb HB hb; clear hb))
     have H := b7.out
     clear b7
     by_cases d5 : d2 = true
     ·subst d5
      rw [if_pos rfl] at H
      obtain rfl := Option.some.inj H
      go_wp2
      go_ret
      exact ⟨er, hs HB.out⟩
     ·replace d5 := Bool.eq_false_iff.mpr d5
      subst d5
      rw [if_neg (show ¬ (false = true) by decide)] at H
      obtain ⟨d3, e7, H⟩ := ob H
      try dsimp only at H
      have b8 := am H
      clear H
      have d6 := c0_ a0
      have d7 := blk_frozen a0.out 0
      go_upto_if 27 with (first | (refine gl (some 24) Tryz.func61 rfl #[.agg #[.slice a5 a1.length a6], .slice A1 l1.length c1, .int .i64 0] ?_; refine (impl_endOf.calls e5 _ _ a1 _ _ l1 0 d3 _ (cq (Kd.C_below a9.out HB.out)) a8.out (cq (Kd.C_below e2.out HB.out)) e0.out e7.out).mono ?_; rintro e g2 ⟨rfl, hb⟩; refine ⟨_, rfl, ?_⟩; replace a0 := bb a0 hb; replace HB := sb HB hb; clear hb))
      have H := b8.out
      clear b8
      by_cases c0 : d3 = (l1.length : Int)
      ·rw [if_pos c0] at H
       obtain ⟨a3, d0⟩ := bqt c0; clear c0
       (first | rw [a3] | (simp only [i64_w, i32_w]; rw [a3]) | skip)
       obtain rfl := Option.some.inj H
       go_wp2
       go_ret
       exact ⟨er, hs HB.out⟩
      ·rw [if_neg c0] at H
       obtain ⟨a3, d0⟩ := bqf c0
       (first | rw [a3] | (simp only [i64_w, i32_w]; rw [a3]) | skip)
       obtain rfl := Option.some.inj H
       go_wp2
       go_ret
       exact ⟨er, hs HB.out⟩
 ·rw [if_neg c8] at H
  obtain ⟨a7, d1⟩ := bqf c8
  (first | rw [a7] | (simp only [i64_w, i32_w]; rw [a7]) | skip)
  obtain rfl := Option.some.inj H
  go_wp2
  go_ret
  exact ⟨er, hs HB.out⟩
def slices_Sort_int64_int64.f (l0 : List Int) : Option (List Int) := if l0.length < 4611686018427387904 then some (l0.mergeSort fun x y => decide (x ≤ y)) else none
theorem slices_Sort_int64_int64.calls (a1 : Nat → Prop) (a0 : Value) (l0 : List Int) (r : List Int) (w0 w : World) (hB : Below w0.heap.size w0 w) (a3 : Kd.R (Kd.int .i64) 2 w w0.heap.size a1 a0 l0) (h : slices_Sort_int64_int64.f l0 = some r) :
  Calls Tryz.prog 71 #[a0] w fun e w' => e = .returned (.tuple #[]) ∧ Kd.R (Kd.int .i64) 2 w' w0.heap.size (fun k_ => (a1 k_ ∨ w.heap.size ≤ k_)) a0 r ∧ Below w0.heap.size w0 w' ∧ Kept w w' (fun k_ => a1 k_) := by
 unfold slices_Sort_int64_int64.f at h
 by_cases a2 : l0.length < 4611686018427387904
 case neg => rw [if_neg a2] at h; cases h
 rw [if_pos a2] at h
 obtain rfl := Option.some.inj h
 have hown : w.ownsRow w0.heap.size 2 1 a0 l0.length (l0.map (Value.int .i64)) := Kd.own_of_R a3
 rcases hown.2 with ⟨rfl, hn⟩ | ⟨g, cap, cur, rfl, hbase, hg, hnc, hcap, hsz, htk⟩
 ·obtain rfl : l0 = [] := List.eq_nil_of_length_eq_zero hn
  refine (AnyM.slices_Sort_int_none Shelf.laysSlLaysM5 none 0 w).mono fun e w' hw => ?_
  obtain ⟨he, rfl⟩ := hw
  exact ⟨he, by rw [List.mergeSort_nil]; exact Kd.R_nil _ _ _ _ _, hB, Kept.refl _ _⟩
 ·have hb : g < w.heap.size := (Array.getElem?_eq_some_iff.1 hg).1
  refine (AnyM.slices_Sort_int Shelf.laysSlLaysM5 g 0 cap l0 w (holds_of_blockI hg (by simpa using htk)) hb a2).mono fun e w' hw => ?_
  obtain ⟨he, n, os, rfl⟩ := hw
  have hl : (l0.mergeSort fun x y => decide (x ≤ y)).length = l0.length := List.length_mergeSort l0
  have hR := ownsRow_sortedI (n := n) (os := os) hl hbase hg hnc hcap hsz
  rw [← hl] at hR
  have hgr := grownBy_sortedI (w := w) (g := g) (n := n) (os := os) (l0.mergeSort fun x y => decide (x ≤ y)).toArray
  refine ⟨he, ?_, hB.grown hgr hB.size (fun k hk => ?_), Kept.of_grown (S := fun k_ => a1 k_) hgr (Kept.refl _ _) (fun k hk => .inl ?_)⟩
  ·rw [hl] at hR
   refine Kd.R_of_own (h1 := fun _ => rfl) ?_ (fun k hk => .inl (a3.1 k hk))
   rw [hl]
   exact hR
  ·injection hk with hk
   omega
  ·injection hk with hk
   subst hk
   exact a3.1 _ rfl
def slices_Compact_int64_int64.f (l0 : List Int) : Option (List Int) := if l0.length ≤ 9223372036854775807 ∧ (Lib.compact l0).length ≤ l0.length then some (Lib.compact l0) else none
theorem slices_Compact_int64_int64.calls (a1 : Nat → Prop) (a0 : Value) (l0 : List Int) (r : List Int) (w0 w : World) (hB : Below w0.heap.size w0 w) (a3 : Kd.R (Kd.int .i64) 2 w w0.heap.size a1 a0 l0) (h : slices_Compact_int64_int64.f l0 = some r) :
  Calls Tryz.prog 72 #[a0] w fun e w' => ∃ a4 : Value, e = .returned (a4) ∧ Kd.R (Kd.int .i64) 2 w' w0.heap.size (fun k_ => (a1 k_ ∨ w.heap.size ≤ k_)) a4 r ∧ Below w0.heap.size w0 w' ∧ Kept w w' (fun k_ => a1 k_) := by
 unfold slices_Compact_int64_int64.f at h
 by_cases a2 : l0.length ≤ 9223372036854775807 ∧ (Lib.compact l0).length ≤ l0.length
 case neg => rw [if_neg a2] at h; cases h
 rw [if_pos a2] at h
 obtain rfl := Option.some.inj h
 have hown : w.ownsRow w0.heap.size 2 1 a0 l0.length (l0.map (Value.int .i64)) := Kd.own_of_R a3
 rcases hown.2 with ⟨rfl, hn⟩ | ⟨g, cap, cur, rfl, hbase, hg, hnc, hcap, hsz, htk⟩
 ·obtain rfl : l0 = [] := List.eq_nil_of_length_eq_zero hn
  refine (AnyG.slices_Compact_int_empty Shelf.laysSlLaysN43 none 0 w).mono fun e w' hw => ?_
  obtain ⟨he, rfl⟩ := hw
  exact ⟨_, he, Kd.R_nil _ _ _ _ _, hB, Kept.refl _ _⟩
 ·refine (AnyG.slices_Compact_int Shelf.laysSlLaysN43 g 0 cap l0 w (holds_of_blockI hg (by simpa using htk)) a2.1 hnc).mono fun e w' hw => ?_
  obtain ⟨he, q, rfl⟩ := hw
  have hl : (Lib.compact l0 ++ List.replicate (l0.length - (Lib.compact l0).length) 0).length = l0.length := by
   rw [List.length_append, List.length_replicate]; omega
  have hR := Lib.ownsRow_putRow (q := q) (k := (Lib.compact l0).length) hown hl a2.2
  rw [List.take_left' rfl] at hR
  have hgr : w.grownBy (Sort.putRow (Value.int .i64) (Sort.ahead w q) g 0 (Lib.compact l0 ++ List.replicate (l0.length - (Lib.compact l0).length) 0).toArray) (some g) := by
   have h0 := grownBy_sortedI (w := w) (g := g) (n := q) (os := #[]) (Lib.compact l0 ++ List.replicate (l0.length - (Lib.compact l0).length) 0).toArray
   rwa [Sort.grow_empty] at h0
  refine ⟨_, he, Kd.R_of_own (h1 := fun _ => rfl) hR (fun k hk => .inl ?_), hB.grown hgr hB.size (fun k hk => ?_), Kept.of_grown (S := fun k_ => a1 k_) hgr (Kept.refl _ _) (fun k hk => .inl ?_)⟩
  ·exact a3.1 k (by simpa [Value.ownBlock] using hk)
  ·injection hk with hk
   omega
  ·injection hk with hk
   subst hk
   exact a3.1 _ rfl
mutual
def impl_varsOf.l0 : Nat → List Int → List (List Int) → Int → Int → Option (List Int)
 | 0, _, _, _, _ => none
 | k + 1, x3, x9, a3, a0 => if a0 < a3 then (if 0 ≤ a0 then (if a0 < (x9.length : Int) then (impl_varsOf.l1 k x3 x9 a3 a0 (rd_L6 x9 a0) ((rd_L6 x9 a0).length : Int) 0) else (none)) else (none)) else ((slices_Sort_int64_int64.f x3).bind fun a1 => ((slices_Compact_int64_int64.f a1).bind fun a2 => (some a2)))
def impl_varsOf.l1 : Nat → List Int → List (List Int) → Int → Int → List Int → Int → Int → Option (List Int)
 | 0, _, _, _, _, _, _, _ => none
 | k + 1, x3, x9, a2, a3, a1, a4, a0 => if a0 < a4 then (if 0 ≤ a0 then (if a0 < (a1.length : Int) then (if (rd a1 a0) < 0 then (if x3.length < 17592186044416 then (impl_varsOf.l1 k (x3 ++ [wrap64 ((-1) - (rd a1 a0))]) x9 a2 a3 a1 a4 (wrap64 (a0 + 1))) else (none)) else (impl_varsOf.l1 k x3 x9 a2 a3 a1 a4 (wrap64 (a0 + 1)))) else (none)) else (none)) else (impl_varsOf.l0 k x3 x9 a2 (wrap64 (a3 + 1)))
end
def impl_varsOf.f (k : Nat) (l0 : List (List Int)) : Option (List Int) := impl_varsOf.l0 k (([] : List Int)) l0 (l0.length : Int) 0
theorem impl_varsOf.calls (k : Nat) (A0 : Option Addr) (c0 : Nat) (l0 : List (List Int)) (r : List Int) (w : World) (g5 : Kd.C (Kd.slice 2 (Kd.int .i64)) w A0 l0.length l0) (g3 : l0.length ≤ c0) (h : impl_varsOf.f k l0 = some r) :
  Calls Tryz.prog 37 #[.slice A0 l0.length c0] w fun e w' => ∃ g7 : Value, e = .returned (g7) ∧ Kd.R (Kd.int .i64) 2 w' w.heap.size (fun _ => True) g7 r ∧ Below w.heap.size w w' := by
 have h0 := am g5
 have i0 := am g3
 clear g5 g3
 have HB := am (Below.refl w.heap.size w)
 have H : (impl_varsOf.l0 k (([] : List Int)) l0 (l0.length : Int) 0) = some r := h
 clear h
 obtain ⟨e0, b1⟩ : ∃ y_ : List Int, y_ = (([] : List Int)) := ⟨_, rfl⟩
 replace H : (impl_varsOf.l0 k e0 l0 (l0.length : Int) 0) = some r := by first | (rw [b1]; first | with_reducible exact H | with_reducible exact bs H) | with_reducible exact bs H | with_reducible exact H | (rw [b1]; exact H) | exact H
 have b7 := am b1
 clear b1
 have H' := am H
 clear H
 go_enter Tryz.func37, Tryz.ntmps37
 go_wp2_with (first | (refine rl 8 rfl 2 [] ?_; intro h6 w2 d8 hb h4 hnew_; clear h4 hnew_; (first | rw [← b7.out] at d8 | (simp only [Int.reduceToNat] at d8; rw [← b7.out] at d8)); have d0 := am (Kd.R_lower d8 (below_size (hq HB.out))); replace HB := sb HB hb; clear hb d8))
 go_loopg [3, 11] k (fun kq v3 h5 w' => ∃ (a3 : List Int) (a0 : Int), h5 = .int .i64 a0 ∧ Aside0 (impl_varsOf.l0 kq a3 l0 (l0.length : Int) a0 = some r) ∧ Aside0 (kq ≤ k) ∧ Aside0 (Kd.R (Kd.int .i64) 2 w' w.heap.size (fun _ => True) v3 a3) ∧ Aside0 (Below w.heap.size w w'))
 case atStart => exact ⟨(e0), (0), et, H', ⟨Nat.le_refl _⟩, ⟨rq d0.out⟩, ⟨hq HB.out⟩⟩
 case round =>
  clear H'
  obtain ⟨a3, a0, rfl, HA, b9, HO_3, HB⟩ := hrel
  cases gk with
  | zero => exact absurd HA.out (by simp [impl_varsOf.l0])
  | succ k1 =>
   have H := HA.out
   clear HA
   simp only [impl_varsOf.l0] at H
   by_cases c4 : a0 < (l0.length : Int)
   ·rw [if_pos c4] at H
    have d7 := decide_eq_true c4
    clear c4
    obtain ⟨e5, H⟩ := ife H
    obtain ⟨e6, H⟩ := ife H
    have H' := am H
    clear H
    have b5 : 0 ≤ (a0 : Int) := od
    have b6 : a0 < (l0.length : Int) := od
    obtain ⟨g1, e3, e4, e8, a4, b0, a9⟩ := at_L6 h0.out a0 b5 b6
    cases e8
    replace a4 := cz HB.out a4
    have a8 := am a9
    have e2 := am b0
    clear a9 b0
    obtain ⟨b5, b6⟩ := ee b5 b6
    go_wp2
    go_loopg [3, 17] k1 (fun kq v3 h9 w' => ∃ (a7 : List Int) (a1 : Int), h9 = .int .i64 a1 ∧ Aside0 (impl_varsOf.l1 kq a7 l0 (l0.length : Int) a0 (rd_L6 l0 a0) ((rd_L6 l0 a0).length : Int) a1 = some r) ∧ Aside0 (kq ≤ k1) ∧ Aside0 (Kd.R (Kd.int .i64) 2 w' w.heap.size (fun _ => True) v3 a7) ∧ Aside0 (Below w.heap.size w w'))
    case atStart => exact ⟨(a3), (0), et, H', ⟨Nat.le_refl _⟩, ⟨rq HO_3.out⟩, ⟨hq HB.out⟩⟩
    case round =>
     clear H'
     try clear c4; try clear d7; try clear e5; try clear e6; try clear a4; try clear b5; try clear b6
     obtain ⟨a7, a1, rfl, HA, c1, HO_3, HB⟩ := hrel
     cases gk with
     | zero => exact absurd HA.out (by simp [impl_varsOf.l1])
     | succ k2 =>
      have H := HA.out
      clear HA
      simp only [impl_varsOf.l1] at H
      by_cases c7 : a1 < ((rd_L6 l0 a0).length : Int)
      ·rw [if_pos c7] at H
       have e7 := decide_eq_true c7
       clear c7
       obtain ⟨h2, H⟩ := ife H
       obtain ⟨h3, H⟩ := ife H
       by_cases c10 : (rd (rd_L6 l0 a0) a1) < 0
       ·rw [if_pos c10] at H
        have d6 := decide_eq_true c10
        clear c10
        obtain ⟨g2, H⟩ := ifs H
        have d3 := am g2
        clear g2
        obtain ⟨e1, b2⟩ : ∃ y_ : List Int, y_ = (a7 ++ [wrap64 ((-1) - (rd (rd_L6 l0 a0) a1))]) := ⟨_, rfl⟩
        replace H : (impl_varsOf.l1 k2 e1 l0 (l0.length : Int) a0 (rd_L6 l0 a0) ((rd_L6 l0 a0).length : Int) (wrap64 (a1 + 1))) = some r := by first | (rw [b2]; first | with_reducible exact H | with_reducible exact bs H) | with_reducible exact bs H | with_reducible exact H | (rw [b2]; exact H) | exact H
        have d4 := am b2
        clear b2
        have H' := am H
        clear H
        have a5 : 0 ≤ (a1 : Int) := od
        have a6 : a1 < ((rd_L6 l0 a0).length : Int) := od
        obtain ⟨d5, b8, a2⟩ := Kd.at_int a8.out a1 a5 a6
        cases b8
        replace a2 := cz HB.out a2
        obtain ⟨a5, a6⟩ := ee a5 a6
        go_wp2_with (first | ((with_reducible refine gate_builtin (b := .append) (xs := #[.tmp 23, .tmp 26]) rfl ?_); at_builtin; refine Kd.R_append (Kd.int .i64) (w0 := w) w.heap.size rfl (.tmp 23) (.tmp 26) 27 2 (.int .i64 0) 8 rfl Tryz.underlying27 info2 rfl (by decide) (by omega) u3 a7 (wrap64 ((-1) - (rd (rd_L6 l0 a0) a1))) [.int .i64 (wrap64 ((-1) - (rd (rd_L6 l0 a0) a1)))] (fun _ => True) (fun _ => False) rfl rfl ?aP (fun _ hk => hk.elim) ?aF ?aO ?aB ?aS ?aL ?_; (case aP => exact rfl); (case aB => exact (hq HB.out)); (case aF => exact (fun _ _ => trivial)); (case aO => exact (rq HO_3.out)); (case aS => exact (below_size (hq HB.out))); (case aL => have := d3.out; omega); intro h8 i2 ho hb hg hat; rw [← d4.out] at ho; replace HB := am (hb); have d2 := am (ho); clear HO_3; clear ho hb hg hat))
        go_roundg k2
        case measure => have := b9.out; have := c1.out; omega
        case rel => exact ⟨(e1), (wrap64 (a1 + 1)), et, H', ⟨by have := b9.out; have := c1.out; omega⟩, ⟨rq d2.out⟩, ⟨hq HB.out⟩⟩
       ·rw [if_neg c10] at H
        have d6 := decide_eq_false c10
        clear c10
        have H' := am H
        clear H
        have a5 : 0 ≤ (a1 : Int) := od
        have a6 : a1 < ((rd_L6 l0 a0).length : Int) := od
        obtain ⟨d5, b8, a2⟩ := Kd.at_int a8.out a1 a5 a6
        cases b8
        replace a2 := cz HB.out a2
        obtain ⟨a5, a6⟩ := ee a5 a6
        go_wp2
        go_roundg k2
        case measure => have := b9.out; have := c1.out; omega
        case rel => exact ⟨(a7), (wrap64 (a1 + 1)), et, H', ⟨by have := b9.out; have := c1.out; omega⟩, ⟨rq HO_3.out⟩, ⟨hq HB.out⟩⟩
      ·rw [if_neg c7] at H
       have e7 := decide_eq_false c7
       clear c7
       have H' := am H
       clear H
       go_wp2
       go_roundg k2
       case measure => have := b9.out; have := c1.out; omega
       case rel => exact ⟨(a7), (wrap64 (a0 + 1)), et, H', ⟨by have := b9.out; have := c1.out; omega⟩, ⟨rq HO_3.out⟩, ⟨hq HB.out⟩⟩
   ·rw [if_neg c4] at H
    have d7 := decide_eq_false c4
    clear c4
    obtain ⟨d9, g8, H⟩ := ob H
    try dsimp only at H
    obtain ⟨g0, g9, H⟩ := ob H
    try dsimp only at H
    obtain rfl := Option.some.inj H
    obtain ⟨b3, b4, e9⟩ := Kd.R_slice HO_3.out
    subst e9
    go_wp2_with (first | (refine gl (some 31) Tryz.func71 rfl #[.slice b3 a3.length b4] ?_; refine (slices_Sort_int64_int64.calls (fun k_ => some k_ = (.slice b3 a3.length b4 : Value).ownBlock) (.slice b3 a3.length b4) a3 d9 w _ (hq HB.out) (Kd.R_tight rfl HO_3.out) g8.out).mono ?_; rintro e i3 ⟨rfl, g6, hb, hkp⟩; refine ⟨_, rfl, ?_⟩; replace HO_3 := am (Kd.R_reok rfl g6 (fun k_ e_ => HO_3.out.1 k_ e_)); replace HB := am (hb); clear hb hkp g6) | (refine gl (some 33) Tryz.func72 rfl #[.slice b3 a3.length b4] ?_; refine (slices_Compact_int64_int64.calls (fun k_ => some k_ = (.slice b3 a3.length b4 : Value).ownBlock) (.slice b3 a3.length b4) d9 g0 w _ (hq HB.out) (Kd.R_tight rfl HO_3.out) g9.out).mono ?_; rintro e i4 ⟨h7, rfl, g4, hb, hkp⟩; refine ⟨_, rfl, ?_⟩; have d1 := am (Kd.R_mono (ok' := fun k_ => True) g4 (fun k_ i1 => trivial)); replace HB := am (hb); clear HO_3; clear hb hkp g4))
    go_ret
    exact ⟨_, er, rq d1.out, hq HB.out⟩
def impl_EquationFault_1.f (a0 : Int) : Option (Bool) := some (decide (a0 ≥ 6))
theorem impl_EquationFault_1.calls (a0 : Int) (r : Bool) (w : World) (h : impl_EquationFault_1.f a0 = some r) :
  Calls Tryz.prog 38 #[.int .i64 a0] w fun e w' => e = .returned (.bool r) ∧ Drawn0 w w' := by
 have H : (some (decide (a0 ≥ 6))) = some r := h
 clear h
 obtain rfl := Option.some.inj H
 go_enter Tryz.func38, Tryz.ntmps38
 go_wp2
 go_ret
 exact ⟨et, dn⟩
def slices_IndexFunc_int64_int64_impl_EquationFault_1.l0 : Nat → List Int → Int → Int → Option (Int)
 | 0, _, _, _ => none
 | k + 1, x0, x7, x8 => if x8 < x7 then (if 0 ≤ x8 then (if x8 < (x0.length : Int) then ((impl_EquationFault_1.f (rd x0 x8)).bind fun a0 => (if a0 = true then (some x8) else (slices_IndexFunc_int64_int64_impl_EquationFault_1.l0 k x0 x7 (wrap64 (x8 + 1))))) else (none)) else (none)) else (some (-1))
def slices_IndexFunc_int64_int64_impl_EquationFault_1.f (k : Nat) (l0 : List Int)  : Option (Int) := slices_IndexFunc_int64_int64_impl_EquationFault_1.l0 k l0 (l0.length : Int) 0
theorem slices_IndexFunc_int64_int64_impl_EquationFault_1.calls (k : Nat) (A0 : Option Addr) (c0 : Nat) (l0 : List Int)  (r : Int) (w : World) (b1 : Kd.C (Kd.int .i64) w A0 l0.length l0) (b0 : l0.length ≤ c0) (h : slices_IndexFunc_int64_int64_impl_EquationFault_1.f k l0 = some r) :
  Calls Tryz.prog 70 #[.slice A0 l0.length c0, .func (.func 38) #[] #[]] w fun e w' => e = .returned (.int .i64 r) ∧ Below w.heap.size w w' := by
 have b2 := am b1
 have b5 := am b0
 clear b1 b0
 have HB := am (Below.refl w.heap.size w)
 have H : (slices_IndexFunc_int64_int64_impl_EquationFault_1.l0 k l0 (l0.length : Int) 0) = some r := h
 clear h
 have H' := am H
 clear H
 go_enter Tryz.func70, Tryz.ntmps70
 go_wp2
 go_loopg [8] k (fun kq v8 w' => ∃ (a0 : Int), v8 = .int .i64 a0 ∧ Aside0 (slices_IndexFunc_int64_int64_impl_EquationFault_1.l0 kq l0 (l0.length : Int) a0 = some r) ∧ Aside0 (kq ≤ k) ∧ Aside0 (Below w.heap.size w w'))
 case atStart => exact ⟨(0), et, H', ⟨Nat.le_refl _⟩, ⟨hq HB.out⟩⟩
 case round =>
  clear H'
  obtain ⟨a0, rfl, HA, a8, HB⟩ := hrel
  cases gk with
  | zero => exact absurd HA.out (by simp [slices_IndexFunc_int64_int64_impl_EquationFault_1.l0])
  | succ k1 =>
   have H := HA.out
   clear HA
   simp only [slices_IndexFunc_int64_int64_impl_EquationFault_1.l0] at H
   by_cases c3 : a0 < (l0.length : Int)
   ·rw [if_pos c3] at H
    have a5 := decide_eq_true c3
    clear c3
    obtain ⟨b3, H⟩ := ife H
    obtain ⟨b4, H⟩ := ife H
    obtain ⟨a4, A6, H⟩ := ob H
    try dsimp only at H
    have a7 := am H
    clear H
    have a2 : 0 ≤ (a0 : Int) := od
    have a3 : a0 < (l0.length : Int) := od
    obtain ⟨a9, a6, a1⟩ := Kd.at_int b2.out a0 a2 a3
    cases a6
    replace a1 := cz HB.out a1
    obtain ⟨a2, a3⟩ := ee a2 a3
    go_upto_if 16 with (first | ((first | (refine gl (some 16) Tryz.func38 rfl #[.int .i64 (rd l0 a0)] ?_) | ((with_reducible refine gate_calleeV _ rfl ?_); refine goesV_ (some 16) rfl rfl Tryz.func38 (by kernel_rfl) rfl #[.int .i64 (rd l0 a0)] rfl rfl (by first | rfl | (simp <;> first | rfl | exact ⟨rfl, rfl⟩ | exact ⟨rfl, rfl, rfl⟩) | ((try simp only [List.map_toArray, List.map_cons, List.map_nil]); first | done | rfl | (simp only [List.length_drop, List.length_take]; rfl))) ?_)); refine (impl_EquationFault_1.calls (rd l0 a0) a4 _ A6.out).mono ?_; rintro e w' ⟨rfl, ⟨nd, rfl⟩⟩; refine ⟨_, rfl, ?_⟩))
    have H := a7.out
    clear a7
    by_cases c8 : a4 = true
    ·subst c8
     rw [if_pos rfl] at H
     obtain rfl := Option.some.inj H
     go_wp2
     go_ret
     exact ⟨er, hq HB.out⟩
    ·replace c8 := Bool.eq_false_iff.mpr c8
     subst c8
     rw [if_neg (show ¬ (false = true) by decide)] at H
     have H' := am H
     clear H
     go_wp2
     go_roundg k1
     case measure => have := a8.out; omega
     case rel => exact ⟨(wrap64 (a0 + 1)), et, H', ⟨by have := a8.out; omega⟩, ⟨hq HB.out⟩⟩
   ·rw [if_neg c3] at H
    have a5 := decide_eq_false c3
    clear c3
    obtain rfl := Option.some.inj H
    go_wp2
    go_ret
    exact ⟨er, hq HB.out⟩
def slices_ContainsFunc_int64_int64_impl_EquationFault_1.f (k : Nat) (l0 : List Int)  : Option (Bool) := (slices_IndexFunc_int64_int64_impl_EquationFault_1.f k l0).bind fun a0 => (some (decide (a0 ≥ 0)))
theorem slices_ContainsFunc_int64_int64_impl_EquationFault_1.calls (k : Nat) (A0 : Option Addr) (c0 : Nat) (l0 : List Int)  (r : Bool) (w : World) (a2 : Kd.C (Kd.int .i64) w A0 l0.length l0) (a1 : l0.length ≤ c0) (h : slices_ContainsFunc_int64_int64_impl_EquationFault_1.f k l0 = some r) :
  Calls Tryz.prog 36 #[.slice A0 l0.length c0, .func (.func 38) #[] #[]] w fun e w' => e = .returned (.bool r) ∧ Below w.heap.size w w' := by
 have a4 := am a2
 have a3 := am a1
 clear a2 a1
 have HB := am (Below.refl w.heap.size w)
 have H : ((slices_IndexFunc_int64_int64_impl_EquationFault_1.f k l0).bind fun a0 => (some (decide (a0 ≥ 0)))) = some r := h
 clear h
 obtain ⟨a0, A3, H⟩ := ob H
 try dsimp only at H
 obtain rfl := Option.some.inj H
 go_enter Tryz.func36, Tryz.ntmps36
 go_wp2_with (first | (refine gl (some 7) Tryz.func70 rfl #[.slice A0 l0.length c0, .func (.func 38) #[] #[]] ?_; refine (slices_IndexFunc_int64_int64_impl_EquationFault_1.calls k _ _ l0  a0 _ (cq a4.out) a3.out A3.out).mono ?_; rintro e w4 ⟨rfl, hb⟩; refine ⟨_, rfl, ?_⟩; replace HB := sb HB hb; clear hb))
 go_ret
 exact ⟨er, hq HB.out⟩
end Go.Proofs.YtbdpnkpienpnaaaGreatDoor.P
