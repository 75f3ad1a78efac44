/- A part of the proof of the law FnPlain. -/
import Derived.Test.YtbdpnkpienpnaaaGreatDoorProg
import Derived.Deep.Slices
import Derived.Deep.Fields
import Derived.ChangeSame
import Derived.ChangeOld
import Derived.OpenShut
import Derived.ShutString
import Derived.ProofKit
import Derived.WalkKit
import Derived.Ground.NamesProg
import Derived.Shelf.Lays
import Derived.Ground.SlgmProg
import Derived.Shelf.SlLaysM
import Derived.Ground.SlgnProg
import Derived.Shelf.SlLaysN
import Derived.Shelf.SlGeneric
import Derived.Lib.SlTrimSet
import Derived.Lib.Strings
import Derived.Test.YtbdpnkpienpnaaaGreatDoorCFnPlain0
set_option linter.unusedVariables false
namespace Go.Proofs.YtbdpnkpienpnaaaGreatDoor.Open
open Go.ChangeShapes Go.WideShapes Go.RowKit Go.Deep Go.Proofs.YtbdpnkpienpnaaaGreatDoorW.PrintWords
def Au4 {α : Type} (P : Program) (w : World) (T : TypeId) (d : Kd α) (good : α → Prop) : Prop :=
 ∀ (H : Type) (enc : TypeId × Value → H) (base : Nat) (spare : Nat → Bool) (held : Bool) (fuel : Nat) (cs : List Value) (x : DataW H × List MemPlace),
  DataW.trod enc P w base spare held fuel T cs = some x → ∃ a, d.K w a cs ∧ good a
section
variable {P : Program} {w : World} {T : TypeId}
theorem Au4.int_ {k : IntKind} (h : P.underlying T = some (.int k)) : Au4 P w T (Kd.int k) (fun n => (Lit.int k n).wf = true) := by
 intro H enc base spare held fuel cs x hx
 obtain ⟨n, rfl, _, hw⟩ := DataW.trod_int h hx
 exact ⟨n, rfl, hw⟩
theorem Au4.slice_ {α : Type} {e : TypeId} {d : Kd α} {good : α → Prop} (h : P.underlying T = some (.slice e)) (hc : P.cellsOf e = d.sz) (he : Au4 P w e d good) :
  Au4 P w T (Kd.slice e d) (fun xs => xs.length ≤ maxLen ∧ ∀ x ∈ xs, good x) := by
 intro H enc base spare held fuel cs x hx
 rcases open_slice h hx with ⟨rfl, _⟩ | ⟨a, len, cap, m, n, D, Pl, rfl, hb, hl, hm, hmm, _, hi⟩
 ·exact ⟨[], ⟨none, 0, rfl, Nat.le_refl _, Kd.C_nil _ _⟩, by simp [maxLen], by simp⟩
 ·have hlm : len ≤ m := by rw [hmm]; split <;> omega
  have hel : ∀ i, i < len → ∃ (y : α) (c : List Value), d.K w y c ∧ good y ∧ ∀ j u, c[j]? = some u → w.cell? (a.add (i * d.sz + j)) = some u := by
   intro i hil
   obtain ⟨cs', hcs, ht⟩ := hi i (by omega)
   obtain ⟨y, hy, hg⟩ := he H enc base spare held n cs' _ ht
   obtain ⟨_, hcl, hat⟩ := World.cells?_some hcs
   refine ⟨y, cs', hy, hg, fun j u hu => ?_⟩
   have hj : j < cs'.length := (List.getElem?_eq_some_iff.1 hu).1
   rw [← hc, ← Go.Deep.add_add, hat j (by omega), hu]
  have key : ∀ k, k ≤ len → ∃ ys : List α, ys.length = k ∧ (∀ y ∈ ys, good y) ∧ ∀ j p, ys[j]? = some p → ∃ c, c.length = d.sz ∧ d.K w p c ∧ ∀ i u, c[i]? = some u → w.cell? (a.add (j * d.sz + i)) = some u := by
   intro k
   induction k with
   | zero => intro _; exact ⟨[], rfl, by simp, by simp⟩
   | succ k ih =>
    intro hk
    obtain ⟨ys, hyl, hyg, hyc⟩ := ih (by omega)
    obtain ⟨y, c, hK, hg, hcell⟩ := hel k (by omega)
    refine ⟨ys ++ [y], by simp [hyl], ?_, ?_⟩
    ·intro z hz
     rcases List.mem_append.1 hz with hz | hz
     ·exact hyg z hz
     ·rw [List.mem_singleton.1 hz]; exact hg
    ·intro j p hj
     by_cases hjk : j < ys.length
     ·rw [List.getElem?_append_left hjk] at hj
      exact hyc j p hj
     ·have hj1 : j < (ys ++ [y]).length := (List.getElem?_eq_some_iff.1 hj).1
      rw [List.length_append, List.length_singleton] at hj1
      have hjl : j = ys.length := by omega
      subst hjl
      have : y = p := by simpa using hj
      subst this
      exact ⟨c, d.K_len hK, hK, by rw [hyl]; exact hcell⟩
  obtain ⟨ys, hyl, hyg, hyc⟩ := key len (Nat.le_refl _)
  subst hyl
  unfold maxLen at hm
  exact ⟨ys, ⟨some a, cap, rfl, hl, rfl, by omega, fun _ => ⟨a, rfl, hyc⟩⟩, by unfold maxLen; omega, hyg⟩
variable {H : Type} {enc : TypeId × Value → H} {r : Reach} {b0 base : Nat} {spare : Nat → Bool} {held : Bool} {v : Value} {dd : DataW H} {p : List MemPlace}
theorem arg_slice {α : Type} {e : TypeId} {d : Kd α} {good : List α → Prop} (ht : P.underlying T = some (.slice e)) (hv : Value.okWide P w r b0 T v) (hd : DataW.Trod enc P w base spare held T v dd p)
  (ho : Au4 P w T (Kd.slice e d) good) : ∃ A c xs, v = .slice A xs.length c ∧ xs.length ≤ c ∧ d.C w A xs.length xs ∧ good xs := by
 obtain ⟨a, len, cap, rfl⟩ := okWide_slice ht hv
 obtain ⟨fuel, hf⟩ := hd
 obtain ⟨xs, ⟨A, c, hcs, hl, hC⟩, hg⟩ := ho H enc base spare held fuel _ _ hf
 simp [Value.cells] at hcs
 obtain ⟨rfl, rfl, rfl⟩ := hcs
 exact ⟨_, _, xs, rfl, hl, hC, hg⟩
end
end Go.Proofs.YtbdpnkpienpnaaaGreatDoor.Open
namespace Go.Proofs.YtbdpnkpienpnaaaGreatDoor.Shelf
open Go.Shelf
def lays160_ren : Go.Shelf.Ren := ⟨fun | 160 => 95 | 232 => 116 | 231 => 115 | 227 => 117 | 234 => 119 | 233 => 118 | 236 => 121 | 235 => 120 | 228 => 135 | 271 => 138 | 151 => 137 | 197 => 136 | 120 => 147 | 152 => 146 | 260 => 145 | 137 => 149 | 119 => 150 | 224 => 127 | 225 => 126 | 217 => 125 | 266 => 142 | n => n, fun | 9 => 9 | 4 => 4 | 3 => 3 | 5 => 5 | 117 => 155 | 116 => 154 | 0 => 0 | 124 => 158 | 21 => 21 | 105 => 169 | 46 => 121 | 119 => 181 | 139 => 184 | 138 => 183 | n => n, fun | 3 => 1 | 4 => 2 | n => n⟩
theorem lays160 : Go.Proofs.Lays.n160 Tryz.prog lays160_ren := {
 mixed := by kernel_rfl
 f119 := Tryz.func150.trans (congrArg some (by kernel_rfl))
 f120 := Tryz.func147.trans (congrArg some (by kernel_rfl))
 f137 := Tryz.func149.trans (congrArg some (by kernel_rfl))
 f151 := Tryz.func137.trans (congrArg some (by kernel_rfl))
 f152 := Tryz.func146.trans (congrArg some (by kernel_rfl))
 f160 := Tryz.func95.trans (congrArg some (by kernel_rfl))
 f197 := Tryz.func136.trans (congrArg some (by kernel_rfl))
 f217 := Tryz.func125.trans (congrArg some (by kernel_rfl))
 f224 := Tryz.func127.trans (congrArg some (by kernel_rfl))
 f225 := Tryz.func126.trans (congrArg some (by kernel_rfl))
 f227 := Tryz.func117.trans (congrArg some (by kernel_rfl))
 f228 := Tryz.func135.trans (congrArg some (by kernel_rfl))
 f231 := Tryz.func115.trans (congrArg some (by kernel_rfl))
 f232 := Tryz.func116.trans (congrArg some (by kernel_rfl))
 f233 := Tryz.func118.trans (congrArg some (by kernel_rfl))
 f234 := Tryz.func119.trans (congrArg some (by kernel_rfl))
 f235 := Tryz.func120.trans (congrArg some (by kernel_rfl))
 f236 := Tryz.func121.trans (congrArg some (by kernel_rfl))
 f260 := Tryz.func145.trans (congrArg some (by kernel_rfl))
 f266 := Tryz.func142.trans (congrArg some (by kernel_rfl))
 f271 := Tryz.func138.trans (congrArg some (by kernel_rfl))
 t0 := Tryz.underlying0
 a0 := Tryz.isAgg0
 z0 := Tryz.sizeOf0
 v0 := Tryz.zeroValue0
 t3 := Tryz.underlying3
 a3 := Tryz.isAgg3
 z3 := Tryz.sizeOf3
 v3 := Tryz.zeroValue3
 t4 := Tryz.underlying4
 a4 := Tryz.isAgg4
 z4 := Tryz.sizeOf4
 v4 := Tryz.zeroValue4
 t5 := Tryz.underlying5
 a5 := Tryz.isAgg5
 z5 := Tryz.sizeOf5
 v5 := Tryz.zeroValue5
 t9 := Tryz.underlying9
 a9 := Tryz.isAgg9
 z9 := Tryz.sizeOf9
 v9 := Tryz.zeroValue9
 t21 := Tryz.underlying21
 a21 := Tryz.isAgg21
 z21 := Tryz.sizeOf21
 v21 := Tryz.zeroValue21
 t46 := Tryz.underlying121
 a46 := Tryz.isAgg121
 z46 := Tryz.sizeOf121
 v46 := Tryz.zeroValue121
 t105 := Tryz.underlying169
 a105 := Tryz.isAgg169
 z105 := Tryz.sizeOf169
 v105 := Tryz.zeroValue169
 t116 := Tryz.underlying154
 a116 := Tryz.isAgg154
 z116 := Tryz.sizeOf154
 t117 := Tryz.underlying155
 a117 := Tryz.isAgg155
 z117 := Tryz.sizeOf155
 v117 := Tryz.zeroValue155
 t119 := Tryz.underlying181
 a119 := Tryz.isAgg181
 z119 := Tryz.sizeOf181
 t124 := Tryz.underlying158
 a124 := Tryz.isAgg158
 z124 := Tryz.sizeOf158
 v124 := Tryz.zeroValue158
 t138 := Tryz.underlying183
 a138 := Tryz.isAgg183
 z138 := Tryz.sizeOf183
 v138 := Tryz.zeroValue183
 t139 := Tryz.underlying184
 a139 := Tryz.isAgg184
 z139 := Tryz.sizeOf184
 v139 := Tryz.zeroValue184
 g3 := by kernel_rfl
 g4 := by kernel_rfl }
def laysSlLaysM5_ren : Go.Shelf.Ren := ⟨fun | 5 => 71 | 8 => 94 | 7 => 93 | 19 => 113 | 20 => 114 | 10 => 104 | 11 => 105 | 12 => 106 | 13 => 107 | 14 => 108 | 15 => 109 | 16 => 110 | 17 => 111 | 18 => 112 | 30 => 129 | 31 => 130 | 32 => 131 | 33 => 132 | 34 => 133 | 35 => 134 | 40 => 144 | n => n, fun | 23 => 27 | 25 => 2 | 3 => 3 | 32 => 121 | 22 => 27 | 0 => 0 | 44 => 149 | 46 => 151 | 4 => 4 | 36 => 141 | 35 => 140 | 41 => 146 | 5 => 5 | 9 => 9 | 53 => 162 | 57 => 166 | 63 => 177 | 64 => 178 | n => n, fun | n => n⟩
theorem laysSlLaysM5 : Go.Proofs.SlLaysM.n5 Tryz.prog laysSlLaysM5_ren := {
 mixed := by kernel_rfl
 f5 := ⟨Tryz.f71.name, by decide, Tryz.func71.trans (congrArg some (by kernel_rfl))⟩
 f7 := ⟨Tryz.f93.name, by decide, Tryz.func93.trans (congrArg some (by kernel_rfl))⟩
 f8 := Tryz.func94.trans (congrArg some (by kernel_rfl))
 f10 := ⟨Tryz.f104.name, by decide, Tryz.func104.trans (congrArg some (by kernel_rfl))⟩
 f11 := ⟨Tryz.f105.name, by decide, Tryz.func105.trans (congrArg some (by kernel_rfl))⟩
 f12 := ⟨Tryz.f106.name, by decide, Tryz.func106.trans (congrArg some (by kernel_rfl))⟩
 f13 := ⟨Tryz.f107.name, by decide, Tryz.func107.trans (congrArg some (by kernel_rfl))⟩
 f14 := ⟨Tryz.f108.name, by decide, Tryz.func108.trans (congrArg some (by kernel_rfl))⟩
 f15 := ⟨Tryz.f109.name, by decide, Tryz.func109.trans (congrArg some (by kernel_rfl))⟩
 f16 := ⟨Tryz.f110.name, by decide, Tryz.func110.trans (congrArg some (by kernel_rfl))⟩
 f17 := ⟨Tryz.f111.name, by decide, Tryz.func111.trans (congrArg some (by kernel_rfl))⟩
 f18 := ⟨Tryz.f112.name, by decide, Tryz.func112.trans (congrArg some (by kernel_rfl))⟩
 f19 := Tryz.func113.trans (congrArg some (by kernel_rfl))
 f20 := Tryz.func114.trans (congrArg some (by kernel_rfl))
 f30 := ⟨Tryz.f129.name, by decide, Tryz.func129.trans (congrArg some (by kernel_rfl))⟩
 f31 := Tryz.func130.trans (congrArg some (by kernel_rfl))
 f32 := Tryz.func131.trans (congrArg some (by kernel_rfl))
 f33 := ⟨Tryz.f132.name, by decide, Tryz.func132.trans (congrArg some (by kernel_rfl))⟩
 f34 := ⟨Tryz.f133.name, by decide, Tryz.func133.trans (congrArg some (by kernel_rfl))⟩
 f35 := ⟨Tryz.f134.name, by decide, Tryz.func134.trans (congrArg some (by kernel_rfl))⟩
 f40 := ⟨Tryz.f144.name, by decide, Tryz.func144.trans (congrArg some (by kernel_rfl))⟩
 t0 := Tryz.underlying0
 a0 := Tryz.isAgg0
 z0 := Tryz.sizeOf0
 v0 := Tryz.zeroValue0
 t3 := Tryz.underlying3
 a3 := Tryz.isAgg3
 z3 := Tryz.sizeOf3
 v3 := Tryz.zeroValue3
 t4 := Tryz.underlying4
 a4 := Tryz.isAgg4
 z4 := Tryz.sizeOf4
 v4 := Tryz.zeroValue4
 t5 := Tryz.underlying5
 a5 := Tryz.isAgg5
 z5 := Tryz.sizeOf5
 v5 := Tryz.zeroValue5
 t9 := Tryz.underlying9
 a9 := Tryz.isAgg9
 z9 := Tryz.sizeOf9
 v9 := Tryz.zeroValue9
 t22 := Tryz.underlying27
 a22 := Tryz.isAgg27
 z22 := Tryz.sizeOf27
 v22 := Tryz.zeroValue27
 t23 := Tryz.underlying27
 a23 := Tryz.isAgg27
 z23 := Tryz.sizeOf27
 v23 := Tryz.zeroValue27
 t25 := Tryz.underlying2
 a25 := Tryz.isAgg2
 z25 := Tryz.sizeOf2
 v25 := Tryz.zeroValue2
 t32 := Tryz.underlying121
 a32 := Tryz.isAgg121
 z32 := Tryz.sizeOf121
 v32 := Tryz.zeroValue121
 t35 := Tryz.underlying140
 a35 := Tryz.isAgg140
 z35 := Tryz.sizeOf140
 v35 := Tryz.zeroValue140
 t36 := Tryz.underlying141
 a36 := Tryz.isAgg141
 z36 := Tryz.sizeOf141
 v36 := Tryz.zeroValue141
 t41 := Tryz.underlying146
 a41 := Tryz.isAgg146
 z41 := Tryz.sizeOf146
 v41 := Tryz.zeroValue146
 t44 := Tryz.underlying149
 a44 := Tryz.isAgg149
 z44 := Tryz.sizeOf149
 v44 := Tryz.zeroValue149
 t46 := Tryz.underlying151
 a46 := Tryz.isAgg151
 z46 := Tryz.sizeOf151
 v46 := Tryz.zeroValue151
 t53 := Tryz.underlying162
 a53 := Tryz.isAgg162
 z53 := Tryz.sizeOf162
 v53 := Tryz.zeroValue162
 t57 := Tryz.underlying166
 a57 := Tryz.isAgg166
 z57 := Tryz.sizeOf166
 v57 := Tryz.zeroValue166
 t63 := Tryz.underlying177
 a63 := Tryz.isAgg177
 z63 := Tryz.sizeOf177
 v63 := Tryz.zeroValue177
 t64 := Tryz.underlying178
 a64 := Tryz.isAgg178
 z64 := Tryz.sizeOf178
 v64 := Tryz.zeroValue178 }
def laysSlLaysN39_ren : Go.Shelf.Ren := ⟨fun | 39 => 35 | n => n, fun | 22 => 27 | 23 => 2 | 3 => 3 | 4 => 4 | 9 => 9 | 20 => 20 | 0 => 0 | n => n, fun | n => n⟩
theorem laysSlLaysN39 : Go.Proofs.SlLaysN.n39 Tryz.prog laysSlLaysN39_ren := {
 mixed := by kernel_rfl
 f39 := ⟨Tryz.f35.name, by decide, Tryz.func35.trans (congrArg some (by kernel_rfl))⟩
 t0 := Tryz.underlying0
 a0 := Tryz.isAgg0
 z0 := Tryz.sizeOf0
 v0 := Tryz.zeroValue0
 t3 := Tryz.underlying3
 a3 := Tryz.isAgg3
 z3 := Tryz.sizeOf3
 v3 := Tryz.zeroValue3
 t4 := Tryz.underlying4
 a4 := Tryz.isAgg4
 z4 := Tryz.sizeOf4
 v4 := Tryz.zeroValue4
 t9 := Tryz.underlying9
 a9 := Tryz.isAgg9
 z9 := Tryz.sizeOf9
 v9 := Tryz.zeroValue9
 t20 := Tryz.underlying20
 a20 := Tryz.isAgg20
 z20 := Tryz.sizeOf20
 v20 := Tryz.zeroValue20
 t22 := Tryz.underlying27
 a22 := Tryz.isAgg27
 z22 := Tryz.sizeOf27
 v22 := Tryz.zeroValue27
 t23 := Tryz.underlying2
 a23 := Tryz.isAgg2
 z23 := Tryz.sizeOf2
 v23 := Tryz.zeroValue2 }
def laysSlLaysN43_ren : Go.Shelf.Ren := ⟨fun | 43 => 72 | n => n, fun | 22 => 27 | 23 => 2 | 3 => 3 | 4 => 4 | 0 => 0 | n => n, fun | n => n⟩
theorem laysSlLaysN43 : Go.Proofs.SlLaysN.n43 Tryz.prog laysSlLaysN43_ren := {
 mixed := by kernel_rfl
 f43 := ⟨Tryz.f72.name, by decide, Tryz.func72.trans (congrArg some (by kernel_rfl))⟩
 t0 := Tryz.underlying0
 a0 := Tryz.isAgg0
 z0 := Tryz.sizeOf0
 v0 := Tryz.zeroValue0
 t3 := Tryz.underlying3
 a3 := Tryz.isAgg3
 z3 := Tryz.sizeOf3
 v3 := Tryz.zeroValue3
 t4 := Tryz.underlying4
 a4 := Tryz.isAgg4
 z4 := Tryz.sizeOf4
 v4 := Tryz.zeroValue4
 t22 := Tryz.underlying27
 a22 := Tryz.isAgg27
 z22 := Tryz.sizeOf27
 v22 := Tryz.zeroValue27
 t23 := Tryz.underlying2
 a23 := Tryz.isAgg2
 z23 := Tryz.sizeOf2
 v23 := Tryz.zeroValue2
 i23 := by kernel_rfl }
end Go.Proofs.YtbdpnkpienpnaaaGreatDoor.Shelf
set_option linter.unusedVariables false
namespace Go.Proofs.YtbdpnkpienpnaaaGreatDoor.Base
open Go.RowKit Go.Proofs.YtbdpnkpienpnaaaGreatDoorW.PrintWords
variable {α β : Type}
theorem Aa5 {c : Prop} [Decidable c] {A B : Nat → Option α} {r : α} (h : c) (k : Ev A r) : Ev (fun n => if c then A n else B n) r := by
 simp only [if_pos h]; exact k
theorem Ab2 {c : Prop} [Decidable c] {A B : Nat → Option α} {r : α} (h : ¬ c) (k : Ev B r) : Ev (fun n => if c then A n else B n) r := by
 simp only [if_neg h]; exact k
theorem Ar6 {c : Prop} [Decidable c] {A B : Nat → Option α} {r s : α} (h : c → Ev A r) (k : ¬ c → Ev B s) : Ev (fun n => if c then A n else B n) (if c then r else s) := by
 by_cases hc : c
 ·rw [if_pos hc]; exact Aa5 hc (h hc)
 ·rw [if_neg hc]; exact Ab2 hc (k hc)
theorem Ac6 {g : Nat → Option α} {r : α} (h : Ev (fun k => g (k + 1)) r) : Ev g r := by
 obtain ⟨K, h⟩ := h
 refine ⟨K + 1, fun n hn => ?_⟩
 obtain ⟨m, rfl⟩ : ∃ m, n = m + 1 := ⟨n - 1, by omega⟩
 exact h m (by omega)
theorem Aa9 (r : α) : Ev (fun _ => some r) r := ⟨0, fun _ _ => rfl⟩
theorem Ac5 {g : Nat → Option α} {f : Nat → α → Option β} {a : α} {r : β} (h : Ev g a) (k : Ev (fun n => f n a) r) : Ev (fun n => (g n).bind (f n)) r := Ev.bind h k
theorem Ab9 {o : Option α} {f : Nat → α → Option β} {a : α} {r : β} (h : o = some a) (k : Ev (fun n => f n a) r) : Ev (fun n => o.bind (f n)) r := by
 subst h; exact k
theorem Ag0 {g : Nat → Option α} {r r' : α} (h : Ev g r) (e : r = r') : Ev g r' := e ▸ h
theorem bind_eq {o : Option α} {f : α → Option β} {a : α} {r : Option β} (h : o = some a) (k : f a = r) : o.bind f = r := by
 subst h; exact k
theorem ev_ex {g : Nat → Option α} {r : α} (h : Ev g r) : ∃ k, g k = some r := Ev.rounds h
theorem Ad7 {x : Int} (h0 : -9223372036854775808 ≤ x) (h1 : x ≤ 9223372036854775807) : wrap64 x = x := by
 unfold wrap64; omega
theorem Ae0 {i : Nat} (h : i < 9223372036854775807) : wrap64 ((i : Int) + 1) = ((i + 1 : Nat) : Int) := by
 unfold wrap64; omega
theorem As1 (xs : List Int) (i : Nat) (h : i < xs.length) : xs.drop i = rd xs (i : Int) :: xs.drop (i + 1) := by
 rw [List.drop_eq_getElem_cons h]
 simp [rd, List.getD_eq_getElem?_getD, List.getElem?_eq_getElem h]
theorem Av8 (xs : List Int) (i : Nat) (h : i < xs.length) : rd xs (i : Int) ∈ xs := by
 have : rd xs (i : Int) = xs[i] := by simp [rd, List.getD_eq_getElem?_getD, List.getElem?_eq_getElem h]
 rw [this]; exact List.getElem_mem h
theorem Aj5 (xs : List Int) (i : Nat) (h : i < xs.length) : rd xs (i : Int) = xs[i] := by
 simp [rd, List.getD_eq_getElem?_getD, List.getElem?_eq_getElem h]
theorem wf_u8 {x : Int} (h : (Lit.int .u8 x).wf = true) : 0 ≤ x ∧ x ≤ 255 := by
 simpa [Lit.wf, IntKind.min, IntKind.max, IntKind.signed, IntKind.bits] using h
theorem getD_get {α : Type} (xs : List α) (i : Nat) (z : α) (h : i < xs.length) : xs.getD ((i : Int)).toNat z = xs[i] := by
 simp [List.getD_eq_getElem?_getD, List.getElem?_eq_getElem h]
def Ay1 {α : Type} (p : α → α → Bool) : List α → List α → Bool
 | x :: xs, y :: ys => if p x y = true then Ay1 p xs ys else false
 | _, _ => true
def Au7 {α : Type} (p : α → α → Bool) (a b : List α) : Bool := if a.length = b.length then Ay1 p a b else false
theorem allB_self {α : Type} (p : α → α → Bool) (h : ∀ x, p x x = true) : ∀ a : List α, Ay1 p a a = true
 | [] => rfl
 | x :: xs => by rw [Ay1, if_pos (h x)]; exact allB_self p h xs
theorem loop_all {α : Type} (p : α → α → Bool) (a b : List α) (hab : a.length = b.length) (L : Nat → Int → Option Bool)
  (h0 : ∀ k, L (k + 1) (a.length : Int) = some true)
  (h1 : ∀ (i : Nat) (ha : i < a.length) (hb : i < b.length) (r : Bool), Ev (fun k => L k ((i + 1 : Nat) : Int)) r → Ev (fun k => L (k + 1) (i : Int)) (if p a[i] b[i] = true then r else false)) :
  ∀ (d i : Nat), i + d = a.length → Ev (fun k => L k (i : Int)) (Ay1 p (a.drop i) (b.drop i)) := by
 intro d
 induction d with
 | zero =>
  intro i hi
  obtain rfl : i = a.length := by omega
  rw [List.drop_length]
  refine Ac6 ⟨0, fun k _ => ?_⟩
  simp only [Ay1]; exact h0 k
 | succ d ih =>
  intro i hi
  have ha : i < a.length := by omega
  have hb : i < b.length := by omega
  rw [List.drop_eq_getElem_cons ha, List.drop_eq_getElem_cons hb]
  exact Ac6 (h1 i ha hb _ (ih (i + 1) (by omega)))
end Go.Proofs.YtbdpnkpienpnaaaGreatDoor.Base
set_option linter.unusedVariables false
namespace Go.Proofs.YtbdpnkpienpnaaaGreatDoor.Pure
open Go.RowKit Go.Proofs.YtbdpnkpienpnaaaGreatDoorW.PrintWords Go.Proofs.YtbdpnkpienpnaaaGreatDoor.Base
def Am1 {R : Type} (f : Nat → Option R) (e : R) : Nat → Nat → R
 | 0, _ => e
 | d + 1, i => (f i).getD (Am1 f e d (i + 1))
theorem Ag6 {R : Type} (n : Nat) (f : Nat → Option R) (e : R) (L : Nat → Int → Option R) (h0 : Ev (fun k => L (k + 1) (n : Int)) e)
  (h1 : ∀ i, i < n → ∀ r, Ev (fun k => L k ((i + 1 : Nat) : Int)) r → Ev (fun k => L (k + 1) (i : Int)) ((f i).getD r)) :
  ∀ d i, i + d = n → Ev (fun k => L k (i : Int)) (Am1 f e d i) := by
 intro d
 induction d with
 | zero =>
  intro i hi
  obtain rfl : i = n := by omega
  exact Ac6 h0
 | succ d ih =>
  intro i hi
  exact Ac6 (h1 i (by omega) _ (ih (i + 1) (by omega)))
theorem scanN_none {R : Type} {f : Nat → Option R} {e : R} : ∀ (d i : Nat), (∀ j, i ≤ j → j < i + d → f j = none) → Am1 f e d i = e
 | 0, _, _ => rfl
 | d + 1, i, h => by
  rw [Am1, h i (by omega) (by omega)]
  exact scanN_none d (i + 1) (fun j h1 h2 => h j (by omega) (by omega))
theorem scanN_cases {R : Type} (f : Nat → Option R) (e : R) : ∀ (d i : Nat), (∀ j, i ≤ j → j < i + d → f j = none) ∧ Am1 f e d i = e ∨ ∃ j, i ≤ j ∧ j < i + d ∧ f j = some (Am1 f e d i)
 | 0, i => .inl ⟨fun j h1 h2 => by omega, rfl⟩
 | d + 1, i => by
  rw [Am1]
  cases h : f i with
  | some r => exact .inr ⟨i, by omega, by omega, by rw [h]; rfl⟩
  | none =>
   rcases scanN_cases f e d (i + 1) with ⟨h1, h2⟩ | ⟨j, h1, h2, h3⟩
   ·refine .inl ⟨fun j a b => ?_, h2⟩
    by_cases hj : j = i
    ·rw [hj]; exact h
    ·exact h1 j (by omega) (by omega)
   ·exact .inr ⟨j, by omega, by omega, h3⟩
def Ag1 (p : Nat → Bool) : Nat → Nat → Option Nat
 | 0, _ => none
 | d + 1, i => if p i = true then some i else Ag1 p d (i + 1)
theorem Ai8 {p : Nat → Bool} : ∀ (d i : Nat), Ag1 p d i = none ↔ ∀ j, i ≤ j → j < i + d → p j = false
 | 0, i => by simp only [Ag1, true_iff]; intro j h1 h2; omega
 | d + 1, i => by
  rw [Ag1]
  by_cases h : p i = true
  ·rw [if_pos h]
   exact ⟨fun e => (by cases e), fun k => (by rw [k i (by omega) (by omega)] at h; cases h)⟩
  ·rw [if_neg h, Ai8 d (i + 1)]
   refine ⟨fun k j h1 h2 => ?_, fun k j h1 h2 => k j (by omega) (by omega)⟩
   by_cases hj : j = i
   ·rw [hj]; exact Bool.eq_false_iff.2 h
   ·exact k j (by omega) (by omega)
theorem Ah6 {p : Nat → Bool} : ∀ (d i j : Nat), Ag1 p d i = some j → i ≤ j ∧ j < i + d ∧ p j = true ∧ ∀ m, i ≤ m → m < j → p m = false
 | 0, i, j, h => by cases h
 | d + 1, i, j, h => by
  rw [Ag1] at h
  by_cases hp : p i = true
  ·rw [if_pos hp] at h
   obtain rfl := Option.some.inj h
   exact ⟨by omega, by omega, hp, fun m h1 h2 => by omega⟩
  ·rw [if_neg hp] at h
   obtain ⟨h1, h2, h3, h4⟩ := Ah6 d (i + 1) j h
   refine ⟨by omega, by omega, h3, fun m a b => ?_⟩
   by_cases hm : m = i
   ·rw [hm]; exact Bool.eq_false_iff.2 hp
   ·exact h4 m (by omega) b
theorem Ai7 {R : Type} (p : Nat → Bool) (g : Nat → R) (e : R) : ∀ (d i : Nat), Am1 (fun j => if p j = true then some (g j) else none) e d i = ((Ag1 p d i).map g).getD e
 | 0, _ => rfl
 | d + 1, i => by
  rw [Am1, Ag1]
  by_cases h : p i = true
  ·rw [if_pos h, if_pos h]; rfl
  ·rw [if_neg h, if_neg h]; exact Ai7 p g e d (i + 1)
def An2 (p : Nat → Bool) (n : Nat) : Int :=
 match Ag1 p n 0 with
 | some j => (j : Int)
 | none => -1
theorem An7 (p : Nat → Bool) (n : Nat) : Am1 (fun j => if p j = true then some (j : Int) else none) (-1) n 0 = An2 p n := by
 rw [Ai7 p (fun j => (j : Int)) (-1)]
 unfold An2
 cases Ag1 p n 0 <;> rfl
theorem placeN_cases (p : Nat → Bool) (n : Nat) : An2 p n = -1 ∧ (∀ j, j < n → p j = false) ∨ ∃ j, j < n ∧ An2 p n = (j : Int) ∧ p j = true ∧ ∀ m, m < j → p m = false := by
 unfold An2
 cases h : Ag1 p n 0 with
 | none => exact .inl ⟨rfl, fun j hj => (Ai8 n 0).1 h j (by omega) (by omega)⟩
 | some j =>
  obtain ⟨_, h2, h3, h4⟩ := Ah6 n 0 j h
  exact .inr ⟨j, by omega, rfl, h3, fun m hm => h4 m (by omega) hm⟩
end Go.Proofs.YtbdpnkpienpnaaaGreatDoor.Pure
set_option linter.unusedVariables false
namespace Go.Proofs.YtbdpnkpienpnaaaGreatDoor.Pure
open Go.RowKit Go.Proofs.YtbdpnkpienpnaaaGreatDoorW.PrintWords Go.Proofs.YtbdpnkpienpnaaaGreatDoor.Base
def idxN (n : Int) : List Int → Nat
 | [] => 0
 | x :: xs => if x = n then 0 else idxN n xs + 1
theorem As9 (n : Int) : ∀ l : List Int, idxN n l ≤ l.length
 | [] => Nat.le_refl _
 | x :: xs => by
  unfold idxN
  have := As9 n xs
  split
  ·exact Nat.zero_le _
  ·simp only [List.length_cons]; omega
theorem Aq6 (n : Int) : ∀ l : List Int, n ∈ l → idxN n l < l.length
 | [], h => by simp at h
 | x :: xs, h => by
  unfold idxN
  by_cases e : x = n
  ·rw [if_pos e]; simp
  ·rw [if_neg e]
   rcases List.mem_cons.1 h with h | h
   ·exact absurd h.symm e
   ·have := Aq6 n xs h
    simp only [List.length_cons]; omega
theorem idxN_append (n : Int) (b : List Int) : ∀ a : List Int, n ∈ a → idxN n (a ++ b) = idxN n a
 | [], h => by simp at h
 | x :: xs, h => by
  rw [List.cons_append]
  unfold idxN
  by_cases e : x = n
  ·rw [if_pos e, if_pos e]
  ·rw [if_neg e, if_neg e]
   rcases List.mem_cons.1 h with h | h
   ·exact absurd h.symm e
   ·rw [idxN_append n b xs h]
theorem Aj1 (n : Int) : ∀ a : List Int, n ∉ a → idxN n (a ++ [n]) = a.length
 | [], _ => by simp [idxN]
 | x :: xs, h => by
  rw [List.mem_cons, not_or] at h
  rw [List.cons_append]
  unfold idxN
  rw [if_neg (fun e => h.1 e.symm), Aj1 n xs h.2]; rfl
theorem As7 (n : Int) : ∀ (l : List Int) (h : idxN n l < l.length), l[idxN n l] = n
 | [], h => by simp at h
 | x :: xs, h => by
  by_cases e : x = n
  ·have : idxN n (x :: xs) = 0 := by unfold idxN; rw [if_pos e]
   simp only [this, List.getElem_cons_zero]; exact e
  ·have hk : idxN n (x :: xs) = idxN n xs + 1 := by rw [idxN, if_neg e]
   simp only [hk, List.getElem_cons_succ]
   exact As7 n xs (by rw [hk] at h; simpa using h)
theorem idxN_first (n : Int) : ∀ (l : List Int) (j : Nat) (hj : j < l.length), j < idxN n l → l[j] ≠ n
 | [], j, hj, _ => by simp at hj
 | x :: xs, j, hj, h => by
  by_cases e : x = n
  ·rw [idxN, if_pos e] at h; omega
  ·rw [idxN, if_neg e] at h
   cases j with
   | zero => simpa using e
   | succ j => simpa using idxN_first n xs j (by simpa using hj) (by omega)
theorem placeN_idx (l : List Int) (n : Int) : An2 (fun j => n == rd l (j : Int)) l.length = if n ∈ l then (idxN n l : Int) else -1 := by
 rcases placeN_cases (fun j => n == rd l (j : Int)) l.length with ⟨h1, h2⟩ | ⟨j, hj, h1, h2, h3⟩
 ·rw [h1, if_neg]
  intro hm
  have hlt := Aq6 n l hm
  have := h2 (idxN n l) hlt
  rw [Aj5 l _ hlt, As7 n l hlt] at this
  simp at this
 ·have e : l[j] = n := by
   rw [Aj5 l j hj] at h2
   exact (beq_iff_eq.1 h2).symm
  have hm : n ∈ l := e ▸ List.getElem_mem hj
  rw [h1, if_pos hm]
  have hlt := Aq6 n l hm
  rcases Nat.lt_trichotomy j (idxN n l) with k | k | k
  ·exact absurd e (idxN_first n l j hj k)
  ·rw [k]
  ·have := h3 (idxN n l) k
   rw [Aj5 l _ hlt, As7 n l hlt] at this
   simp at this
def Ag3 (s : List Int) (n : Int) : List Int := if n ∈ s then s else s ++ [n]
def Ab4 : List Int → List Int → List Int × List Int
 | s, [] => ([], s)
 | s, n :: t => if n ≥ 0 then (n :: (Ab4 s t).1, (Ab4 s t).2) else ((-1 - (idxN n (Ag3 s n) : Int)) :: (Ab4 (Ag3 s n) t).1, (Ab4 (Ag3 s n) t).2)
theorem Al8 : ∀ (a b s : List Int), Ab4 s (a ++ b) = ((Ab4 s a).1 ++ (Ab4 (Ab4 s a).2 b).1, (Ab4 (Ab4 s a).2 b).2)
 | [], b, s => by simp [Ab4]
 | n :: a, b, s => by
  rw [List.cons_append, Ab4, Ab4]
  by_cases h : n ≥ 0
  ·rw [if_pos h, if_pos h, Al8 a b s]; rfl
  ·rw [if_neg h, if_neg h, Al8 a b (Ag3 s n)]; rfl
theorem Ag9 : ∀ (t s : List Int), (Ab4 s t).1.length = t.length
 | [], s => rfl
 | n :: t, s => by
  rw [Ab4]
  split
  ·simp [Ag9 t s]
  ·simp [Ag9 t (Ag3 s n)]
theorem seenP_length (s : List Int) (n : Int) : s.length ≤ (Ag3 s n).length ∧ (Ag3 s n).length ≤ s.length + 1 := by
 unfold Ag3
 split
 ·omega
 ·simp
theorem Ak8 : ∀ (t s : List Int), s.length ≤ (Ab4 s t).2.length ∧ (Ab4 s t).2.length ≤ s.length + t.length
 | [], s => by simp [Ab4]
 | n :: t, s => by
  rw [Ab4]
  have h0 := seenP_length s n
  split
  ·have := Ak8 t s
   simp only [List.length_cons]; omega
  ·have := Ak8 t (Ag3 s n)
   simp only [List.length_cons]; omega
theorem idxN_seen (s : List Int) (n : Int) : (idxN n (Ag3 s n) : Int) = if n ∈ s then (idxN n s : Int) else (s.length : Int) := by
 unfold Ag3
 by_cases h : n ∈ s
 ·rw [if_pos h, if_pos h]
 ·rw [if_neg h, if_neg h, Aj1 n s h]
def Am3 : Nat → List Int
 | 0 => []
 | m + 1 => Am3 m ++ [-1 - (m : Int)]
theorem Ak1 : ∀ m, (Am3 m).length = m
 | 0 => rfl
 | m + 1 => by rw [Am3, List.length_append, Ak1 m]; rfl
theorem Am9 (x : Int) : ∀ m, x ∈ Am3 m ↔ ∃ j : Nat, j < m ∧ x = -1 - (j : Int)
 | 0 => by
  constructor
  ·intro h; cases h
  ·rintro ⟨j, hj, _⟩; omega
 | m + 1 => by
  rw [Am3, List.mem_append, Am9 x m, List.mem_singleton]
  constructor
  ·rintro (⟨j, hj, e⟩ | e)
   ·exact ⟨j, by omega, e⟩
   ·exact ⟨m, by omega, e⟩
  ·rintro ⟨j, hj, e⟩
   by_cases h : j = m
   ·subst h; exact .inr e
   ·exact .inl ⟨j, by omega, e⟩
theorem idxN_down (j : Nat) : ∀ m, j < m → idxN (-1 - (j : Int)) (Am3 m) = j
 | 0, h => by omega
 | m + 1, h => by
  rw [Am3]
  by_cases e : j = m
  ·subst e
   rw [Aj1 _ _ (fun hm => by obtain ⟨i, hi, he⟩ := (Am9 _ _).1 hm; omega), Ak1]
  ·rw [idxN_append _ _ _ ((Am9 _ _).2 ⟨j, by omega, rfl⟩), idxN_down j m (by omega)]
theorem Ai9 : ∀ (t s : List Int), Ab4 (Am3 s.length) (Ab4 s t).1 = ((Ab4 s t).1, Am3 (Ab4 s t).2.length)
 | [], s => rfl
 | n :: t, s => by
  rw [Ab4]
  by_cases h : n ≥ 0
  ·rw [if_pos h, Ab4, if_pos h, Ai9 t s]
  ·rw [if_neg h]
   simp only
   have hi := idxN_seen s n
   rw [Ab4, if_neg (by omega)]
   have hs : Ag3 (Am3 s.length) (-1 - (idxN n (Ag3 s n) : Int)) = Am3 (Ag3 s n).length ∧ (idxN (-1 - (idxN n (Ag3 s n) : Int)) (Ag3 (Am3 s.length) (-1 - (idxN n (Ag3 s n) : Int))) : Int) = (idxN n (Ag3 s n) : Int) := by
    by_cases hm : n ∈ s
    ·rw [if_pos hm] at hi
     have hlt := Aq6 n s hm
     have e1 : Ag3 s n = s := by unfold Ag3; rw [if_pos hm]
     have e2 : idxN n (Ag3 s n) = idxN n s := by omega
     have hin : (-1 - (idxN n s : Int)) ∈ Am3 s.length := (Am9 _ _).2 ⟨idxN n s, hlt, rfl⟩
     rw [e2, e1]
     unfold Ag3
     rw [if_pos hin, idxN_down _ _ hlt]
     exact ⟨rfl, rfl⟩
    ·rw [if_neg hm] at hi
     have e1 : Ag3 s n = s ++ [n] := by unfold Ag3; rw [if_neg hm]
     have e2 : idxN n (Ag3 s n) = s.length := by omega
     have hout : (-1 - (s.length : Int)) ∉ Am3 s.length := fun hk => by obtain ⟨i, hi', he⟩ := (Am9 _ _).1 hk; omega
     rw [e2, e1]
     unfold Ag3
     rw [if_neg hout, Aj1 _ _ hout, Ak1, List.length_append]
     exact ⟨rfl, rfl⟩
   rw [hs.1, Ai9 t (Ag3 s n)]
   rw [← hs.1, hs.2]
theorem idxN_map (g : Int → Int) (n : Int) (hg : ∀ x y, g x = g y → x = y) : ∀ s : List Int, idxN (g n) (s.map g) = idxN n s
 | [] => rfl
 | x :: s => by
  rw [List.map_cons, idxN, idxN, idxN_map g n hg s]
  by_cases h : x = n
  ·rw [if_pos h, if_pos (by rw [h])]
  ·rw [if_neg h, if_neg (fun e => h (hg _ _ e))]
theorem seenP_map (g : Int → Int) (n : Int) (hg : ∀ x y, g x = g y → x = y) (s : List Int) : Ag3 (s.map g) (g n) = (Ag3 s n).map g := by
 unfold Ag3
 by_cases h : n ∈ s
 ·rw [if_pos h, if_pos (List.mem_map.2 ⟨n, h, rfl⟩)]
 ·rw [if_neg h, if_neg (fun hm => by obtain ⟨y, hy, e⟩ := List.mem_map.1 hm; exact h (hg _ _ e ▸ hy)), List.map_append]; rfl
theorem Ap6 (g : Int → Int) (hg : ∀ x y, g x = g y → x = y) (h0 : ∀ x, x ≥ 0 → g x = x) (h1 : ∀ x, x < 0 → g x < 0) : ∀ (t s : List Int), Ab4 (s.map g) (t.map g) = ((Ab4 s t).1, (Ab4 s t).2.map g)
 | [], s => rfl
 | n :: t, s => by
  rw [List.map_cons, Ab4, Ab4]
  by_cases h : n ≥ 0
  ·rw [if_pos h, h0 n h, if_pos h, Ap6 g hg h0 h1 t s]
  ·have := h1 n (by omega)
   rw [if_neg h, if_neg (by omega), seenP_map g n hg s, idxN_map g n hg, Ap6 g hg h0 h1 t (Ag3 s n)]
theorem plainP_mem : ∀ (t s : List Int), ∀ x ∈ (Ab4 s t).1, (x ≥ 0 ∧ x ∈ t) ∨ (∃ j : Nat, x = -1 - (j : Int) ∧ j < (Ab4 s t).2.length)
 | [], s, x, h => by cases h
 | n :: t, s, x, h => by
  rw [Ab4] at h ⊢
  by_cases h0 : n ≥ 0
  ·rw [if_pos h0] at h ⊢
   rcases List.mem_cons.1 h with rfl | h
   ·exact .inl ⟨h0, by simp⟩
   ·rcases plainP_mem t s x h with h | h
    ·exact .inl ⟨h.1, by simp [h.2]⟩
    ·exact .inr h
  ·rw [if_neg h0] at h ⊢
   rcases List.mem_cons.1 h with rfl | h
   ·have hi := idxN_seen s n
    have hl := Ak8 t (Ag3 s n)
    refine .inr ⟨idxN n (Ag3 s n), rfl, ?_⟩
    have : idxN n (Ag3 s n) < (Ag3 s n).length := Aq6 _ _ (by
     unfold Ag3
     by_cases hm : n ∈ s
     ·rw [if_pos hm]; exact hm
     ·rw [if_neg hm]; simp)
    simp only; omega
   ·rcases plainP_mem t (Ag3 s n) x h with h | h
    ·exact .inl ⟨h.1, by simp [h.2]⟩
    ·exact .inr h
end Go.Proofs.YtbdpnkpienpnaaaGreatDoor.Pure
set_option linter.unusedVariables false
namespace Go.Proofs.YtbdpnkpienpnaaaGreatDoor.Pure
open Go.RowKit Go.Proofs.YtbdpnkpienpnaaaGreatDoorW.PrintWords Go.Proofs.YtbdpnkpienpnaaaGreatDoor.Base
def Aj6 (b : UInt8) : Bool := decide (97 ≤ b.toNat ∧ b.toNat ≤ 122)
def Aq0 (s : ByteArray) : Bool := decide (1 ≤ s.size ∧ s.size ≤ 3) && s.data.toList.all Aj6
def abc : ByteArray := ⟨#[97, 98, 99, 100, 101, 102, 103, 104, 105, 106, 107, 108, 109, 110, 111, 112, 113, 114, 115, 116, 117, 118, 119, 120, 121, 122]⟩
theorem abc_letter_all : ∀ n, n < 256 → abc.data.toList.contains (UInt8.ofNat n) = Aj6 (UInt8.ofNat n) := by decide +kernel
theorem abc_letter (b : UInt8) : abc.data.toList.contains b = Aj6 b := by
 have h := abc_letter_all b.toNat (UInt8.toNat_lt b)
 rwa [UInt8.ofNat_toNat] at h
theorem Ak5 (p : UInt8 → Bool) : ∀ l : List UInt8, l.dropWhile p = [] ↔ l.all p = true
 | [] => by simp
 | x :: xs => by
  by_cases h : p x = true
  ·rw [List.dropWhile_cons_of_pos h, Ak5 p xs]; simp [h]
  ·rw [List.dropWhile_cons_of_neg h]; simp [h]
theorem dropWhile_head (p : UInt8 → Bool) : ∀ (l : List UInt8) (y : UInt8) (ys : List UInt8), l.dropWhile p = y :: ys → p y = false
 | [], y, ys, h => by cases h
 | x :: xs, y, ys, h => by
  by_cases hx : p x = true
  ·rw [List.dropWhile_cons_of_pos hx] at h; exact dropWhile_head p xs y ys h
  ·rw [List.dropWhile_cons_of_neg hx] at h
   simp only [List.cons.injEq] at h
   rw [← h.1]; exact Bool.eq_false_iff.2 hx
theorem trimS_nil (l cs : List UInt8) : Lib.trimS l cs = [] ↔ l.all (cs.contains ·) = true := by
 unfold Lib.trimS Lib.trimLeftS Lib.trimRightS
 rw [Ak5]
 constructor
 ·intro h
  cases hd : l.reverse.dropWhile (cs.contains ·) with
  | nil =>
   rw [Ak5] at hd
   rwa [List.all_reverse] at hd
  | cons y ys =>
   have h1 := dropWhile_head _ _ _ _ hd
   rw [hd] at h
   simp only [List.all_reverse, List.all_cons, Bool.and_eq_true] at h
   have h2 : cs.contains y = false := h1
   rw [h.1] at h2; cases h2
 ·intro h
  have : l.reverse.dropWhile (cs.contains ·) = [] := by rw [Ak5, List.all_reverse]; exact h
  rw [this]; rfl
theorem trim_abc (l : List UInt8) : (Lib.trimS l abc.data.toList == []) = l.all Aj6 := by
 have e : l.all (abc.data.toList.contains ·) = l.all Aj6 := by
  congr 1; funext b; exact abc_letter b
 by_cases h : l.all Aj6 = true
 ·rw [h]
  have := (trimS_nil l abc.data.toList).2 (by rw [e]; exact h)
  rw [this]; rfl
 ·have hn : ¬ Lib.trimS l abc.data.toList = [] := fun k => h (by rw [← e]; exact (trimS_nil _ _).1 k)
  rw [Bool.eq_false_iff.2 h]
  exact beq_eq_false_iff_ne.2 hn
end Go.Proofs.YtbdpnkpienpnaaaGreatDoor.Pure
