/- A part of the proof of the law FnTexts. -/
import Derived.Test.YtbdpnkpienpnaaaGreatDoorProg
import Derived.Deep.Slices
import Derived.Deep.Fields
import Derived.ChangeSame
import Derived.ChangeOld
import Derived.OpenShut
import Derived.ShutString
import Derived.ProofKit
import Derived.Ground.NamesProg
import Derived.Shelf.Lays
import Derived.Ground.SlgmProg
import Derived.Shelf.SlLaysM
import Derived.Ground.SlgnProg
import Derived.Shelf.SlLaysN
import Derived.Shelf.SlGeneric
import Derived.Lib.Join
import Derived.Lib.Strings
import Derived.Lib.FieldsP
import Derived.Laws.RangeString
import Derived.Lib.SlTrimSet
import Derived.Test.YtbdpnkpienpnaaaGreatDoorCFnTexts0
set_option linter.unusedVariables false
namespace Go.Proofs.YtbdpnkpienpnaaaGreatDoor.Open
open Go.ChangeShapes Go.WideShapes Go.RowKit Go.Deep Go.Proofs.YtbdpnkpienpnaaaGreatDoorW.PrintWords
def Opens {α : Type} (P : Program) (w : World) (T : TypeId) (d : Kd α) (good : α → Prop) : Prop :=
 ∀ (H : Type) (enc : TypeId × Value → H) (base : Nat) (spare : Nat → Bool) (held : Bool) (fuel : Nat) (cs : List Value) (x : DataW H × List MemPlace),
  DataW.trod enc P w base spare held fuel T cs = some x → ∃ a, d.K w a cs ∧ good a
section
variable {P : Program} {w : World} {T : TypeId}
theorem Opens.int_ {k : IntKind} (h : P.underlying T = some (.int k)) : Opens P w T (Kd.int k) (fun n => (Lit.int k n).wf = true) := by
 intro H enc base spare held fuel cs x hx
 obtain ⟨n, rfl, _, hw⟩ := DataW.trod_int h hx
 exact ⟨n, rfl, hw⟩
theorem Opens.slice_ {α : Type} {e : TypeId} {d : Kd α} {good : α → Prop} (h : P.underlying T = some (.slice e)) (hc : P.cellsOf e = d.sz) (he : Opens P w e d good) :
  Opens P w T (Kd.slice e d) (fun xs => xs.length ≤ maxLen ∧ ∀ x ∈ xs, good x) := by
 intro H enc base spare held fuel cs x hx
 rcases open_slice h hx with ⟨rfl, _⟩ | ⟨a, len, cap, m, n, D, Pl, rfl, hb, hl, hm, hmm, _, hi⟩
 ·exact ⟨[], ⟨none, 0, rfl, Nat.le_refl _, Kd.C_nil _ _⟩, by simp [maxLen], by simp⟩
 ·have hlm : len ≤ m := by rw [hmm]; split <;> omega
  have hel : ∀ i, i < len → ∃ (y : α) (c : List Value), d.K w y c ∧ good y ∧ ∀ j u, c[j]? = some u → w.cell? (a.add (i * d.sz + j)) = some u := by
   intro i hil
   obtain ⟨cs', hcs, ht⟩ := hi i (by omega)
   obtain ⟨y, hy, hg⟩ := he H enc base spare held n cs' _ ht
   obtain ⟨_, hcl, hat⟩ := World.cells?_some hcs
   refine ⟨y, cs', hy, hg, fun j u hu => ?_⟩
   have hj : j < cs'.length := (List.getElem?_eq_some_iff.1 hu).1
   rw [← hc, ← Go.Deep.add_add, hat j (by omega), hu]
  have key : ∀ k, k ≤ len → ∃ ys : List α, ys.length = k ∧ (∀ y ∈ ys, good y) ∧ ∀ j p, ys[j]? = some p → ∃ c, c.length = d.sz ∧ d.K w p c ∧ ∀ i u, c[i]? = some u → w.cell? (a.add (j * d.sz + i)) = some u := by
   intro k
   induction k with
   | zero => intro _; exact ⟨[], rfl, by simp, by simp⟩
   | succ k ih =>
    intro hk
    obtain ⟨ys, hyl, hyg, hyc⟩ := ih (by omega)
    obtain ⟨y, c, hK, hg, hcell⟩ := hel k (by omega)
    refine ⟨ys ++ [y], by simp [hyl], ?_, ?_⟩
    ·intro z hz
     rcases List.mem_append.1 hz with hz | hz
     ·exact hyg z hz
     ·rw [List.mem_singleton.1 hz]; exact hg
    ·intro j p hj
     by_cases hjk : j < ys.length
     ·rw [List.getElem?_append_left hjk] at hj
      exact hyc j p hj
     ·have hj1 : j < (ys ++ [y]).length := (List.getElem?_eq_some_iff.1 hj).1
      rw [List.length_append, List.length_singleton] at hj1
      have hjl : j = ys.length := by omega
      subst hjl
      have : y = p := by simpa using hj
      subst this
      exact ⟨c, d.K_len hK, hK, by rw [hyl]; exact hcell⟩
  obtain ⟨ys, hyl, hyg, hyc⟩ := key len (Nat.le_refl _)
  subst hyl
  unfold maxLen at hm
  exact ⟨ys, ⟨some a, cap, rfl, hl, rfl, by omega, fun _ => ⟨a, rfl, hyc⟩⟩, by unfold maxLen; omega, hyg⟩
variable {H : Type} {enc : TypeId × Value → H} {r : Reach} {b0 base : Nat} {spare : Nat → Bool} {held : Bool} {v : Value} {dd : DataW H} {p : List MemPlace}
theorem arg_slice {α : Type} {e : TypeId} {d : Kd α} {good : List α → Prop} (ht : P.underlying T = some (.slice e)) (hv : Value.okWide P w r b0 T v) (hd : DataW.Trod enc P w base spare held T v dd p)
  (ho : Opens P w T (Kd.slice e d) good) : ∃ A c xs, v = .slice A xs.length c ∧ xs.length ≤ c ∧ d.C w A xs.length xs ∧ good xs := by
 obtain ⟨a, len, cap, rfl⟩ := okWide_slice ht hv
 obtain ⟨fuel, hf⟩ := hd
 obtain ⟨xs, ⟨A, c, hcs, hl, hC⟩, hg⟩ := ho H enc base spare held fuel _ _ hf
 simp [Value.cells] at hcs
 obtain ⟨rfl, rfl, rfl⟩ := hcs
 exact ⟨_, _, xs, rfl, hl, hC, hg⟩
end
end Go.Proofs.YtbdpnkpienpnaaaGreatDoor.Open
namespace Go.Proofs.YtbdpnkpienpnaaaGreatDoor.Shelf
open Go.Shelf
def lays145_ren : Go.Shelf.Ren := ⟨fun | 145 => 53 | 220 => 89 | 219 => 103 | 217 => 125 | 225 => 126 | 224 => 127 | 267 => 128 | 266 => 142 | 314 => 143 | n => n, fun | 9 => 9 | 4 => 4 | 59 => 83 | 3 => 3 | 5 => 5 | 46 => 121 | 146 => 175 | 51 => 149 | n => n, fun | 1 => 0 | n => n⟩
theorem lays145 : Go.Proofs.Lays.n145 Tryz.prog lays145_ren := {
 mixed := by kernel_rfl
 f145 := Tryz.func53.trans (congrArg some (by kernel_rfl))
 f217 := Tryz.func125.trans (congrArg some (by kernel_rfl))
 f219 := Tryz.func103.trans (congrArg some (by kernel_rfl))
 f220 := Tryz.func89.trans (congrArg some (by kernel_rfl))
 f224 := Tryz.func127.trans (congrArg some (by kernel_rfl))
 f225 := Tryz.func126.trans (congrArg some (by kernel_rfl))
 f266 := Tryz.func142.trans (congrArg some (by kernel_rfl))
 f267 := Tryz.func128.trans (congrArg some (by kernel_rfl))
 f314 := Tryz.func143.trans (congrArg some (by kernel_rfl))
 t3 := Tryz.underlying3
 a3 := Tryz.isAgg3
 z3 := Tryz.sizeOf3
 v3 := Tryz.zeroValue3
 t4 := Tryz.underlying4
 a4 := Tryz.isAgg4
 z4 := Tryz.sizeOf4
 v4 := Tryz.zeroValue4
 t5 := Tryz.underlying5
 a5 := Tryz.isAgg5
 z5 := Tryz.sizeOf5
 v5 := Tryz.zeroValue5
 t9 := Tryz.underlying9
 a9 := Tryz.isAgg9
 z9 := Tryz.sizeOf9
 v9 := Tryz.zeroValue9
 t46 := Tryz.underlying121
 a46 := Tryz.isAgg121
 z46 := Tryz.sizeOf121
 v46 := Tryz.zeroValue121
 t51 := Tryz.underlying149
 a51 := Tryz.isAgg149
 z51 := Tryz.sizeOf149
 v51 := Tryz.zeroValue149
 t59 := Tryz.underlying83
 a59 := Tryz.isAgg83
 z59 := Tryz.sizeOf83
 v59 := Tryz.zeroValue83
 t146 := Tryz.underlying175
 a146 := Tryz.isAgg175
 z146 := Tryz.sizeOf175
 v146 := Tryz.zeroValue175
 g1 := by kernel_rfl }
def lays156_ren : Go.Shelf.Ren := ⟨fun | 156 => 88 | 165 => 100 | 166 => 101 | 169 => 102 | 240 => 123 | 241 => 124 | 276 => 140 | 277 => 141 | n => n, fun | 31 => 108 | 9 => 9 | 3 => 3 | 4 => 4 | 0 => 0 | 20 => 20 | 72 => 131 | 76 => 135 | 70 => 129 | 37 => 22 | 75 => 134 | 127 => 159 | 164 => 172 | 5 => 5 | 80 => 137 | n => n, fun | n => n⟩
theorem lays156 : Go.Proofs.Lays.n156 Tryz.prog lays156_ren := {
 mixed := by kernel_rfl
 f156 := Tryz.func88.trans (congrArg some (by kernel_rfl))
 f165 := Tryz.func100.trans (congrArg some (by kernel_rfl))
 f166 := Tryz.func101.trans (congrArg some (by kernel_rfl))
 f169 := Tryz.func102.trans (congrArg some (by kernel_rfl))
 f240 := Tryz.func123.trans (congrArg some (by kernel_rfl))
 f241 := Tryz.func124.trans (congrArg some (by kernel_rfl))
 f276 := Tryz.func140.trans (congrArg some (by kernel_rfl))
 f277 := Tryz.func141.trans (congrArg some (by kernel_rfl))
 t0 := Tryz.underlying0
 a0 := Tryz.isAgg0
 z0 := Tryz.sizeOf0
 v0 := Tryz.zeroValue0
 t3 := Tryz.underlying3
 a3 := Tryz.isAgg3
 z3 := Tryz.sizeOf3
 v3 := Tryz.zeroValue3
 t4 := Tryz.underlying4
 a4 := Tryz.isAgg4
 z4 := Tryz.sizeOf4
 v4 := Tryz.zeroValue4
 t9 := Tryz.underlying9
 a9 := Tryz.isAgg9
 z9 := Tryz.sizeOf9
 v9 := Tryz.zeroValue9
 t20 := Tryz.underlying20
 a20 := Tryz.isAgg20
 z20 := Tryz.sizeOf20
 v20 := Tryz.zeroValue20
 t31 := Tryz.underlying108
 a31 := Tryz.isAgg108
 z31 := Tryz.sizeOf108
 v31 := Tryz.zeroValue108
 t37 := Tryz.underlying22
 a37 := Tryz.isAgg22
 z37 := Tryz.sizeOf22
 v37 := Tryz.zeroValue22
 t70 := Tryz.underlying129
 a70 := Tryz.isAgg129
 z70 := Tryz.sizeOf129
 v70 := Tryz.zeroValue129
 t72 := Tryz.underlying131
 a72 := Tryz.isAgg131
 z72 := Tryz.sizeOf131
 v72 := Tryz.zeroValue131
 t75 := Tryz.underlying134
 a75 := Tryz.isAgg134
 z75 := Tryz.sizeOf134
 v75 := Tryz.zeroValue134
 t76 := Tryz.underlying135
 a76 := Tryz.isAgg135
 z76 := Tryz.sizeOf135
 v76 := Tryz.zeroValue135
 t127 := Tryz.underlying159
 a127 := Tryz.isAgg159
 z127 := Tryz.sizeOf159
 v127 := Tryz.zeroValue159
 t164 := Tryz.underlying172
 a164 := Tryz.isAgg172
 z164 := Tryz.sizeOf172
 v164 := Tryz.zeroValue172 }
def lays160_ren : Go.Shelf.Ren := ⟨fun | 160 => 95 | 232 => 116 | 231 => 115 | 227 => 117 | 234 => 119 | 233 => 118 | 236 => 121 | 235 => 120 | 228 => 135 | 271 => 138 | 151 => 137 | 197 => 136 | 120 => 147 | 152 => 146 | 260 => 145 | 137 => 149 | 119 => 150 | 224 => 127 | 225 => 126 | 217 => 125 | 266 => 142 | n => n, fun | 9 => 9 | 4 => 4 | 3 => 3 | 5 => 5 | 117 => 155 | 116 => 154 | 0 => 0 | 124 => 158 | 21 => 21 | 105 => 169 | 46 => 121 | 119 => 181 | 139 => 184 | 138 => 183 | n => n, fun | 3 => 1 | 4 => 2 | n => n⟩
theorem lays160 : Go.Proofs.Lays.n160 Tryz.prog lays160_ren := {
 mixed := by kernel_rfl
 f119 := Tryz.func150.trans (congrArg some (by kernel_rfl))
 f120 := Tryz.func147.trans (congrArg some (by kernel_rfl))
 f137 := Tryz.func149.trans (congrArg some (by kernel_rfl))
 f151 := Tryz.func137.trans (congrArg some (by kernel_rfl))
 f152 := Tryz.func146.trans (congrArg some (by kernel_rfl))
 f160 := Tryz.func95.trans (congrArg some (by kernel_rfl))
 f197 := Tryz.func136.trans (congrArg some (by kernel_rfl))
 f217 := Tryz.func125.trans (congrArg some (by kernel_rfl))
 f224 := Tryz.func127.trans (congrArg some (by kernel_rfl))
 f225 := Tryz.func126.trans (congrArg some (by kernel_rfl))
 f227 := Tryz.func117.trans (congrArg some (by kernel_rfl))
 f228 := Tryz.func135.trans (congrArg some (by kernel_rfl))
 f231 := Tryz.func115.trans (congrArg some (by kernel_rfl))
 f232 := Tryz.func116.trans (congrArg some (by kernel_rfl))
 f233 := Tryz.func118.trans (congrArg some (by kernel_rfl))
 f234 := Tryz.func119.trans (congrArg some (by kernel_rfl))
 f235 := Tryz.func120.trans (congrArg some (by kernel_rfl))
 f236 := Tryz.func121.trans (congrArg some (by kernel_rfl))
 f260 := Tryz.func145.trans (congrArg some (by kernel_rfl))
 f266 := Tryz.func142.trans (congrArg some (by kernel_rfl))
 f271 := Tryz.func138.trans (congrArg some (by kernel_rfl))
 t0 := Tryz.underlying0
 a0 := Tryz.isAgg0
 z0 := Tryz.sizeOf0
 v0 := Tryz.zeroValue0
 t3 := Tryz.underlying3
 a3 := Tryz.isAgg3
 z3 := Tryz.sizeOf3
 v3 := Tryz.zeroValue3
 t4 := Tryz.underlying4
 a4 := Tryz.isAgg4
 z4 := Tryz.sizeOf4
 v4 := Tryz.zeroValue4
 t5 := Tryz.underlying5
 a5 := Tryz.isAgg5
 z5 := Tryz.sizeOf5
 v5 := Tryz.zeroValue5
 t9 := Tryz.underlying9
 a9 := Tryz.isAgg9
 z9 := Tryz.sizeOf9
 v9 := Tryz.zeroValue9
 t21 := Tryz.underlying21
 a21 := Tryz.isAgg21
 z21 := Tryz.sizeOf21
 v21 := Tryz.zeroValue21
 t46 := Tryz.underlying121
 a46 := Tryz.isAgg121
 z46 := Tryz.sizeOf121
 v46 := Tryz.zeroValue121
 t105 := Tryz.underlying169
 a105 := Tryz.isAgg169
 z105 := Tryz.sizeOf169
 v105 := Tryz.zeroValue169
 t116 := Tryz.underlying154
 a116 := Tryz.isAgg154
 z116 := Tryz.sizeOf154
 t117 := Tryz.underlying155
 a117 := Tryz.isAgg155
 z117 := Tryz.sizeOf155
 v117 := Tryz.zeroValue155
 t119 := Tryz.underlying181
 a119 := Tryz.isAgg181
 z119 := Tryz.sizeOf181
 t124 := Tryz.underlying158
 a124 := Tryz.isAgg158
 z124 := Tryz.sizeOf158
 v124 := Tryz.zeroValue158
 t138 := Tryz.underlying183
 a138 := Tryz.isAgg183
 z138 := Tryz.sizeOf183
 v138 := Tryz.zeroValue183
 t139 := Tryz.underlying184
 a139 := Tryz.isAgg184
 z139 := Tryz.sizeOf184
 v139 := Tryz.zeroValue184
 g3 := by kernel_rfl
 g4 := by kernel_rfl }
def lays229_ren : Go.Shelf.Ren := ⟨fun | 229 => 80 | n => n, fun | 9 => 9 | 40 => 110 | 31 => 108 | 152 => 124 | 3 => 3 | 0 => 0 | 4 => 4 | 21 => 21 | 154 => 126 | n => n, fun | n => n⟩
theorem lays229 : Go.Proofs.Lays.n229 Tryz.prog lays229_ren := {
 mixed := by kernel_rfl
 f229 := Tryz.func80.trans (congrArg some (by kernel_rfl))
 t0 := Tryz.underlying0
 a0 := Tryz.isAgg0
 z0 := Tryz.sizeOf0
 v0 := Tryz.zeroValue0
 t3 := Tryz.underlying3
 a3 := Tryz.isAgg3
 z3 := Tryz.sizeOf3
 v3 := Tryz.zeroValue3
 t4 := Tryz.underlying4
 a4 := Tryz.isAgg4
 z4 := Tryz.sizeOf4
 v4 := Tryz.zeroValue4
 t9 := Tryz.underlying9
 a9 := Tryz.isAgg9
 z9 := Tryz.sizeOf9
 v9 := Tryz.zeroValue9
 t21 := Tryz.underlying21
 a21 := Tryz.isAgg21
 z21 := Tryz.sizeOf21
 v21 := Tryz.zeroValue21
 t31 := Tryz.underlying108
 a31 := Tryz.isAgg108
 z31 := Tryz.sizeOf108
 v31 := Tryz.zeroValue108
 t40 := Tryz.underlying110
 a40 := Tryz.isAgg110
 z40 := Tryz.sizeOf110
 v40 := Tryz.zeroValue110
 t152 := Tryz.underlying124
 a152 := Tryz.isAgg124
 z152 := Tryz.sizeOf124
 v152 := Tryz.zeroValue124
 t154 := Tryz.underlying126
 a154 := Tryz.isAgg126
 z154 := Tryz.sizeOf126
 v154 := Tryz.zeroValue126 }
def laysSlLaysM5_ren : Go.Shelf.Ren := ⟨fun | 5 => 71 | 8 => 94 | 7 => 93 | 19 => 113 | 20 => 114 | 10 => 104 | 11 => 105 | 12 => 106 | 13 => 107 | 14 => 108 | 15 => 109 | 16 => 110 | 17 => 111 | 18 => 112 | 30 => 129 | 31 => 130 | 32 => 131 | 33 => 132 | 34 => 133 | 35 => 134 | 40 => 144 | n => n, fun | 23 => 27 | 25 => 2 | 3 => 3 | 32 => 121 | 22 => 27 | 0 => 0 | 44 => 149 | 46 => 151 | 4 => 4 | 36 => 141 | 35 => 140 | 41 => 146 | 5 => 5 | 9 => 9 | 53 => 162 | 57 => 166 | 63 => 177 | 64 => 178 | n => n, fun | n => n⟩
theorem laysSlLaysM5 : Go.Proofs.SlLaysM.n5 Tryz.prog laysSlLaysM5_ren := {
 mixed := by kernel_rfl
 f5 := ⟨Tryz.f71.name, by decide, Tryz.func71.trans (congrArg some (by kernel_rfl))⟩
 f7 := ⟨Tryz.f93.name, by decide, Tryz.func93.trans (congrArg some (by kernel_rfl))⟩
 f8 := Tryz.func94.trans (congrArg some (by kernel_rfl))
 f10 := ⟨Tryz.f104.name, by decide, Tryz.func104.trans (congrArg some (by kernel_rfl))⟩
 f11 := ⟨Tryz.f105.name, by decide, Tryz.func105.trans (congrArg some (by kernel_rfl))⟩
 f12 := ⟨Tryz.f106.name, by decide, Tryz.func106.trans (congrArg some (by kernel_rfl))⟩
 f13 := ⟨Tryz.f107.name, by decide, Tryz.func107.trans (congrArg some (by kernel_rfl))⟩
 f14 := ⟨Tryz.f108.name, by decide, Tryz.func108.trans (congrArg some (by kernel_rfl))⟩
 f15 := ⟨Tryz.f109.name, by decide, Tryz.func109.trans (congrArg some (by kernel_rfl))⟩
 f16 := ⟨Tryz.f110.name, by decide, Tryz.func110.trans (congrArg some (by kernel_rfl))⟩
 f17 := ⟨Tryz.f111.name, by decide, Tryz.func111.trans (congrArg some (by kernel_rfl))⟩
 f18 := ⟨Tryz.f112.name, by decide, Tryz.func112.trans (congrArg some (by kernel_rfl))⟩
 f19 := Tryz.func113.trans (congrArg some (by kernel_rfl))
 f20 := Tryz.func114.trans (congrArg some (by kernel_rfl))
 f30 := ⟨Tryz.f129.name, by decide, Tryz.func129.trans (congrArg some (by kernel_rfl))⟩
 f31 := Tryz.func130.trans (congrArg some (by kernel_rfl))
 f32 := Tryz.func131.trans (congrArg some (by kernel_rfl))
 f33 := ⟨Tryz.f132.name, by decide, Tryz.func132.trans (congrArg some (by kernel_rfl))⟩
 f34 := ⟨Tryz.f133.name, by decide, Tryz.func133.trans (congrArg some (by kernel_rfl))⟩
 f35 := ⟨Tryz.f134.name, by decide, Tryz.func134.trans (congrArg some (by kernel_rfl))⟩
 f40 := ⟨Tryz.f144.name, by decide, Tryz.func144.trans (congrArg some (by kernel_rfl))⟩
 t0 := Tryz.underlying0
 a0 := Tryz.isAgg0
 z0 := Tryz.sizeOf0
 v0 := Tryz.zeroValue0
 t3 := Tryz.underlying3
 a3 := Tryz.isAgg3
 z3 := Tryz.sizeOf3
 v3 := Tryz.zeroValue3
 t4 := Tryz.underlying4
 a4 := Tryz.isAgg4
 z4 := Tryz.sizeOf4
 v4 := Tryz.zeroValue4
 t5 := Tryz.underlying5
 a5 := Tryz.isAgg5
 z5 := Tryz.sizeOf5
 v5 := Tryz.zeroValue5
 t9 := Tryz.underlying9
 a9 := Tryz.isAgg9
 z9 := Tryz.sizeOf9
 v9 := Tryz.zeroValue9
 t22 := Tryz.underlying27
 a22 := Tryz.isAgg27
 z22 := Tryz.sizeOf27
 v22 := Tryz.zeroValue27
 t23 := Tryz.underlying27
 a23 := Tryz.isAgg27
 z23 := Tryz.sizeOf27
 v23 := Tryz.zeroValue27
 t25 := Tryz.underlying2
 a25 := Tryz.isAgg2
 z25 := Tryz.sizeOf2
 v25 := Tryz.zeroValue2
 t32 := Tryz.underlying121
 a32 := Tryz.isAgg121
 z32 := Tryz.sizeOf121
 v32 := Tryz.zeroValue121
 t35 := Tryz.underlying140
 a35 := Tryz.isAgg140
 z35 := Tryz.sizeOf140
 v35 := Tryz.zeroValue140
 t36 := Tryz.underlying141
 a36 := Tryz.isAgg141
 z36 := Tryz.sizeOf141
 v36 := Tryz.zeroValue141
 t41 := Tryz.underlying146
 a41 := Tryz.isAgg146
 z41 := Tryz.sizeOf146
 v41 := Tryz.zeroValue146
 t44 := Tryz.underlying149
 a44 := Tryz.isAgg149
 z44 := Tryz.sizeOf149
 v44 := Tryz.zeroValue149
 t46 := Tryz.underlying151
 a46 := Tryz.isAgg151
 z46 := Tryz.sizeOf151
 v46 := Tryz.zeroValue151
 t53 := Tryz.underlying162
 a53 := Tryz.isAgg162
 z53 := Tryz.sizeOf162
 v53 := Tryz.zeroValue162
 t57 := Tryz.underlying166
 a57 := Tryz.isAgg166
 z57 := Tryz.sizeOf166
 v57 := Tryz.zeroValue166
 t63 := Tryz.underlying177
 a63 := Tryz.isAgg177
 z63 := Tryz.sizeOf177
 v63 := Tryz.zeroValue177
 t64 := Tryz.underlying178
 a64 := Tryz.isAgg178
 z64 := Tryz.sizeOf178
 v64 := Tryz.zeroValue178 }
def laysSlLaysN43_ren : Go.Shelf.Ren := ⟨fun | 43 => 72 | n => n, fun | 22 => 27 | 23 => 2 | 3 => 3 | 4 => 4 | 0 => 0 | n => n, fun | n => n⟩
theorem laysSlLaysN43 : Go.Proofs.SlLaysN.n43 Tryz.prog laysSlLaysN43_ren := {
 mixed := by kernel_rfl
 f43 := ⟨Tryz.f72.name, by decide, Tryz.func72.trans (congrArg some (by kernel_rfl))⟩
 t0 := Tryz.underlying0
 a0 := Tryz.isAgg0
 z0 := Tryz.sizeOf0
 v0 := Tryz.zeroValue0
 t3 := Tryz.underlying3
 a3 := Tryz.isAgg3
 z3 := Tryz.sizeOf3
 v3 := Tryz.zeroValue3
 t4 := Tryz.underlying4
 a4 := Tryz.isAgg4
 z4 := Tryz.sizeOf4
 v4 := Tryz.zeroValue4
 t22 := Tryz.underlying27
 a22 := Tryz.isAgg27
 z22 := Tryz.sizeOf27
 v22 := Tryz.zeroValue27
 t23 := Tryz.underlying2
 a23 := Tryz.isAgg2
 z23 := Tryz.sizeOf2
 v23 := Tryz.zeroValue2
 i23 := by kernel_rfl }
end Go.Proofs.YtbdpnkpienpnaaaGreatDoor.Shelf
set_option linter.unusedVariables false
namespace Go.Proofs.YtbdpnkpienpnaaaGreatDoor.Base
open Go.RowKit Go.Proofs.YtbdpnkpienpnaaaGreatDoorW.PrintWords
variable {α β : Type}
theorem ev_pos {c : Prop} [Decidable c] {A B : Nat → Option α} {r : α} (h : c) (k : Ev A r) : Ev (fun n => if c then A n else B n) r := by
 simp only [if_pos h]; exact k
theorem ev_neg {c : Prop} [Decidable c] {A B : Nat → Option α} {r : α} (h : ¬ c) (k : Ev B r) : Ev (fun n => if c then A n else B n) r := by
 simp only [if_neg h]; exact k
theorem ev_ite {c : Prop} [Decidable c] {A B : Nat → Option α} {r s : α} (h : c → Ev A r) (k : ¬ c → Ev B s) : Ev (fun n => if c then A n else B n) (if c then r else s) := by
 by_cases hc : c
 ·rw [if_pos hc]; exact ev_pos hc (h hc)
 ·rw [if_neg hc]; exact ev_neg hc (k hc)
theorem ev_succ {g : Nat → Option α} {r : α} (h : Ev (fun k => g (k + 1)) r) : Ev g r := by
 obtain ⟨K, h⟩ := h
 refine ⟨K + 1, fun n hn => ?_⟩
 obtain ⟨m, rfl⟩ : ∃ m, n = m + 1 := ⟨n - 1, by omega⟩
 exact h m (by omega)
theorem ev_some (r : α) : Ev (fun _ => some r) r := ⟨0, fun _ _ => rfl⟩
theorem ev_bind {g : Nat → Option α} {f : Nat → α → Option β} {a : α} {r : β} (h : Ev g a) (k : Ev (fun n => f n a) r) : Ev (fun n => (g n).bind (f n)) r := Ev.bind h k
theorem ev_bindq {o : Option α} {f : Nat → α → Option β} {a : α} {r : β} (h : o = some a) (k : Ev (fun n => f n a) r) : Ev (fun n => o.bind (f n)) r := by
 subst h; exact k
theorem ev_to {g : Nat → Option α} {r r' : α} (h : Ev g r) (e : r = r') : Ev g r' := e ▸ h
theorem bind_eq {o : Option α} {f : α → Option β} {a : α} {r : Option β} (h : o = some a) (k : f a = r) : o.bind f = r := by
 subst h; exact k
theorem ev_ex {g : Nat → Option α} {r : α} (h : Ev g r) : ∃ k, g k = some r := Ev.rounds h
theorem wrap_id {x : Int} (h0 : -9223372036854775808 ≤ x) (h1 : x ≤ 9223372036854775807) : wrap64 x = x := by
 unfold wrap64; omega
theorem wrap_up {i : Nat} (h : i < 9223372036854775807) : wrap64 ((i : Int) + 1) = ((i + 1 : Nat) : Int) := by
 unfold wrap64; omega
theorem rd_drop (xs : List Int) (i : Nat) (h : i < xs.length) : xs.drop i = rd xs (i : Int) :: xs.drop (i + 1) := by
 rw [List.drop_eq_getElem_cons h]
 simp [rd, List.getD_eq_getElem?_getD, List.getElem?_eq_getElem h]
theorem rd_mem (xs : List Int) (i : Nat) (h : i < xs.length) : rd xs (i : Int) ∈ xs := by
 have : rd xs (i : Int) = xs[i] := by simp [rd, List.getD_eq_getElem?_getD, List.getElem?_eq_getElem h]
 rw [this]; exact List.getElem_mem h
theorem rd_get (xs : List Int) (i : Nat) (h : i < xs.length) : rd xs (i : Int) = xs[i] := by
 simp [rd, List.getD_eq_getElem?_getD, List.getElem?_eq_getElem h]
theorem wf_u8 {x : Int} (h : (Lit.int .u8 x).wf = true) : 0 ≤ x ∧ x ≤ 255 := by
 simpa [Lit.wf, IntKind.min, IntKind.max, IntKind.signed, IntKind.bits] using h
theorem getD_get {α : Type} (xs : List α) (i : Nat) (z : α) (h : i < xs.length) : xs.getD ((i : Int)).toNat z = xs[i] := by
 simp [List.getD_eq_getElem?_getD, List.getElem?_eq_getElem h]
end Go.Proofs.YtbdpnkpienpnaaaGreatDoor.Base
set_option linter.unusedVariables false
namespace Go.Proofs.YtbdpnkpienpnaaaGreatDoor.Pure
open Go.RowKit Go.Proofs.YtbdpnkpienpnaaaGreatDoorW.PrintWords Go.Proofs.YtbdpnkpienpnaaaGreatDoor.Base
def skipN (ar : Int → Nat) : Nat → List Int → Option (List Int)
 | 0, t => some t
 | _ + 1, [] => none
 | k + 1, n :: t => skipN ar (k + ar n) t
theorem skipN_zero (ar : Int → Nat) (t : List Int) : skipN ar 0 t = some t := by cases t <;> rfl
theorem skipN_add (ar : Int → Nat) (m : Nat) : ∀ (t : List Int) (k : Nat), skipN ar (k + m) t = (skipN ar k t).bind (skipN ar m)
 | t, 0 => by rw [skipN_zero, Nat.zero_add]; rfl
 | [], k + 1 => by rw [show k + 1 + m = (k + m) + 1 by omega]; rfl
 | n :: t, k + 1 => by
  rw [show k + 1 + m = (k + m) + 1 by omega]
  show skipN ar (k + m + ar n) t = (skipN ar (k + ar n) t).bind (skipN ar m)
  rw [show k + m + ar n = k + ar n + m by omega]
  exact skipN_add ar m t (k + ar n)
theorem skipN_cons (ar : Int → Nat) (n : Int) (t : List Int) (k : Nat) : skipN ar (k + 1) (n :: t) = skipN ar (k + ar n) t := rfl
theorem skipN_suffix (ar : Int → Nat) : ∀ (t : List Int) (k : Nat) (u : List Int), skipN ar k t = some u → ∃ d, u = t.drop d ∧ d ≤ t.length ∧ k ≤ d
 | t, 0, u, h => by
  rw [skipN_zero] at h
  obtain rfl := Option.some.inj h
  exact ⟨0, by simp, by omega, by omega⟩
 | [], k + 1, u, h => by cases h
 | n :: t, k + 1, u, h => by
  obtain ⟨d, e, hd, hk⟩ := skipN_suffix ar t (k + ar n) u h
  exact ⟨d + 1, by rw [e]; rfl, by simp; omega, by omega⟩
def endN (ar : Int → Nat) (term : List Int) (k at_ : Nat) : Option Nat := (skipN ar k (term.drop at_)).map fun u => term.length - u.length
theorem endN_some {ar : Int → Nat} {term : List Int} {k at_ e : Nat} (hat : at_ ≤ term.length) (h : endN ar term k at_ = some e) : skipN ar k (term.drop at_) = some (term.drop e) ∧ at_ + k ≤ e ∧ e ≤ term.length := by
 unfold endN at h
 cases hs : skipN ar k (term.drop at_) with
 | none => rw [hs] at h; cases h
 | some u =>
  rw [hs] at h
  obtain ⟨d, e1, hd, hk⟩ := skipN_suffix ar _ _ _ hs
  rw [List.length_drop] at hd
  have he : term.length - u.length = e := Option.some.inj h
  have hul : u.length = term.length - (at_ + d) := by rw [e1, List.drop_drop, List.length_drop]
  have hed : e = at_ + d := by omega
  refine ⟨?_, by omega, by omega⟩
  rw [e1, List.drop_drop, hed]
theorem endN_zero (ar : Int → Nat) (term : List Int) (at_ : Nat) (hat : at_ ≤ term.length) : endN ar term 0 at_ = some at_ := by
 unfold endN
 rw [skipN_zero]
 simp only [Option.map_some, List.length_drop]
 congr 1; omega
theorem endN_out (ar : Int → Nat) (term : List Int) (k at_ : Nat) (hk : 0 < k) (hat : term.length ≤ at_) : endN ar term k at_ = none := by
 unfold endN
 obtain ⟨m, rfl⟩ : ∃ m, k = m + 1 := ⟨k - 1, by omega⟩
 rw [List.drop_eq_nil_of_le hat]; rfl
theorem endN_step (ar : Int → Nat) (term : List Int) (k at_ : Nat) (hat : at_ < term.length) : endN ar term (k + 1) at_ = endN ar term (k + ar term[at_]) (at_ + 1) := by
 unfold endN
 rw [List.drop_eq_getElem_cons hat, skipN_cons]
theorem endN_add (ar : Int → Nat) (term : List Int) (k m at_ : Nat) (hat : at_ ≤ term.length) : endN ar term (k + m) at_ = (endN ar term k at_).bind fun e => endN ar term m e := by
 cases h : endN ar term k at_ with
 | none =>
  unfold endN at h ⊢
  rw [skipN_add]
  cases hs : skipN ar k (term.drop at_) with
  | none => rfl
  | some u => rw [hs] at h; cases h
 | some e =>
  obtain ⟨hs, _, _⟩ := endN_some hat h
  simp only [Option.bind_some]
  unfold endN
  rw [skipN_add, hs]
  rfl
def argsN (ar : Int → Nat) (t : List Int) : Nat → Nat → List Nat
 | 0, _ => []
 | m + 1, e => e :: (match endN ar t 1 e with
  | some e' => argsN ar t m e'
  | none => [])
theorem argsN_succ {ar : Int → Nat} {t : List Int} {m e e' : Nat} (h : endN ar t 1 e = some e') : argsN ar t (m + 1) e = e :: argsN ar t m e' := by
 rw [argsN, h]
def argsAt (ar : Int → Nat) (t : List Int) (a : Nat) : List Nat := argsN ar t (ar (rd t (a : Int))) (a + 1)
theorem argsN_bound {ar : Int → Nat} {t : List Int} : ∀ (m e e' : Nat), e ≤ t.length → endN ar t m e = some e' → (argsN ar t m e).length = m ∧ ∀ p ∈ argsN ar t m e, e ≤ p ∧ p < t.length ∧ ∃ q, endN ar t 1 p = some q
 | 0, e, e', he, h => ⟨rfl, fun p hp => by cases hp⟩
 | m + 1, e, e', he, h => by
  rw [show m + 1 = 1 + m by omega, endN_add ar t 1 m e he] at h
  cases h1 : endN ar t 1 e with
  | none => rw [h1] at h; cases h
  | some q =>
   rw [h1] at h
   simp only [Option.bind_some] at h
   obtain ⟨_, b1, b2⟩ := endN_some he h1
   obtain ⟨i1, i2⟩ := argsN_bound m q e' b2 h
   rw [argsN_succ h1]
   refine ⟨by rw [List.length_cons, i1], fun p hp => ?_⟩
   rcases List.mem_cons.1 hp with rfl | hp
   ·exact ⟨Nat.le_refl _, by omega, q, h1⟩
   ·obtain ⟨c1, c2, c3⟩ := i2 p hp
    exact ⟨by omega, c2, c3⟩
theorem endN_args {ar : Int → Nat} {t : List Int} {a e : Nat} (ha : a < t.length) (h : endN ar t 1 a = some e) : endN ar t (ar (rd t (a : Int))) (a + 1) = some e := by
 rw [endN_step ar t 0 a ha, ← rd_get t a ha, Nat.zero_add] at h
 exact h
theorem argsAt_bound {ar : Int → Nat} {t : List Int} {a e : Nat} (ha : a < t.length) (h : endN ar t 1 a = some e) :
  (argsAt ar t a).length = ar (rd t (a : Int)) ∧ ∀ p ∈ argsAt ar t a, a < p ∧ p < t.length ∧ ∃ q, endN ar t 1 p = some q := by
 obtain ⟨h1, h2⟩ := argsN_bound (ar (rd t (a : Int))) (a + 1) e (by omega) (endN_args ha h)
 exact ⟨h1, fun p hp => by obtain ⟨x, y, z⟩ := h2 p hp; exact ⟨by omega, y, z⟩⟩
def joinB (ps : List ByteArray) : ByteArray := ⟨(Lib.join (ps.map (·.data.toList)) [44]).toArray⟩
def txtN (ar : Int → Nat) (nm : Int → ByteArray) (t : List Int) : Nat → Nat → ByteArray
 | 0, _ => ⟨#[]⟩
 | f + 1, a =>
  if rd t (a : Int) < 0 then strOfNums [(wrap64 (64 - (rd t (a : Int)))) % 256]
  else if (argsAt ar t a) = [] then nm (rd t (a : Int))
  else nm (rd t (a : Int)) ++ (⟨#[40]⟩ : ByteArray) ++ joinB ((argsAt ar t a).map (txtN ar nm t f)) ++ (⟨#[41]⟩ : ByteArray)
theorem txtN_more {ar : Int → Nat} {nm : Int → ByteArray} {t : List Int} : ∀ (f g a e : Nat), a < t.length → endN ar t 1 a = some e → t.length - a ≤ f → t.length - a ≤ g → txtN ar nm t f a = txtN ar nm t g a
 | 0, g, a, e, ha, h, hf, hg => by omega
 | f + 1, 0, a, e, ha, h, hf, hg => by omega
 | f + 1, g + 1, a, e, ha, h, hf, hg => by
  obtain ⟨_, hb⟩ := argsAt_bound ha h
  rw [txtN, txtN]
  have hm : (argsAt ar t a).map (txtN ar nm t f) = (argsAt ar t a).map (txtN ar nm t g) := List.map_congr_left fun p hp => by
   obtain ⟨b1, b2, q, hq⟩ := hb p hp
   exact txtN_more f g p q b2 hq (by omega) (by omega)
  rw [hm]
def lens : List ByteArray → Nat
 | [] => 0
 | x :: xs => x.size + 1 + lens xs
theorem join_len (x : ByteArray) : ∀ ps : List ByteArray, (Lib.join ((x :: ps).map (·.data.toList)) [44]).length = x.size + lens ps := by
 intro ps
 rw [List.map_cons, Lib.join_cons, List.length_append, ← Lib.size_eq]
 congr 1
 induction ps with
 | nil => rfl
 | cons y ys ih =>
  simp only [Lib.joinTail, List.map_cons, List.flatten_cons, List.length_append, List.length_singleton, lens] at ih ⊢
  rw [← Lib.size_eq, ih]; omega
theorem joinB_size (x : ByteArray) (ps : List ByteArray) : (joinB (x :: ps)).size = x.size + lens ps := by
 rw [Lib.size_eq, joinB]
 simp only
 exact join_len x ps
theorem txtN_size {ar : Int → Nat} {nm : Int → ByteArray} {t : List Int} (hn : ∀ i, i < t.length → (nm (rd t (i : Int))).size ≤ 3) : ∀ (f a e : Nat), a < t.length → endN ar t 1 a = some e → (txtN ar nm t f a).size + 1 ≤ 6 * (e - a)
 | 0, a, e, ha, h => by
  obtain ⟨_, h1, h2⟩ := endN_some (by omega) h
  show 0 + 1 ≤ _
  omega
 | f + 1, a, e, ha, h => by
  obtain ⟨_, h1, h2⟩ := endN_some (by omega) h
  rw [txtN]
  by_cases h0 : rd t (a : Int) < 0
  ·rw [if_pos h0]
   have : (strOfNums [(wrap64 (64 - (rd t (a : Int)))) % 256]).size = 1 := rfl
   omega
  rw [if_neg h0]
  have hnm := hn a ha
  by_cases hA : argsAt ar t a = []
  ·rw [if_pos hA]; omega
  rw [if_neg hA]
  have hE := endN_args ha h
  have key : ∀ (m p q : Nat), p ≤ t.length → endN ar t m p = some q → lens ((argsN ar t m p).map (txtN ar nm t f)) ≤ 6 * (q - p) ∧ p ≤ q := by
   intro m
   induction m with
   | zero =>
    intro p q hp hq
    rw [endN_zero _ _ _ hp] at hq
    obtain rfl := Option.some.inj hq
    exact ⟨by simp [argsN, lens], Nat.le_refl _⟩
   | succ m ih =>
    intro p q hp hq
    rw [show m + 1 = 1 + m by omega, endN_add ar t 1 m p hp] at hq
    cases h1 : endN ar t 1 p with
    | none => rw [h1] at hq; cases hq
    | some p' =>
     rw [h1] at hq
     simp only [Option.bind_some] at hq
     obtain ⟨_, b1, b2⟩ := endN_some hp h1
     obtain ⟨i1, i2⟩ := ih p' q b2 hq
     have hs := txtN_size hn f p p' (by omega) h1
     rw [argsN_succ h1]
     simp only [List.map_cons, lens]
     omega
  obtain ⟨k1, k2⟩ := key _ _ _ (by omega) hE
  unfold argsAt at hA ⊢
  cases hc : argsN ar t (ar (rd t (a : Int))) (a + 1) with
  | nil => exact absurd hc hA
  | cons p ps =>
   rw [hc] at k1
   simp only [List.map_cons, lens] at k1
   rw [List.map_cons]
   rw [ByteArray.size_append, ByteArray.size_append, ByteArray.size_append, joinB_size]
   have s1 : (⟨#[40]⟩ : ByteArray).size = 1 := rfl
   have s2 : (⟨#[41]⟩ : ByteArray).size = 1 := rfl
   rw [s1, s2]
   omega
def Whole (ar : Int → Nat) (t : List Int) : Prop := skipN ar 1 t = some []
theorem whole_iff {ar : Int → Nat} {t : List Int} : endN ar t 1 0 = some t.length ↔ Whole ar t := by
 constructor
 ·intro h
  obtain ⟨h1, _, _⟩ := endN_some (by omega) h
  rw [List.drop_zero, List.drop_length] at h1
  exact h1
 ·intro h
  unfold endN
  rw [List.drop_zero, h]
  simp
theorem whole_pos {ar : Int → Nat} {t : List Int} (h : Whole ar t) : 0 < t.length := by
 cases t with
 | nil => cases h
 | cons n t => simp
def sepB (b : UInt8) : Bool := b.toNat == 40 || b.toNat == 41 || b.toNat == 44
def sepN (n : Nat) : Bool := n == 40 || n == 41 || n == 44
def lowB (b : UInt8) : Bool := decide (97 ≤ b.toNat ∧ b.toNat ≤ 122)
def capB (b : UInt8) : Bool := decide (65 ≤ b.toNat ∧ b.toNat < 77)
def WordB (w : List UInt8) : Prop := (∃ b, w = [b] ∧ capB b = true) ∨ (w ≠ [] ∧ ∀ b ∈ w, lowB b = true)
def SepHead (s : List UInt8) : Prop := ∀ b r, s = b :: r → sepB b = true
theorem word_plain {w : List UInt8} (h : WordB w) : w ≠ [] ∧ ∀ b ∈ w, sepB b = false := by
 rcases h with ⟨b, rfl, hb⟩ | ⟨h1, h2⟩
 ·refine ⟨by simp, fun c hc => ?_⟩
  rw [List.mem_singleton] at hc
  subst hc
  have := of_decide_eq_true hb
  unfold sepB
  simp only [Bool.or_eq_false_iff, beq_eq_false_iff_ne]
  omega
 ·refine ⟨h1, fun c hc => ?_⟩
  have := of_decide_eq_true (h2 c hc)
  unfold sepB
  simp only [Bool.or_eq_false_iff, beq_eq_false_iff_ne]
  omega
def wordN (nm : Int → ByteArray) (n : Int) : List UInt8 := if n < 0 then (strOfNums [(wrap64 (64 - n)) % 256]).data.toList else (nm n).data.toList
theorem txt_words {α : Type} {ar : Int → Nat} {nm : Int → ByteArray} {t : List Int} (har : ∀ n, n < 0 → ar n = 0) (hw : ∀ i, i < t.length → WordB (wordN nm (rd t (i : Int)))) (F : List UInt8 → α) (c : List UInt8 → α → α)
  (hsep : ∀ b s, sepB b = true → F (b :: s) = F s) (hword : ∀ w s, WordB w → SepHead s → F (w ++ s) = c w (F s)) :
  ∀ (f a e : Nat), a < t.length → endN ar t 1 a = some e → t.length - a ≤ f → ∀ x, SepHead x → F ((txtN ar nm t f a).data.toList ++ x) = (((t.take e).drop a).map (wordN nm)).foldr c (F x)
 | 0, a, e, ha, h, hf, x, hx => by omega
 | f + 1, a, e, ha, h, hf, x, hx => by
  obtain ⟨_, h1, h2⟩ := endN_some (by omega) h
  have hE := endN_args ha h
  have hcut : (t.take e).drop a = rd t (a : Int) :: (t.take e).drop (a + 1) := by
   rw [List.drop_eq_getElem_cons (by rw [List.length_take]; omega), List.getElem_take, rd_get t a ha]
  have hwa := hw a ha
  rw [hcut, List.map_cons, List.foldr_cons, txtN]
  unfold argsAt
  cases hA : ar (rd t (a : Int)) with
  | zero =>
   rw [hA, endN_zero _ _ _ (by omega)] at hE
   obtain rfl := Option.some.inj hE
   have hnil : (t.take (a + 1)).drop (a + 1) = [] := List.drop_eq_nil_of_le (by rw [List.length_take]; omega)
   rw [hnil]
   simp only [argsN, List.map_nil, List.foldr_nil, if_true]
   have := hword _ x hwa hx
   unfold wordN at this ⊢
   by_cases h0 : rd t (a : Int) < 0
   ·simp only [if_pos h0] at this ⊢; exact this
   ·simp only [if_neg h0] at this ⊢; exact this
  | succ m =>
   rw [hA] at hE
   -- the tail of the arguments
   have key : ∀ (m p q : Nat), a < p → p ≤ t.length → endN ar t m p = some q → ∀ x, SepHead x →
     SepHead (Lib.joinTail [44] (((argsN ar t m p).map (txtN ar nm t f)).map (·.data.toList)) ++ x) ∧ F (Lib.joinTail [44] (((argsN ar t m p).map (txtN ar nm t f)).map (·.data.toList)) ++ x) = (((t.take q).drop p).map (wordN nm)).foldr c (F x) := by
    intro m
    induction m with
    | zero =>
     intro p q hap hp hq x hx
     rw [endN_zero _ _ _ hp] at hq
     obtain rfl := Option.some.inj hq
     have hnil : (t.take p).drop p = [] := List.drop_eq_nil_of_le (by rw [List.length_take]; omega)
     rw [hnil]
     simp only [argsN, List.map_nil, List.foldr_nil, Lib.joinTail, List.flatten_nil, List.nil_append]
     exact ⟨hx, trivial⟩
    | succ m ih =>
     intro p q hap hp hq x hx
     rw [show m + 1 = 1 + m by omega, endN_add ar t 1 m p hp] at hq
     cases h1 : endN ar t 1 p with
     | none => rw [h1] at hq; cases hq
     | some p' =>
      rw [h1] at hq
      simp only [Option.bind_some] at hq
      obtain ⟨_, b1, b2⟩ := endN_some hp h1
      obtain ⟨i1, i2⟩ := ih p' q (by omega) b2 hq x hx
      obtain ⟨_, b3, b4⟩ := endN_some b2 hq
      have hs := txt_words har hw F c hsep hword f p p' (by omega) h1 (by omega) _ i1
      rw [argsN_succ h1]
      simp only [List.map_cons, Lib.joinTail, List.flatten_cons, List.append_assoc, List.cons_append, List.nil_append] at hs i2 ⊢
      refine ⟨fun b r e => ?_, ?_⟩
      ·injection e with e1 e2
       subst e1; rfl
      ·rw [hsep _ _ (by rfl)]
       rw [hs, i2, ← List.foldr_append, ← List.map_append]
       congr 2
       have e1 : (t.take p').drop p = (t.drop p).take (p' - p) := List.drop_take ..
       have e2 : (t.take q).drop p = (t.drop p).take (q - p) := List.drop_take ..
       have e3 : (t.take q).drop p' = (t.drop p').take (q - p') := List.drop_take ..
       rw [e1, e2, e3, show q - p = (p' - p) + (q - p') by omega, List.take_add, List.drop_drop, show p + (p' - p) = p' by omega]
   have hn0 : ¬ rd t (a : Int) < 0 := fun h => by rw [har _ h] at hA; cases hA
   rw [show m + 1 = 1 + m by omega, endN_add ar t 1 m (a + 1) (by omega)] at hE
   cases hp : endN ar t 1 (a + 1) with
   | none => rw [hp] at hE; cases hE
   | some p' =>
    rw [hp] at hE
    simp only [Option.bind_some] at hE
    obtain ⟨_, b1, b2⟩ := endN_some (by omega) hp
    obtain ⟨_, b3, b4⟩ := endN_some b2 hE
    have hx' : SepHead (41 :: x) := fun b r e => by
     injection e with e1 e2
     subst e1; rfl
    obtain ⟨k1, k2⟩ := key m p' e (by omega) b2 hE (41 :: x) hx'
    have hs := txt_words har hw F c hsep hword f (a + 1) p' (by omega) hp (by omega) _ k1
    rw [argsN_succ hp, if_neg hn0, if_neg (by simp)]
    have hl : (nm (rd t (a : Int)) ++ (⟨#[40]⟩ : ByteArray) ++ joinB ((((a + 1) :: argsN ar t m p')).map (txtN ar nm t f)) ++ (⟨#[41]⟩ : ByteArray)).data.toList ++ x
      = (nm (rd t (a : Int))).data.toList ++ (40 :: ((txtN ar nm t f (a + 1)).data.toList ++ (Lib.joinTail [44] (((argsN ar t m p').map (txtN ar nm t f)).map (·.data.toList)) ++ 41 :: x))) := by
     simp only [ByteArray.data_append, Array.toList_append, joinB, List.map_cons, Lib.join_cons, List.append_assoc, List.cons_append, List.nil_append]
    rw [hl]
    have hh := hword (wordN nm (rd t (a : Int))) (40 :: ((txtN ar nm t f (a + 1)).data.toList ++ (Lib.joinTail [44] (((argsN ar t m p').map (txtN ar nm t f)).map (·.data.toList)) ++ 41 :: x))) hwa (fun b r e => by
     injection e with e1 e2
     subst e1; rfl)
    have hwn : wordN nm (rd t (a : Int)) = (nm (rd t (a : Int))).data.toList := by unfold wordN; rw [if_neg hn0]
    rw [hwn] at hh ⊢
    rw [hh, hsep _ _ (by rfl), hs, k2, hsep 41 x (by rfl), ← List.foldr_append, ← List.map_append]
    congr 3
    have e1 : (t.take p').drop (a + 1) = (t.drop (a + 1)).take (p' - (a + 1)) := List.drop_take ..
    have e2 : (t.take e).drop (a + 1) = (t.drop (a + 1)).take (e - (a + 1)) := List.drop_take ..
    have e3 : (t.take e).drop p' = (t.drop p').take (e - p') := List.drop_take ..
    rw [e1, e2, e3, show e - (a + 1) = (p' - (a + 1)) + (e - p') by omega, List.take_add, List.drop_drop, show a + 1 + (p' - (a + 1)) = p' by omega]
def fieldsB (p : Nat → Bool) : List UInt8 → List UInt8 → List (List UInt8)
 | cur, [] => if cur = [] then [] else [cur]
 | cur, b :: l => if p b.toNat = true then (if cur = [] then fieldsB p [] l else cur :: fieldsB p [] l) else fieldsB p (cur ++ [b]) l
theorem fieldsB_word (p : Nat → Bool) : ∀ (w cur s : List UInt8), (∀ b ∈ w, p b.toNat = false) → fieldsB p cur (w ++ s) = fieldsB p (cur ++ w) s
 | [], cur, s, _ => by simp
 | b :: w, cur, s, h => by
  rw [List.cons_append, fieldsB, if_neg (by rw [h b (by simp)]; simp), fieldsB_word p w (cur ++ [b]) s (fun c hc => h c (by simp [hc])), List.append_assoc]; rfl
theorem sepB_N (b : UInt8) : sepN b.toNat = sepB b := rfl
theorem fields_words (w s : List UInt8) (hw : WordB w) (hs : SepHead s) : fieldsB sepN [] (w ++ s) = w :: fieldsB sepN [] s := by
 obtain ⟨h1, h2⟩ := word_plain hw
 rw [fieldsB_word sepN w [] s (fun b hb => h2 b hb), List.nil_append]
 cases s with
 | nil => simp [fieldsB, h1]
 | cons b r =>
  have hb := hs b r rfl
  rw [fieldsB, if_pos (by rw [sepB_N]; exact hb), if_neg h1]
  rw [fieldsB, if_pos (by rw [sepB_N]; exact hb)]
  simp
theorem fields_sep (b : UInt8) (s : List UInt8) (h : sepB b = true) : fieldsB sepN [] (b :: s) = fieldsB sepN [] s := by
 rw [fieldsB, if_pos (by rw [sepB_N]; exact h)]; simp
theorem spansA (p : Nat → Bool) (s : ByteArray) (hA : ∀ b ∈ s.data.toList, b.toNat < 128) : ∀ (f pos : Nat) (st : Option Nat) (acc : List (Nat × Nat)), s.size ≤ pos + f → pos ≤ s.size → (∀ a, st = some a → a < pos) →
  acc.map (fun q => Lib.pieceU s.data.toList q.1 q.2) ++ fieldsB p (Lib.openPiece s.data.toList st pos) (s.data.toList.drop pos) = (Lib.closeSpans s (Lib.spansFromP p s f pos st acc)).map (fun q => Lib.pieceU s.data.toList q.1 q.2) := by
 have hlen : s.data.toList.length = s.size := (Lib.size_eq s).symm
 have hend : ∀ (f pos : Nat) (st : Option Nat) (acc : List (Nat × Nat)), pos = s.size → (∀ a, st = some a → a < pos) →
   acc.map (fun q => Lib.pieceU s.data.toList q.1 q.2) ++ fieldsB p (Lib.openPiece s.data.toList st pos) (s.data.toList.drop pos) = (Lib.closeSpans s (Lib.spansFromP p s f pos st acc)).map (fun q => Lib.pieceU s.data.toList q.1 q.2) := by
  intro f pos st acc hp hst
  rw [Lib.spansFromP_end p s f pos st acc (by omega), List.drop_eq_nil_of_le (by omega)]
  cases st with
  | none => simp [Lib.closeSpans, Lib.openPiece, fieldsB]
  | some a =>
   have := Lib.pieceU_ne s.data.toList a pos (hst a rfl) (by omega)
   subst hp
   simp [Lib.closeSpans, Lib.openPiece, fieldsB, this]
 intro f
 induction f with
 | zero => intro pos st acc h hp hst; exact hend 0 pos st acc (by omega) hst
 | succ f ih =>
  intro pos st acc h hp hst
  by_cases hlt : pos < s.size
  ·have hl' : pos < s.data.toList.length := by omega
   have hb := hA _ (List.getElem_mem hl')
   have hdec : Utf8.decode s pos = ((s.data.toList[pos]).toNat, 1) := decode_ascii s pos hlt hb
   rw [List.drop_eq_getElem_cons hl']
   simp only [Lib.spansFromP, if_pos hlt, hdec, fieldsB]
   generalize hbb : s.data.toList[pos] = b at *
   have hpc : ∀ a, a ≤ pos → Lib.pieceU s.data.toList a pos ++ [b] = Lib.pieceU s.data.toList a (pos + 1) := fun a ha => by
    rw [← Lib.pieceU_grow _ a pos 1 ha, List.drop_eq_getElem_cons hl', hbb]; rfl
   cases hsp : p b.toNat with
   | true =>
    simp only [if_true]
    cases st with
    | none =>
     have := ih (pos + 1) none acc (by omega) (by omega) (fun a h => by cases h)
     simpa [Lib.openPiece] using this
    | some a =>
     have hpn := Lib.pieceU_ne s.data.toList a pos (hst a rfl) (by omega)
     have := ih (pos + 1) none (acc ++ [(a, pos)]) (by omega) (by omega) (fun a h => by cases h)
     simpa [Lib.openPiece, hpn] using this
   | false =>
    simp only [Bool.false_eq_true, if_false]
    cases st with
    | none =>
     have := ih (pos + 1) (some pos) acc (by omega) (by omega) (fun a h => by cases h; omega)
     simp only [Lib.openPiece] at this ⊢
     rw [← this]
     congr 2
     unfold Lib.pieceU
     rw [List.drop_eq_getElem_cons hl', hbb, Nat.add_sub_cancel_left]; rfl
    | some a =>
     have := ih (pos + 1) (some a) acc (by omega) (by omega) (fun b h => by cases h; have := hst a rfl; omega)
     simp only [Lib.openPiece] at this ⊢
     rw [hpc a (Nat.le_of_lt (hst a rfl))]
     exact this
  ·exact hend (f + 1) pos st acc (by omega) hst
theorem goFields_ascii (p : Nat → Bool) (s : ByteArray) (hA : ∀ b ∈ s.data.toList, b.toNat < 128) : (Lib.goFieldsP p s).map (·.data.toList) = fieldsB p [] s.data.toList := by
 have h := spansA p s hA s.size 0 none [] (by omega) (Nat.zero_le _) (fun a h => by cases h)
 simp only [List.map_nil, List.nil_append, Lib.openPiece, List.drop_zero] at h
 unfold Lib.goFieldsP Lib.spansOfP
 rw [h, List.map_map]
 congr 1
 funext q
 simp [Lib.pieceU]
def flushW (fd : List UInt8 → Int) (cur : List UInt8) (r : Option (List Int)) : Option (List Int) := if cur = [] then r else if fd cur < 0 then none else r.map (fun ns => fd cur :: ns)
def scanA (fd : List UInt8 → Int) : List UInt8 → List UInt8 → Option (List Int)
 | cur, [] => flushW fd cur (some [])
 | cur, b :: s => if lowB b = true then scanA fd (cur ++ [b]) s
  else flushW fd cur (if sepB b = true then scanA fd [] s else if capB b = true then (scanA fd [] s).map (fun ns => (-1 - ((b.toNat : Int) - 65)) :: ns) else none)
theorem sep_notlow {b : UInt8} (h : sepB b = true) : lowB b = false := by
 unfold sepB at h
 unfold lowB
 simp only [Bool.or_eq_true, beq_iff_eq] at h
 exact decide_eq_false (by omega)
theorem cap_notlow {b : UInt8} (h : capB b = true) : lowB b = false ∧ sepB b = false := by
 have h := of_decide_eq_true h
 refine ⟨decide_eq_false (by omega), ?_⟩
 unfold sepB
 simp only [Bool.or_eq_false_iff, beq_eq_false_iff_ne]
 omega
theorem scanA_low (fd : List UInt8 → Int) : ∀ (w cur s : List UInt8), (∀ b ∈ w, lowB b = true) → scanA fd cur (w ++ s) = scanA fd (cur ++ w) s
 | [], cur, s, _ => by simp
 | b :: w, cur, s, h => by
  rw [List.cons_append, scanA, if_pos (h b (by simp)), scanA_low fd w (cur ++ [b]) s (fun c hc => h c (by simp [hc])), List.append_assoc]; rfl
theorem scanA_flush (fd : List UInt8 → Int) (w s : List UInt8) (hs : ∀ b r, s = b :: r → lowB b = false) : scanA fd w s = flushW fd w (scanA fd [] s) := by
 cases s with
 | nil =>
  simp only [scanA]
  unfold flushW
  simp
 | cons b r =>
  have hb := hs b r rfl
  simp only [scanA, hb, Bool.false_eq_true, if_false]
  unfold flushW
  simp
theorem scanA_sep (fd : List UInt8 → Int) (b : UInt8) (s : List UInt8) (h : sepB b = true) : scanA fd [] (b :: s) = scanA fd [] s := by
 rw [scanA, if_neg (by rw [sep_notlow h]; simp), if_pos h]
 unfold flushW
 rw [if_pos rfl]
def addW (fd : List UInt8 → Int) (w : List UInt8) (r : Option (List Int)) : Option (List Int) :=
 match w with
 | [b] => if capB b = true then r.map (fun ns => (-1 - ((b.toNat : Int) - 65)) :: ns) else flushW fd [b] r
 | w => flushW fd w r
theorem scanA_word (fd : List UInt8 → Int) (w s : List UInt8) (hw : WordB w) (hs : SepHead s) : scanA fd [] (w ++ s) = addW fd w (scanA fd [] s) := by
 rcases hw with ⟨b, rfl, hb⟩ | ⟨h1, h2⟩
 ·obtain ⟨c1, c2⟩ := cap_notlow hb
  show scanA fd [] (b :: s) = _
  rw [scanA, if_neg (by rw [c1]; simp), if_neg (by rw [c2]; simp), if_pos hb]
  show (if ([] : List UInt8) = [] then _ else _) = (if capB b = true then _ else _)
  rw [if_pos rfl, if_pos hb]
 ·rw [scanA_low fd w [] s h2, List.nil_append, scanA_flush fd w s (fun b r e => sep_notlow (hs b r e))]
  unfold addW
  split
  ·rename_i b
   have hl := h2 b (by simp)
   rw [if_neg (fun hc => by rw [(cap_notlow hc).1] at hl; cases hl)]
  ·rfl
def nodeW (fd : List UInt8 → Int) (w : List UInt8) : Int :=
 match w with
 | [b] => if capB b = true then -1 - ((b.toNat : Int) - 65) else fd [b]
 | w => fd w
def readW (fd : List UInt8 → Int) : List (List UInt8) → Option (List Int)
 | [] => some []
 | w :: ws => if nodeW fd w = -1 ∧ w ≠ [65] then none else (readW fd ws).map (fun ns => nodeW fd w :: ns)
structure NodeWord (fd : List UInt8 → Int) (w : List UInt8) (n : Int) : Prop where
 word : WordB w
 look : 0 ≤ n → (∀ b ∈ w, lowB b = true) ∧ w ≠ [] ∧ fd w = n
 var : n < 0 → ∃ b, w = [b] ∧ capB b = true ∧ -1 - ((b.toNat : Int) - 65) = n
theorem addW_node {fd : List UInt8 → Int} {w : List UInt8} {n : Int} (h : NodeWord fd w n) (r : List Int) : addW fd w (some r) = some (n :: r) := by
 by_cases h0 : n < 0
 ·obtain ⟨b, rfl, hb, e⟩ := h.var h0
  show (if capB b = true then _ else _) = _
  rw [if_pos hb]
  simp [e]
 ·obtain ⟨h1, h2, h3⟩ := h.look (by omega)
  have hf : flushW fd w (some r) = some (n :: r) := by
   unfold flushW
   rw [if_neg h2, h3, if_neg h0]; rfl
  unfold addW
  split
  ·rename_i b
   have hl := h1 b (by simp)
   rw [if_neg (fun hc => by rw [(cap_notlow hc).1] at hl; cases hl)]
   exact hf
  ·exact hf
theorem nodeW_node {fd : List UInt8 → Int} {w : List UInt8} {n : Int} (h : NodeWord fd w n) : nodeW fd w = n ∧ ¬ (n = -1 ∧ w ≠ [65]) := by
 by_cases h0 : n < 0
 ·obtain ⟨b, rfl, hb, e⟩ := h.var h0
  have e' : nodeW fd [b] = n := by
   show (if capB b = true then _ else _) = _
   rw [if_pos hb]; exact e
  refine ⟨e', fun hn => hn.2 ?_⟩
  have hb' := of_decide_eq_true hb
  have : b.toNat = 65 := by omega
  have : b = 65 := UInt8.toNat_inj.1 this
  rw [this]
 ·obtain ⟨h1, h2, h3⟩ := h.look (by omega)
  refine ⟨?_, fun hn => by omega⟩
  unfold nodeW
  split
  ·rename_i b
   have hl := h1 b (by simp)
   rw [if_neg (fun hc => by rw [(cap_notlow hc).1] at hl; cases hl)]
   exact h3
  ·exact h3
theorem scan_nodes {fd : List UInt8 → Int} {wd : Int → List UInt8} : ∀ (t : List Int), (∀ n ∈ t, NodeWord fd (wd n) n) → (t.map wd).foldr (addW fd) (scanA fd [] []) = some t
 | [], _ => rfl
 | n :: t, h => by
  rw [List.map_cons, List.foldr_cons, scan_nodes t (fun m hm => h m (by simp [hm])), addW_node (h n (by simp))]
theorem read_nodes {fd : List UInt8 → Int} {wd : Int → List UInt8} : ∀ (t : List Int), (∀ n ∈ t, NodeWord fd (wd n) n) → readW fd (t.map wd) = some t
 | [], _ => rfl
 | n :: t, h => by
  obtain ⟨h1, h2⟩ := nodeW_node (h n (by simp))
  rw [List.map_cons, readW, h1, if_neg h2, read_nodes t (fun m hm => h m (by simp [hm]))]; rfl
theorem text_read {fd : List UInt8 → Int} {ar : Int → Nat} {nm : Int → ByteArray} {t : List Int} (har : ∀ n, n < 0 → ar n = 0) (hw : Whole ar t) (hn : ∀ n ∈ t, NodeWord fd (wordN nm n) n) (f : Nat) (hf : t.length ≤ f) :
  scanA fd [] (txtN ar nm t f 0).data.toList = some t ∧ readW fd ((Lib.goFieldsP sepN (txtN ar nm t f 0)).map (·.data.toList)) = some t := by
 have hp := whole_pos hw
 have he := whole_iff.2 hw
 have hrd : ∀ i, i < t.length → WordB (wordN nm (rd t (i : Int))) := fun i hi => (hn _ (rd_mem t i hi)).word
 have hcut : (t.take t.length).drop 0 = t := by rw [List.drop_zero, List.take_length]
 have hnil : SepHead [] := fun b r e => by cases e
 have h1 := txt_words har hrd (scanA fd []) (addW fd) (fun b s hb => scanA_sep fd b s hb) (fun w s hw hs => scanA_word fd w s hw hs) f 0 t.length hp he (by omega) [] hnil
 rw [List.append_nil, hcut, scan_nodes t hn] at h1
 have h2 := txt_words har hrd (fieldsB sepN []) List.cons (fun b s hb => fields_sep b s hb) (fun w s hw hs => fields_words w s hw hs) f 0 t.length hp he (by omega) [] hnil
 have hall := txt_words har hrd (fun s => s.all fun b => decide (b.toNat < 128)) (fun _ r => r) (fun b s hb => by
  unfold sepB at hb
  simp only [Bool.or_eq_true, beq_iff_eq] at hb
  simp only [List.all_cons]
  rw [decide_eq_true (by omega), Bool.true_and]) (fun w s hw hs => by
  rw [List.all_append]
  have : (w.all fun b => decide (b.toNat < 128)) = true := by
   rw [List.all_eq_true]
   intro b hb
   rcases hw with ⟨c, rfl, hc⟩ | ⟨_, h2⟩
   ·rw [List.mem_singleton] at hb
    subst hb
    have := of_decide_eq_true hc
    exact decide_eq_true (by omega)
   ·have := of_decide_eq_true (h2 b hb)
    exact decide_eq_true (by omega)
  rw [this, Bool.true_and]) f 0 t.length hp he (by omega) [] hnil
 rw [List.append_nil] at h2 hall
 have hall' : ∀ b ∈ (txtN ar nm t f 0).data.toList, b.toNat < 128 := by
  have hx : ∀ ws : List (List UInt8), ws.foldr (fun _ r => r) (([] : List UInt8).all fun b => decide (b.toNat < 128)) = true := by
   intro ws
   induction ws with
   | nil => rfl
   | cons w ws ih => rw [List.foldr_cons]; exact ih
  rw [hx] at hall
  intro b hb
  exact of_decide_eq_true (List.all_eq_true.1 hall b hb)
 refine ⟨h1, ?_⟩
 rw [goFields_ascii sepN _ hall', h2, hcut]
 have hfn : fieldsB sepN [] [] = [] := by simp [fieldsB]
 rw [hfn, List.foldr_cons_nil]
 exact read_nodes t hn
def scanN {R : Type} (f : Nat → Option R) (e : R) : Nat → Nat → R
 | 0, _ => e
 | d + 1, i => (f i).getD (scanN f e d (i + 1))
theorem loop_scan {R : Type} (n : Nat) (f : Nat → Option R) (e : R) (L : Nat → Int → Option R) (h0 : Ev (fun k => L (k + 1) (n : Int)) e)
  (h1 : ∀ i, i < n → ∀ r, Ev (fun k => L k ((i + 1 : Nat) : Int)) r → Ev (fun k => L (k + 1) (i : Int)) ((f i).getD r)) :
  ∀ d i, i + d = n → Ev (fun k => L k (i : Int)) (scanN f e d i) := by
 intro d
 induction d with
 | zero =>
  intro i hi
  obtain rfl : i = n := by omega
  exact ev_succ h0
 | succ d ih =>
  intro i hi
  exact ev_succ (h1 i (by omega) _ (ih (i + 1) (by omega)))
theorem scanN_none {R : Type} {f : Nat → Option R} {e : R} : ∀ (d i : Nat), (∀ j, i ≤ j → j < i + d → f j = none) → scanN f e d i = e
 | 0, _, _ => rfl
 | d + 1, i, h => by
  rw [scanN, h i (by omega) (by omega)]
  exact scanN_none d (i + 1) (fun j h1 h2 => h j (by omega) (by omega))
theorem scanN_cases {R : Type} (f : Nat → Option R) (e : R) : ∀ (d i : Nat), (∀ j, i ≤ j → j < i + d → f j = none) ∧ scanN f e d i = e ∨ ∃ j, i ≤ j ∧ j < i + d ∧ f j = some (scanN f e d i)
 | 0, i => .inl ⟨fun j h1 h2 => by omega, rfl⟩
 | d + 1, i => by
  rw [scanN]
  cases h : f i with
  | some r => exact .inr ⟨i, by omega, by omega, by rw [h]; rfl⟩
  | none =>
   rcases scanN_cases f e d (i + 1) with ⟨h1, h2⟩ | ⟨j, h1, h2, h3⟩
   ·refine .inl ⟨fun j a b => ?_, h2⟩
    by_cases hj : j = i
    ·rw [hj]; exact h
    ·exact h1 j (by omega) (by omega)
   ·exact .inr ⟨j, by omega, by omega, h3⟩
def firstN (p : Nat → Bool) : Nat → Nat → Option Nat
 | 0, _ => none
 | d + 1, i => if p i = true then some i else firstN p d (i + 1)
theorem firstN_none {p : Nat → Bool} : ∀ (d i : Nat), firstN p d i = none ↔ ∀ j, i ≤ j → j < i + d → p j = false
 | 0, i => by simp only [firstN, true_iff]; intro j h1 h2; omega
 | d + 1, i => by
  rw [firstN]
  by_cases h : p i = true
  ·rw [if_pos h]
   exact ⟨fun e => (by cases e), fun k => (by rw [k i (by omega) (by omega)] at h; cases h)⟩
  ·rw [if_neg h, firstN_none d (i + 1)]
   refine ⟨fun k j h1 h2 => ?_, fun k j h1 h2 => k j (by omega) (by omega)⟩
   by_cases hj : j = i
   ·rw [hj]; exact Bool.eq_false_iff.2 h
   ·exact k j (by omega) (by omega)
theorem firstN_some {p : Nat → Bool} : ∀ (d i j : Nat), firstN p d i = some j → i ≤ j ∧ j < i + d ∧ p j = true ∧ ∀ m, i ≤ m → m < j → p m = false
 | 0, i, j, h => by cases h
 | d + 1, i, j, h => by
  rw [firstN] at h
  by_cases hp : p i = true
  ·rw [if_pos hp] at h
   obtain rfl := Option.some.inj h
   exact ⟨by omega, by omega, hp, fun m h1 h2 => by omega⟩
  ·rw [if_neg hp] at h
   obtain ⟨h1, h2, h3, h4⟩ := firstN_some d (i + 1) j h
   refine ⟨by omega, by omega, h3, fun m a b => ?_⟩
   by_cases hm : m = i
   ·rw [hm]; exact Bool.eq_false_iff.2 hp
   ·exact h4 m (by omega) b
theorem scanN_first {R : Type} (p : Nat → Bool) (g : Nat → R) (e : R) : ∀ (d i : Nat), scanN (fun j => if p j = true then some (g j) else none) e d i = ((firstN p d i).map g).getD e
 | 0, _ => rfl
 | d + 1, i => by
  rw [scanN, firstN]
  by_cases h : p i = true
  ·rw [if_pos h, if_pos h]; rfl
  ·rw [if_neg h, if_neg h]; exact scanN_first p g e d (i + 1)
def placeN (p : Nat → Bool) (n : Nat) : Int :=
 match firstN p n 0 with
 | some j => (j : Int)
 | none => -1
theorem scanN_place (p : Nat → Bool) (n : Nat) : scanN (fun j => if p j = true then some (j : Int) else none) (-1) n 0 = placeN p n := by
 rw [scanN_first p (fun j => (j : Int)) (-1)]
 unfold placeN
 cases firstN p n 0 <;> rfl
theorem placeN_cases (p : Nat → Bool) (n : Nat) : placeN p n = -1 ∧ (∀ j, j < n → p j = false) ∨ ∃ j, j < n ∧ placeN p n = (j : Int) ∧ p j = true ∧ ∀ m, m < j → p m = false := by
 unfold placeN
 cases h : firstN p n 0 with
 | none => exact .inl ⟨rfl, fun j hj => (firstN_none n 0).1 h j (by omega) (by omega)⟩
 | some j =>
  obtain ⟨_, h2, h3, h4⟩ := firstN_some n 0 j h
  exact .inr ⟨j, by omega, rfl, h3, fun m hm => h4 m (by omega) hm⟩
def letterB (b : UInt8) : Bool := decide (97 ≤ b.toNat ∧ b.toNat ≤ 122)
def nameB (s : ByteArray) : Bool := decide (1 ≤ s.size ∧ s.size ≤ 3) && s.data.toList.all letterB
def abc : ByteArray := ⟨#[97, 98, 99, 100, 101, 102, 103, 104, 105, 106, 107, 108, 109, 110, 111, 112, 113, 114, 115, 116, 117, 118, 119, 120, 121, 122]⟩
theorem abc_letter_all : ∀ n, n < 256 → abc.data.toList.contains (UInt8.ofNat n) = letterB (UInt8.ofNat n) := by decide +kernel
theorem abc_letter (b : UInt8) : abc.data.toList.contains b = letterB b := by
 have h := abc_letter_all b.toNat (UInt8.toNat_lt b)
 rwa [UInt8.ofNat_toNat] at h
theorem dropWhile_nil (p : UInt8 → Bool) : ∀ l : List UInt8, l.dropWhile p = [] ↔ l.all p = true
 | [] => by simp
 | x :: xs => by
  by_cases h : p x = true
  ·rw [List.dropWhile_cons_of_pos h, dropWhile_nil p xs]; simp [h]
  ·rw [List.dropWhile_cons_of_neg h]; simp [h]
theorem dropWhile_head (p : UInt8 → Bool) : ∀ (l : List UInt8) (y : UInt8) (ys : List UInt8), l.dropWhile p = y :: ys → p y = false
 | [], y, ys, h => by cases h
 | x :: xs, y, ys, h => by
  by_cases hx : p x = true
  ·rw [List.dropWhile_cons_of_pos hx] at h; exact dropWhile_head p xs y ys h
  ·rw [List.dropWhile_cons_of_neg hx] at h
   simp only [List.cons.injEq] at h
   rw [← h.1]; exact Bool.eq_false_iff.2 hx
theorem trimS_nil (l cs : List UInt8) : Lib.trimS l cs = [] ↔ l.all (cs.contains ·) = true := by
 unfold Lib.trimS Lib.trimLeftS Lib.trimRightS
 rw [dropWhile_nil]
 constructor
 ·intro h
  cases hd : l.reverse.dropWhile (cs.contains ·) with
  | nil =>
   rw [dropWhile_nil] at hd
   rwa [List.all_reverse] at hd
  | cons y ys =>
   have h1 := dropWhile_head _ _ _ _ hd
   rw [hd] at h
   simp only [List.all_reverse, List.all_cons, Bool.and_eq_true] at h
   have h2 : cs.contains y = false := h1
   rw [h.1] at h2; cases h2
 ·intro h
  have : l.reverse.dropWhile (cs.contains ·) = [] := by rw [dropWhile_nil, List.all_reverse]; exact h
  rw [this]; rfl
theorem trim_abc (l : List UInt8) : (Lib.trimS l abc.data.toList == []) = l.all letterB := by
 have e : l.all (abc.data.toList.contains ·) = l.all letterB := by
  congr 1; funext b; exact abc_letter b
 by_cases h : l.all letterB = true
 ·rw [h]
  have := (trimS_nil l abc.data.toList).2 (by rw [e]; exact h)
  rw [this]; rfl
 ·have hn : ¬ Lib.trimS l abc.data.toList = [] := fun k => h (by rw [← e]; exact (trimS_nil _ _).1 k)
  rw [Bool.eq_false_iff.2 h]
  exact beq_eq_false_iff_ne.2 hn
end Go.Proofs.YtbdpnkpienpnaaaGreatDoor.Pure
