/- A part of the proof of the law FnNumbers: words, functions of the program with what each call answers, plain lemmas; conditions stand in each statement. -/
import Derived.Test.YtedkbpbodkmhlaaDoorProg
import Derived.Deep.Slices
import Derived.Deep.Fields
import Derived.ChangeSame
import Derived.ChangeOld
import Derived.OpenShut
import Derived.ShutString
import Derived.ProofKit
import Derived.WalkKit
import Derived.Ground.NamesProg
import Derived.Shelf.Lays
import Derived.Shelf.LaysC
import Derived.Shelf.LaysM
import Derived.Ground.SlgmProg
import Derived.Shelf.SlLaysM
import Derived.Ground.SlgnProg
import Derived.Shelf.SlLaysN
import Derived.Shelf.SlGeneric
import Derived.Lib.ItoaNum
import Derived.Lib.ParseIntB
import Derived.Lib.ParseIntBCases
import Derived.Lib.Strings
import Derived.Test.YtedkbpbodkmhlaaDoorCFnNumbers0
set_option linter.unusedVariables false
namespace Go.Proofs.YtedkbpbodkmhlaaDoor.Open
open Go.ChangeShapes Go.WideShapes Go.RowKit Go.Deep Go.Proofs.YtedkbpbodkmhlaaDoorW.PrintWords
def Opens {α : Type} (P : Program) (w : World) (T : TypeId) (d : Kd α) (good : α → Prop) : Prop :=
  ∀ (H : Type) (enc : TypeId × Value → H) (base : Nat) (spare : Nat → Bool) (held : Bool) (fuel : Nat) (cs : List Value) (x : DataW H × List MemPlace),
    DataW.trod enc P w base spare held fuel T cs = some x → ∃ a, d.K w a cs ∧ good a
section
variable {P : Program} {w : World} {T : TypeId}
theorem Opens.int_ {k : IntKind} (h : P.underlying T = some (.int k)) : Opens P w T (Kd.int k) (fun n => (Lit.int k n).wf = true) := by
  intro H enc base spare held fuel cs x hx
  obtain ⟨n, rfl, _, hw⟩ := DataW.trod_int h hx
  exact ⟨n, rfl, hw⟩
theorem Opens.slice_ {α : Type} {e : TypeId} {d : Kd α} {good : α → Prop} (h : P.underlying T = some (.slice e)) (hc : P.cellsOf e = d.sz) (he : Opens P w e d good) :
    Opens P w T (Kd.slice e d) (fun xs => xs.length ≤ maxLen ∧ ∀ x ∈ xs, good x) := by
  intro H enc base spare held fuel cs x hx
  rcases open_slice h hx with ⟨rfl, _⟩ | ⟨a, len, cap, m, n, D, Pl, rfl, hb, hl, hm, hmm, _, hi⟩
  · exact ⟨[], ⟨none, 0, rfl, Nat.le_refl _, Kd.C_nil _ _⟩, by simp [maxLen], by simp⟩
  · have hlm : len ≤ m := by rw [hmm]; split <;> omega
    have hel : ∀ i, i < len → ∃ (y : α) (c : List Value), d.K w y c ∧ good y ∧ ∀ j u, c[j]? = some u → w.cell? (a.add (i * d.sz + j)) = some u := by
      intro i hil
      obtain ⟨cs', hcs, ht⟩ := hi i (by omega)
      obtain ⟨y, hy, hg⟩ := he H enc base spare held n cs' _ ht
      obtain ⟨_, hcl, hat⟩ := World.cells?_some hcs
      refine ⟨y, cs', hy, hg, fun j u hu => ?_⟩
      have hj : j < cs'.length := (List.getElem?_eq_some_iff.1 hu).1
      rw [← hc, ← Go.Deep.add_add, hat j (by omega), hu]
    have key : ∀ k, k ≤ len → ∃ ys : List α, ys.length = k ∧ (∀ y ∈ ys, good y) ∧ ∀ j p, ys[j]? = some p → ∃ c, c.length = d.sz ∧ d.K w p c ∧ ∀ i u, c[i]? = some u → w.cell? (a.add (j * d.sz + i)) = some u := by
      intro k
      induction k with
      | zero => intro _; exact ⟨[], rfl, by simp, by simp⟩
      | succ k ih =>
        intro hk
        obtain ⟨ys, hyl, hyg, hyc⟩ := ih (by omega)
        obtain ⟨y, c, hK, hg, hcell⟩ := hel k (by omega)
        refine ⟨ys ++ [y], by simp [hyl], ?_, ?_⟩
        · intro z hz
          rcases List.mem_append.1 hz with hz | hz
          · exact hyg z hz
          · rw [List.mem_singleton.1 hz]; exact hg
        · intro j p hj
          by_cases hjk : j < ys.length
          · rw [List.getElem?_append_left hjk] at hj
            exact hyc j p hj
          · have hj1 : j < (ys ++ [y]).length := (List.getElem?_eq_some_iff.1 hj).1
            rw [List.length_append, List.length_singleton] at hj1
            have hjl : j = ys.length := by omega
            subst hjl
            have : y = p := by simpa using hj
            subst this
            exact ⟨c, d.K_len hK, hK, by rw [hyl]; exact hcell⟩
    obtain ⟨ys, hyl, hyg, hyc⟩ := key len (Nat.le_refl _)
    subst hyl
    unfold maxLen at hm
    exact ⟨ys, ⟨some a, cap, rfl, hl, rfl, by omega, fun _ => ⟨a, rfl, hyc⟩⟩, by unfold maxLen; omega, hyg⟩
variable {H : Type} {enc : TypeId × Value → H} {r : Reach} {b0 base : Nat} {spare : Nat → Bool} {held : Bool} {v : Value} {dd : DataW H} {p : List MemPlace}
theorem arg_slice {α : Type} {e : TypeId} {d : Kd α} {good : List α → Prop} (ht : P.underlying T = some (.slice e)) (hv : Value.okWide P w r b0 T v) (hd : DataW.Trod enc P w base spare held T v dd p)
    (ho : Opens P w T (Kd.slice e d) good) : ∃ A c xs, v = .slice A xs.length c ∧ xs.length ≤ c ∧ d.C w A xs.length xs ∧ good xs := by
  obtain ⟨a, len, cap, rfl⟩ := okWide_slice ht hv
  obtain ⟨fuel, hf⟩ := hd
  obtain ⟨xs, ⟨A, c, hcs, hl, hC⟩, hg⟩ := ho H enc base spare held fuel _ _ hf
  simp [Value.cells] at hcs
  obtain ⟨rfl, rfl, rfl⟩ := hcs
  exact ⟨_, _, xs, rfl, hl, hC, hg⟩
end
end Go.Proofs.YtedkbpbodkmhlaaDoor.Open
namespace Go.Proofs.YtedkbpbodkmhlaaDoor.Shelf
open Go.Shelf
def laysC174_ren : Go.Shelf.Ren := ⟨fun | 174 => 72 | 247 => 128 | 245 => 129 | 287 => 155 | 279 => 156 | 280 => 157 | 281 => 158 | 282 => 159 | 321 => 172 | 322 => 173 | 316 => 174 | 171 => 176 | 205 => 175 | 243 => 200 | 246 => 154 | 283 => 168 | 284 => 169 | 285 => 170 | 286 => 171 | 129 => 195 | 317 => 196 | 318 => 197 | 319 => 198 | 320 => 199 | 337 => 211 | 338 => 212 | n => n, fun | 9 => 9 | 3 => 3 | 2 => 2 | 75 => 90 | 85 => 91 | 4 => 4 | 167 => 157 | 5 => 5 | 53 => 158 | 175 => 159 | 46 => 161 | 168 => 162 | 37 => 36 | 0 => 0 | 210 => 177 | 21 => 21 | 127 => 203 | 145 => 206 | 143 => 204 | 171 => 169 | 173 => 172 | 212 => 200 | 51 => 197 | 20 => 20 | 213 => 201 | 232 => 221 | 233 => 222 | 80 => 230 | n => n, fun | 15 => 0 | 16 => 1 | 17 => 2 | 18 => 3 | 19 => 4 | n => n⟩
theorem laysC174 : Go.Proofs.LaysC.n174 Tryd.prog laysC174_ren := {
  mixed := by kernel_rfl
  f129 := Tryd.func195.trans (congrArg some (by kernel_rfl))
  f171 := Tryd.func176.trans (congrArg some (by kernel_rfl))
  f174 := Tryd.func72.trans (congrArg some (by kernel_rfl))
  f205 := Tryd.func175.trans (congrArg some (by kernel_rfl))
  f243 := Tryd.func200.trans (congrArg some (by kernel_rfl))
  f245 := Tryd.func129.trans (congrArg some (by kernel_rfl))
  f246 := Tryd.func154.trans (congrArg some (by kernel_rfl))
  f247 := Tryd.func128.trans (congrArg some (by kernel_rfl))
  f279 := Tryd.func156.trans (congrArg some (by kernel_rfl))
  f280 := Tryd.func157.trans (congrArg some (by kernel_rfl))
  f281 := Tryd.func158.trans (congrArg some (by kernel_rfl))
  f282 := Tryd.func159.trans (congrArg some (by kernel_rfl))
  f283 := Tryd.func168.trans (congrArg some (by kernel_rfl))
  f284 := Tryd.func169.trans (congrArg some (by kernel_rfl))
  f285 := Tryd.func170.trans (congrArg some (by kernel_rfl))
  f286 := Tryd.func171.trans (congrArg some (by kernel_rfl))
  f287 := Tryd.func155.trans (congrArg some (by kernel_rfl))
  f316 := Tryd.func174.trans (congrArg some (by kernel_rfl))
  f317 := Tryd.func196.trans (congrArg some (by kernel_rfl))
  f318 := Tryd.func197.trans (congrArg some (by kernel_rfl))
  f319 := Tryd.func198.trans (congrArg some (by kernel_rfl))
  f320 := Tryd.func199.trans (congrArg some (by kernel_rfl))
  f321 := Tryd.func172.trans (congrArg some (by kernel_rfl))
  f322 := Tryd.func173.trans (congrArg some (by kernel_rfl))
  f337 := Tryd.func211.trans (congrArg some (by kernel_rfl))
  f338 := Tryd.func212.trans (congrArg some (by kernel_rfl))
  t0 := Tryd.underlying0
  a0 := Tryd.isAgg0
  z0 := Tryd.sizeOf0
  v0 := Tryd.zeroValue0
  t2 := Tryd.underlying2
  a2 := Tryd.isAgg2
  z2 := Tryd.sizeOf2
  v2 := Tryd.zeroValue2
  t3 := Tryd.underlying3
  a3 := Tryd.isAgg3
  z3 := Tryd.sizeOf3
  v3 := Tryd.zeroValue3
  t4 := Tryd.underlying4
  a4 := Tryd.isAgg4
  z4 := Tryd.sizeOf4
  v4 := Tryd.zeroValue4
  t5 := Tryd.underlying5
  a5 := Tryd.isAgg5
  z5 := Tryd.sizeOf5
  v5 := Tryd.zeroValue5
  t9 := Tryd.underlying9
  a9 := Tryd.isAgg9
  z9 := Tryd.sizeOf9
  v9 := Tryd.zeroValue9
  t20 := Tryd.underlying20
  a20 := Tryd.isAgg20
  z20 := Tryd.sizeOf20
  v20 := Tryd.zeroValue20
  t21 := Tryd.underlying21
  a21 := Tryd.isAgg21
  z21 := Tryd.sizeOf21
  v21 := Tryd.zeroValue21
  t37 := Tryd.underlying36
  a37 := Tryd.isAgg36
  z37 := Tryd.sizeOf36
  v37 := Tryd.zeroValue36
  t46 := Tryd.underlying161
  a46 := Tryd.isAgg161
  z46 := Tryd.sizeOf161
  v46 := Tryd.zeroValue161
  t51 := Tryd.underlying197
  a51 := Tryd.isAgg197
  z51 := Tryd.sizeOf197
  v51 := Tryd.zeroValue197
  t53 := Tryd.underlying158
  a53 := Tryd.isAgg158
  z53 := Tryd.sizeOf158
  v53 := Tryd.zeroValue158
  t75 := Tryd.underlying90
  a75 := Tryd.isAgg90
  z75 := Tryd.sizeOf90
  v75 := Tryd.zeroValue90
  t85 := Tryd.underlying91
  a85 := Tryd.isAgg91
  z85 := Tryd.sizeOf91
  v85 := Tryd.zeroValue91
  t127 := Tryd.underlying203
  a127 := Tryd.isAgg203
  z127 := Tryd.sizeOf203
  v127 := Tryd.zeroValue203
  t143 := Tryd.underlying204
  a143 := Tryd.isAgg204
  z143 := Tryd.sizeOf204
  v143 := Tryd.zeroValue204
  t145 := Tryd.underlying206
  a145 := Tryd.isAgg206
  z145 := Tryd.sizeOf206
  v145 := Tryd.zeroValue206
  t167 := Tryd.underlying157
  a167 := Tryd.isAgg157
  z167 := Tryd.sizeOf157
  v167 := Tryd.zeroValue157
  t168 := Tryd.underlying162
  a168 := Tryd.isAgg162
  z168 := Tryd.sizeOf162
  v168 := Tryd.zeroValue162
  t171 := Tryd.underlying169
  a171 := Tryd.isAgg169
  z171 := Tryd.sizeOf169
  v171 := Tryd.zeroValue169
  t173 := Tryd.underlying172
  a173 := Tryd.isAgg172
  z173 := Tryd.sizeOf172
  v173 := Tryd.zeroValue172
  t175 := Tryd.underlying159
  a175 := Tryd.isAgg159
  z175 := Tryd.sizeOf159
  v175 := Tryd.zeroValue159
  t210 := Tryd.underlying177
  a210 := Tryd.isAgg177
  z210 := Tryd.sizeOf177
  v210 := Tryd.zeroValue177
  t212 := Tryd.underlying200
  a212 := Tryd.isAgg200
  z212 := Tryd.sizeOf200
  v212 := Tryd.zeroValue200
  t213 := Tryd.underlying201
  a213 := Tryd.isAgg201
  z213 := Tryd.sizeOf201
  t232 := Tryd.underlying221
  a232 := Tryd.isAgg221
  z232 := Tryd.sizeOf221
  v232 := Tryd.zeroValue221
  t233 := Tryd.underlying222
  a233 := Tryd.isAgg222
  z233 := Tryd.sizeOf222
  v233 := Tryd.zeroValue222
  g15 := by kernel_rfl
  g16 := by kernel_rfl
  g17 := by kernel_rfl
  g18 := by kernel_rfl
  g19 := by kernel_rfl
  t80 := Tryd.underlying230
  a80 := Tryd.isAgg230
  z80 := Tryd.sizeOf230
  v80 := Tryd.zeroValue230
  i0 := by kernel_rfl
  i2 := by kernel_rfl
  i3 := by kernel_rfl
  i4 := by kernel_rfl
  i5 := by kernel_rfl
  i9 := by kernel_rfl
  i20 := by kernel_rfl
  i21 := by kernel_rfl
  i37 := by kernel_rfl
  i46 := by kernel_rfl
  i51 := by kernel_rfl
  i53 := by kernel_rfl
  i75 := by kernel_rfl
  i80 := by kernel_rfl
  i85 := by kernel_rfl
  i127 := by kernel_rfl
  i143 := by kernel_rfl
  i145 := by kernel_rfl
  i167 := by kernel_rfl
  i168 := by kernel_rfl
  i171 := by kernel_rfl
  i173 := by kernel_rfl
  i175 := by kernel_rfl
  i210 := by kernel_rfl
  i212 := by kernel_rfl
  i232 := by kernel_rfl
  i233 := by kernel_rfl
  m15 := by kernel_rfl
  m16 := by kernel_rfl
  m17 := by kernel_rfl
  m18 := by kernel_rfl
  m19 := by kernel_rfl
  c0 := by kernel_rfl
  c2 := by kernel_rfl
  c3 := by kernel_rfl
  c4 := by kernel_rfl
  c5 := by kernel_rfl
  c9 := by kernel_rfl
  c20 := by kernel_rfl
  c21 := by kernel_rfl
  c37 := by kernel_rfl
  c46 := by kernel_rfl
  c51 := by kernel_rfl
  c53 := by kernel_rfl
  c75 := by kernel_rfl
  c80 := by kernel_rfl
  c85 := by kernel_rfl
  c127 := by kernel_rfl
  c143 := by kernel_rfl
  c145 := by kernel_rfl
  c167 := by kernel_rfl
  c168 := by kernel_rfl
  c171 := by kernel_rfl
  c173 := by kernel_rfl
  c175 := by kernel_rfl
  c210 := by kernel_rfl
  c212 := by kernel_rfl
  c213 := by kernel_rfl
  c232 := by kernel_rfl
  c233 := by kernel_rfl }
def laysM173_ren : Go.Shelf.Ren := ⟨fun | 173 => 127 | 246 => 154 | 283 => 168 | 284 => 169 | 285 => 170 | 286 => 171 | 129 => 195 | 317 => 196 | 318 => 197 | 319 => 198 | 320 => 199 | 337 => 211 | 338 => 212 | n => n, fun | 2 => 2 | 3 => 3 | 9 => 9 | 4 => 4 | 171 => 169 | 0 => 0 | 53 => 158 | 37 => 36 | 5 => 5 | 173 => 172 | 212 => 200 | 51 => 197 | 20 => 20 | 213 => 201 | 46 => 161 | 232 => 221 | 233 => 222 | n => n, fun | 17 => 2 | 18 => 3 | 19 => 4 | n => n⟩
theorem laysM173 : Go.Proofs.LaysM.n173 Tryd.prog laysM173_ren := {
  mixed := by kernel_rfl
  f129 := Tryd.func195.trans (congrArg some (by kernel_rfl))
  f173 := Tryd.func127.trans (congrArg some (by kernel_rfl))
  f246 := Tryd.func154.trans (congrArg some (by kernel_rfl))
  f283 := Tryd.func168.trans (congrArg some (by kernel_rfl))
  f284 := Tryd.func169.trans (congrArg some (by kernel_rfl))
  f285 := Tryd.func170.trans (congrArg some (by kernel_rfl))
  f286 := Tryd.func171.trans (congrArg some (by kernel_rfl))
  f317 := Tryd.func196.trans (congrArg some (by kernel_rfl))
  f318 := Tryd.func197.trans (congrArg some (by kernel_rfl))
  f319 := Tryd.func198.trans (congrArg some (by kernel_rfl))
  f320 := Tryd.func199.trans (congrArg some (by kernel_rfl))
  f337 := Tryd.func211.trans (congrArg some (by kernel_rfl))
  f338 := Tryd.func212.trans (congrArg some (by kernel_rfl))
  t0 := Tryd.underlying0
  a0 := Tryd.isAgg0
  z0 := Tryd.sizeOf0
  v0 := Tryd.zeroValue0
  t2 := Tryd.underlying2
  a2 := Tryd.isAgg2
  z2 := Tryd.sizeOf2
  v2 := Tryd.zeroValue2
  t3 := Tryd.underlying3
  a3 := Tryd.isAgg3
  z3 := Tryd.sizeOf3
  v3 := Tryd.zeroValue3
  t4 := Tryd.underlying4
  a4 := Tryd.isAgg4
  z4 := Tryd.sizeOf4
  v4 := Tryd.zeroValue4
  t5 := Tryd.underlying5
  a5 := Tryd.isAgg5
  z5 := Tryd.sizeOf5
  v5 := Tryd.zeroValue5
  t9 := Tryd.underlying9
  a9 := Tryd.isAgg9
  z9 := Tryd.sizeOf9
  v9 := Tryd.zeroValue9
  t20 := Tryd.underlying20
  a20 := Tryd.isAgg20
  z20 := Tryd.sizeOf20
  v20 := Tryd.zeroValue20
  t37 := Tryd.underlying36
  a37 := Tryd.isAgg36
  z37 := Tryd.sizeOf36
  v37 := Tryd.zeroValue36
  t46 := Tryd.underlying161
  a46 := Tryd.isAgg161
  z46 := Tryd.sizeOf161
  v46 := Tryd.zeroValue161
  t51 := Tryd.underlying197
  a51 := Tryd.isAgg197
  z51 := Tryd.sizeOf197
  v51 := Tryd.zeroValue197
  t53 := Tryd.underlying158
  a53 := Tryd.isAgg158
  z53 := Tryd.sizeOf158
  v53 := Tryd.zeroValue158
  t171 := Tryd.underlying169
  a171 := Tryd.isAgg169
  z171 := Tryd.sizeOf169
  v171 := Tryd.zeroValue169
  t173 := Tryd.underlying172
  a173 := Tryd.isAgg172
  z173 := Tryd.sizeOf172
  v173 := Tryd.zeroValue172
  t212 := Tryd.underlying200
  a212 := Tryd.isAgg200
  z212 := Tryd.sizeOf200
  v212 := Tryd.zeroValue200
  t213 := Tryd.underlying201
  a213 := Tryd.isAgg201
  z213 := Tryd.sizeOf201
  t232 := Tryd.underlying221
  a232 := Tryd.isAgg221
  z232 := Tryd.sizeOf221
  v232 := Tryd.zeroValue221
  t233 := Tryd.underlying222
  a233 := Tryd.isAgg222
  z233 := Tryd.sizeOf222
  v233 := Tryd.zeroValue222
  g17 := by kernel_rfl
  g18 := by kernel_rfl
  g19 := by kernel_rfl
  i0 := by kernel_rfl
  i2 := by kernel_rfl
  i3 := by kernel_rfl
  i4 := by kernel_rfl
  i5 := by kernel_rfl
  i9 := by kernel_rfl
  i20 := by kernel_rfl
  i37 := by kernel_rfl
  i46 := by kernel_rfl
  i51 := by kernel_rfl
  i53 := by kernel_rfl
  i171 := by kernel_rfl
  i173 := by kernel_rfl
  i212 := by kernel_rfl
  i232 := by kernel_rfl
  i233 := by kernel_rfl
  m17 := by kernel_rfl
  m18 := by kernel_rfl
  m19 := by kernel_rfl }
end Go.Proofs.YtedkbpbodkmhlaaDoor.Shelf
set_option linter.unusedVariables false
namespace Go.Proofs.YtedkbpbodkmhlaaDoor.Base
open Go.RowKit Go.Proofs.YtedkbpbodkmhlaaDoorW.PrintWords
variable {α β : Type}
theorem ev_pos {c : Prop} [Decidable c] {A B : Nat → Option α} {r : α} (h : c) (k : Ev A r) : Ev (fun n => if c then A n else B n) r := by
  simp only [if_pos h]; exact k
theorem ev_neg {c : Prop} [Decidable c] {A B : Nat → Option α} {r : α} (h : ¬ c) (k : Ev B r) : Ev (fun n => if c then A n else B n) r := by
  simp only [if_neg h]; exact k
theorem ev_succ {g : Nat → Option α} {r : α} (h : Ev (fun k => g (k + 1)) r) : Ev g r := by
  obtain ⟨K, h⟩ := h
  refine ⟨K + 1, fun n hn => ?_⟩
  obtain ⟨m, rfl⟩ : ∃ m, n = m + 1 := ⟨n - 1, by omega⟩
  exact h m (by omega)
theorem ev_some (r : α) : Ev (fun _ => some r) r := ⟨0, fun _ _ => rfl⟩
theorem ev_bind {g : Nat → Option α} {f : Nat → α → Option β} {a : α} {r : β} (h : Ev g a) (k : Ev (fun n => f n a) r) : Ev (fun n => (g n).bind (f n)) r := Ev.bind h k
theorem ev_bindq {o : Option α} {f : Nat → α → Option β} {a : α} {r : β} (h : o = some a) (k : Ev (fun n => f n a) r) : Ev (fun n => o.bind (f n)) r := by
  subst h; exact k
theorem ev_to {g : Nat → Option α} {r r' : α} (h : Ev g r) (e : r = r') : Ev g r' := e ▸ h
theorem bind_eq {o : Option α} {f : α → Option β} {a : α} {r : Option β} (h : o = some a) (k : f a = r) : o.bind f = r := by
  subst h; exact k
theorem ev_ex {g : Nat → Option α} {r : α} (h : Ev g r) : ∃ k, g k = some r := Ev.rounds h
theorem wrap_id {x : Int} (h0 : -9223372036854775808 ≤ x) (h1 : x ≤ 9223372036854775807) : wrap64 x = x := by
  unfold wrap64; omega
theorem wrap_up {i : Nat} (h : i < 9223372036854775807) : wrap64 ((i : Int) + 1) = ((i + 1 : Nat) : Int) := by
  unfold wrap64; omega
theorem rd_mem (xs : List Int) (i : Nat) (h : i < xs.length) : rd xs (i : Int) ∈ xs := by
  have : rd xs (i : Int) = xs[i] := by simp [rd, List.getD_eq_getElem?_getD, List.getElem?_eq_getElem h]
  rw [this]; exact List.getElem_mem h
theorem wf_u8 {x : Int} (h : (Lit.int .u8 x).wf = true) : 0 ≤ x ∧ x ≤ 255 := by
  simpa [Lit.wf, IntKind.min, IntKind.max, IntKind.signed, IntKind.bits] using h
end Go.Proofs.YtedkbpbodkmhlaaDoor.Base
set_option linter.unusedVariables false
namespace Go.Proofs.YtedkbpbodkmhlaaDoor.Pure
open Go.RowKit Go.Proofs.YtedkbpbodkmhlaaDoorW.PrintWords Go.Proofs.YtedkbpbodkmhlaaDoor.Base
theorem decDigits_small {n : Nat} (h : n < 10) : Lib.decDigits n = [UInt8.ofNat (48 + n)] := by rw [Lib.decDigits, dif_pos h]
theorem decDigits_big {n : Nat} (h : ¬ n < 10) : Lib.decDigits n = Lib.decDigits (n / 10) ++ [UInt8.ofNat (48 + n % 10)] := by rw [Lib.decDigits, dif_neg h]
theorem decDigits_le (n : Nat) : (Lib.decDigits n).length ≤ n + 1 := by
  induction n using Nat.strongRecOn with
  | _ n ih =>
    by_cases h : n < 10
    · rw [decDigits_small h]; simp
    · rw [decDigits_big h, List.length_append, List.length_singleton]
      have := ih (n / 10) (by omega)
      omega
theorem decDigits_pos (n : Nat) : 1 ≤ (Lib.decDigits n).length := by
  by_cases h : n < 10
  · rw [decDigits_small h]; simp
  · rw [decDigits_big h, List.length_append, List.length_singleton]; omega
theorem decDigits_len6 {n : Nat} (h : n ≤ 999999) : (Lib.decDigits n).length ≤ 6 := by
  have key : ∀ (k n : Nat), n < 10 ^ (k + 1) → (Lib.decDigits n).length ≤ k + 1 := by
    intro k
    induction k with
    | zero => intro n hn; rw [decDigits_small (by simpa using hn)]; simp
    | succ k ih =>
      intro n hn
      by_cases h : n < 10
      · rw [decDigits_small h]; simp
      · rw [decDigits_big h, List.length_append, List.length_singleton]
        have := ih (n / 10) (by rw [Nat.pow_succ] at hn; omega)
        omega
  exact key 5 n (by omega)
theorem digit_toNat {d : Nat} (h : d < 10) : (UInt8.ofNat (48 + d)).toNat = 48 + d := by
  rw [UInt8.toNat_ofNat']; omega
def valO (n : Nat) : List UInt8 → Option Nat
  | [] => some n
  | c :: r => if 48 ≤ c.toNat ∧ c.toNat ≤ 57 then valO (n * 10 + (c.toNat - 48)) r else none
theorem valO_dec (n : Nat) : ∀ r, valO 0 (Lib.decDigits n ++ r) = valO n r := by
  induction n using Nat.strongRecOn with
  | _ n ih =>
    intro r
    by_cases h : n < 10
    · rw [decDigits_small h, List.singleton_append, valO, digit_toNat h, if_pos (by omega)]
      congr 1; omega
    · rw [decDigits_big h, List.append_assoc, ih (n / 10) (by omega), List.singleton_append, valO, digit_toNat (by omega), if_pos (by omega)]
      congr 1; omega
theorem valO_le : ∀ (l : List UInt8) (n m : Nat), valO n l = some m → m + 1 ≤ (n + 1) * 10 ^ l.length
  | [], n, m, h => by
    simp only [valO, Option.some.injEq] at h
    subst h; simp
  | c :: r, n, m, h => by
    unfold valO at h
    by_cases hc : 48 ≤ c.toNat ∧ c.toNat ≤ 57
    · rw [if_pos hc] at h
      have := valO_le r _ m h
      rw [List.length_cons, Nat.pow_succ]
      have h2 : (n * 10 + (c.toNat - 48) + 1) * 10 ^ r.length ≤ ((n + 1) * 10) * 10 ^ r.length := Nat.mul_le_mul_right _ (by omega)
      calc m + 1 ≤ (n * 10 + (c.toNat - 48) + 1) * 10 ^ r.length := this
        _ ≤ ((n + 1) * 10) * 10 ^ r.length := h2
        _ = (n + 1) * (10 ^ r.length * 10) := by rw [Nat.mul_assoc, Nat.mul_comm 10]
    · rw [if_neg hc] at h; cases h
theorem parseU_dec (n : Nat) (h : n ≤ 999999) : ∀ r, Lib.parseUintM 18446744073709551615 0 (Lib.decDigits n ++ r) = Lib.parseUintM 18446744073709551615 n r := by
  induction n using Nat.strongRecOn with
  | _ n ih =>
    intro r
    by_cases h10 : n < 10
    · rw [decDigits_small h10, List.singleton_append, Lib.parseUintM, digit_toNat h10, if_pos (by omega), if_neg (by omega), if_neg (by omega)]
      congr 1; omega
    · rw [decDigits_big h10, List.append_assoc, ih (n / 10) (by omega) (by omega), List.singleton_append, Lib.parseUintM, digit_toNat (by omega), if_pos (by omega), if_neg (by omega), if_neg (by omega)]
      congr 1; omega
theorem decDigits_head (n : Nat) : ∃ c r, Lib.decDigits n = c :: r ∧ 48 ≤ c.toNat ∧ c.toNat ≤ 57 := by
  induction n using Nat.strongRecOn with
  | _ n ih =>
    by_cases h : n < 10
    · exact ⟨_, [], decDigits_small h, by rw [digit_toNat h]; omega, by rw [digit_toNat h]; omega⟩
    · obtain ⟨c, r, e, h1, h2⟩ := ih (n / 10) (by omega)
      exact ⟨c, r ++ [UInt8.ofNat (48 + n % 10)], by rw [decDigits_big h, e, List.cons_append], h1, h2⟩
theorem parse_dec (n : Nat) (h : n ≤ 999999) : Lib.parseIntB 64 (Lib.decDigits n) = .ok (n : Int) := by
  obtain ⟨c, r, e, h1, h2⟩ := decDigits_head n
  rw [e, Lib.parseIntB_plain 64 c r (by omega) (by omega), ← e]
  have h3 := parseU_dec n h []
  rw [List.append_nil] at h3
  have h4 : Lib.parseUintB 64 (Lib.decDigits n) = .ok n := by
    unfold Lib.parseUintB
    rw [if_neg (by rw [e]; simp)]
    rw [show (2 ^ 64 - 1 : Nat) = 18446744073709551615 by decide, h3]; rfl
  rw [h4]
  unfold Lib.signlessC
  simp only
  rw [if_neg (by omega)]
def numR (l : List UInt8) : Int × Int :=
  if 1 ≤ l.length ∧ l.length ≤ 6 then (match valO 0 l with | some m => if Lib.decDigits m = l then (0, (m : Int)) else (5, 0) | none => (5, 0)) else (5, 0)
theorem numR_dec {n : Nat} (h : n ≤ 999999) : numR (Lib.decDigits n) = (0, (n : Int)) := by
  have hv := valO_dec n []
  rw [List.append_nil] at hv
  unfold numR
  rw [if_pos ⟨decDigits_pos n, decDigits_len6 h⟩, hv]
  simp [valO]
theorem numR_none {l : List UInt8} (h : ∀ n, n ≤ 999999 → Lib.decDigits n ≠ l) : numR l = (5, 0) := by
  unfold numR
  by_cases hl : 1 ≤ l.length ∧ l.length ≤ 6
  · rw [if_pos hl]
    cases hv : valO 0 l with
    | none => rfl
    | some m =>
      have h1 := valO_le l 0 m hv
      have h2 : 10 ^ l.length ≤ 10 ^ 6 := Nat.pow_le_pow_right (by omega) hl.2
      simp only
      rw [if_neg (h m (by omega))]
  · rw [if_neg hl]
def numP (l : List UInt8) : Int × Int :=
  match Lib.parseIntB 64 l with
  | .ok v => if 0 ≤ v ∧ v ≤ 999999 then (if Lib.itoa v = l then (0, v) else (5, 0)) else (5, 0)
  | _ => (5, 0)
theorem numP_eq (l : List UInt8) : numP l = numR l := by
  by_cases h : ∃ n, n ≤ 999999 ∧ Lib.decDigits n = l
  · obtain ⟨n, hn, rfl⟩ := h
    rw [numR_dec hn]
    unfold numP
    rw [parse_dec n hn]
    simp only
    rw [if_pos (by omega), if_pos ?_]
    unfold Lib.itoa
    rw [if_neg (by omega), Int.toNat_natCast]
  · have hn : ∀ n, n ≤ 999999 → Lib.decDigits n ≠ l := fun n h1 h2 => h ⟨n, h1, h2⟩
    rw [numR_none hn]
    unfold numP
    cases Lib.parseIntB 64 l with
    | ok v =>
      simp only
      by_cases hv : 0 ≤ v ∧ v ≤ 999999
      · rw [if_pos hv, if_neg ?_]
        unfold Lib.itoa
        rw [if_neg (by omega)]
        exact hn v.toNat (by omega)
      · rw [if_neg hv]
    | _ => rfl
end Go.Proofs.YtedkbpbodkmhlaaDoor.Pure
