/- A part of the proof of the law FnExactSameEquations: words, functions of the program with what each call answers, plain lemmas; conditions stand in each statement. -/
import Derived.Test.YtbcnlphbndcicaaProg
import Derived.Deep.Slices
import Derived.Deep.Fields
import Derived.ChangeSame
import Derived.ChangeOld
import Derived.OpenShut
import Derived.ShutString
import Derived.ProofKit
import Derived.WalkKit
import Derived.Test.YtbcnlphbndcicaaCFnExactSameEquations0
set_option linter.unusedVariables false
namespace Go.Proofs.Ytbcnlphbndcicaa.Open
open Go.ChangeShapes Go.WideShapes Go.RowKit Go.Deep Go.Proofs.YtbcnlphbndcicaaW.PrintWords
def Opens {α : Type} (P : Program) (w : World) (T : TypeId) (d : Kd α) (good : α → Prop) : Prop :=
  ∀ (H : Type) (enc : TypeId × Value → H) (base : Nat) (spare : Nat → Bool) (held : Bool) (fuel : Nat) (cs : List Value) (x : DataW H × List MemPlace),
    DataW.trod enc P w base spare held fuel T cs = some x → ∃ a, d.K w a cs ∧ good a
section
variable {P : Program} {w : World} {T : TypeId}
theorem Opens.int_ {k : IntKind} (h : P.underlying T = some (.int k)) : Opens P w T (Kd.int k) (fun n => (Lit.int k n).wf = true) := by
  intro H enc base spare held fuel cs x hx
  obtain ⟨n, rfl, _, hw⟩ := DataW.trod_int h hx
  exact ⟨n, rfl, hw⟩
theorem Opens.iso_ {α β : Type} {d : Kd α} {good : α → Prop} (h : Opens P w T d good) (f : β → α) (g : α → β) (hfg : ∀ a, f (g a) = a) : Opens P w T (Kd.iso d f) (fun b => good (f b)) := by
  intro H enc base spare held fuel cs x hx
  obtain ⟨a, ha, hg⟩ := h H enc base spare held fuel cs x hx
  refine ⟨g a, ?_, by show good (f (g a)); rw [hfg]; exact hg⟩
  show d.K w (f (g a)) cs
  rw [hfg]; exact ha
theorem Opens.slice_ {α : Type} {e : TypeId} {d : Kd α} {good : α → Prop} (h : P.underlying T = some (.slice e)) (hc : P.cellsOf e = d.sz) (he : Opens P w e d good) :
    Opens P w T (Kd.slice e d) (fun xs => xs.length ≤ maxLen ∧ ∀ x ∈ xs, good x) := by
  intro H enc base spare held fuel cs x hx
  rcases open_slice h hx with ⟨rfl, _⟩ | ⟨a, len, cap, m, n, D, Pl, rfl, hb, hl, hm, hmm, _, hi⟩
  · exact ⟨[], ⟨none, 0, rfl, Nat.le_refl _, Kd.C_nil _ _⟩, by simp [maxLen], by simp⟩
  · have hlm : len ≤ m := by rw [hmm]; split <;> omega
    have hel : ∀ i, i < len → ∃ (y : α) (c : List Value), d.K w y c ∧ good y ∧ ∀ j u, c[j]? = some u → w.cell? (a.add (i * d.sz + j)) = some u := by
      intro i hil
      obtain ⟨cs', hcs, ht⟩ := hi i (by omega)
      obtain ⟨y, hy, hg⟩ := he H enc base spare held n cs' _ ht
      obtain ⟨_, hcl, hat⟩ := World.cells?_some hcs
      refine ⟨y, cs', hy, hg, fun j u hu => ?_⟩
      have hj : j < cs'.length := (List.getElem?_eq_some_iff.1 hu).1
      rw [← hc, ← Go.Deep.add_add, hat j (by omega), hu]
    have key : ∀ k, k ≤ len → ∃ ys : List α, ys.length = k ∧ (∀ y ∈ ys, good y) ∧ ∀ j p, ys[j]? = some p → ∃ c, c.length = d.sz ∧ d.K w p c ∧ ∀ i u, c[i]? = some u → w.cell? (a.add (j * d.sz + i)) = some u := by
      intro k
      induction k with
      | zero => intro _; exact ⟨[], rfl, by simp, by simp⟩
      | succ k ih =>
        intro hk
        obtain ⟨ys, hyl, hyg, hyc⟩ := ih (by omega)
        obtain ⟨y, c, hK, hg, hcell⟩ := hel k (by omega)
        refine ⟨ys ++ [y], by simp [hyl], ?_, ?_⟩
        · intro z hz
          rcases List.mem_append.1 hz with hz | hz
          · exact hyg z hz
          · rw [List.mem_singleton.1 hz]; exact hg
        · intro j p hj
          by_cases hjk : j < ys.length
          · rw [List.getElem?_append_left hjk] at hj
            exact hyc j p hj
          · have hj1 : j < (ys ++ [y]).length := (List.getElem?_eq_some_iff.1 hj).1
            rw [List.length_append, List.length_singleton] at hj1
            have hjl : j = ys.length := by omega
            subst hjl
            have : y = p := by simpa using hj
            subst this
            exact ⟨c, d.K_len hK, hK, by rw [hyl]; exact hcell⟩
    obtain ⟨ys, hyl, hyg, hyc⟩ := key len (Nat.le_refl _)
    subst hyl
    unfold maxLen at hm
    exact ⟨ys, ⟨some a, cap, rfl, hl, rfl, by omega, fun _ => ⟨a, rfl, hyc⟩⟩, by unfold maxLen; omega, hyg⟩
theorem Opens.struct2 {α β : Type} {f g : Field} {d : Kd α} {e : Kd β} {good : α → Prop} {good' : β → Prop} (h : P.underlying T = some (.struct #[f, g])) (h0 : f.offset = 0) (h1 : g.offset = P.cellsOf f.type) (hc : P.cellsOf T = P.cellsOf f.type + P.cellsOf g.type)
    (hd : Opens P w f.type d good) (he : Opens P w g.type e good') : Opens P w T (Kd.pair d e) (fun x => good x.1 ∧ good' x.2) := by
  intro H enc base spare held fuel cs x hx
  obtain ⟨xs, n, _, _, hl, hlen, hf⟩ := DataW.trod_struct h hx
  have a0 := hf 0 f rfl
  have a1 := hf 1 g rfl
  rw [h0, List.drop_zero] at a0
  rw [h1, List.take_of_length_le (by rw [List.length_drop]; omega)] at a1
  obtain ⟨y, hy⟩ : ∃ y, xs[0]? = some y := ⟨xs[0]'(by rw [hlen]; simp), List.getElem?_eq_getElem _⟩
  obtain ⟨z, hz⟩ : ∃ z, xs[1]? = some z := ⟨xs[1]'(by rw [hlen]; simp), List.getElem?_eq_getElem _⟩
  obtain ⟨a, ha, hga⟩ := hd H enc base spare held n _ y (a0.trans hy)
  obtain ⟨b, hb, hgb⟩ := he H enc base spare held n _ z (a1.trans hz)
  exact ⟨(a, b), ⟨_, _, (List.take_append_drop _ _).symm, ha, hb⟩, hga, hgb⟩
variable {H : Type} {enc : TypeId × Value → H} {r : Reach} {b0 base : Nat} {spare : Nat → Bool} {held : Bool} {v : Value} {dd : DataW H} {p : List MemPlace}
theorem arg_slice {α : Type} {e : TypeId} {d : Kd α} {good : List α → Prop} (ht : P.underlying T = some (.slice e)) (hv : Value.okWide P w r b0 T v) (hd : DataW.Trod enc P w base spare held T v dd p)
    (ho : Opens P w T (Kd.slice e d) good) : ∃ A c xs, v = .slice A xs.length c ∧ xs.length ≤ c ∧ d.C w A xs.length xs ∧ good xs := by
  obtain ⟨a, len, cap, rfl⟩ := okWide_slice ht hv
  obtain ⟨fuel, hf⟩ := hd
  obtain ⟨xs, ⟨A, c, hcs, hl, hC⟩, hg⟩ := ho H enc base spare held fuel _ _ hf
  simp [Value.cells] at hcs
  obtain ⟨rfl, rfl, rfl⟩ := hcs
  exact ⟨_, _, xs, rfl, hl, hC, hg⟩
end
end Go.Proofs.Ytbcnlphbndcicaa.Open
set_option linter.unusedVariables false
namespace Go.Proofs.Ytbcnlphbndcicaa.Base
open Go.RowKit Go.Proofs.YtbcnlphbndcicaaW.PrintWords
variable {α β : Type}
theorem ev_pos {c : Prop} [Decidable c] {A B : Nat → Option α} {r : α} (h : c) (k : Ev A r) : Ev (fun n => if c then A n else B n) r := by
  simp only [if_pos h]; exact k
theorem ev_neg {c : Prop} [Decidable c] {A B : Nat → Option α} {r : α} (h : ¬ c) (k : Ev B r) : Ev (fun n => if c then A n else B n) r := by
  simp only [if_neg h]; exact k
theorem ev_succ {g : Nat → Option α} {r : α} (h : Ev (fun k => g (k + 1)) r) : Ev g r := by
  obtain ⟨K, h⟩ := h
  refine ⟨K + 1, fun n hn => ?_⟩
  obtain ⟨m, rfl⟩ : ∃ m, n = m + 1 := ⟨n - 1, by omega⟩
  exact h m (by omega)
theorem ev_some (r : α) : Ev (fun _ => some r) r := ⟨0, fun _ _ => rfl⟩
theorem ev_bind {g : Nat → Option α} {f : Nat → α → Option β} {a : α} {r : β} (h : Ev g a) (k : Ev (fun n => f n a) r) : Ev (fun n => (g n).bind (f n)) r := Ev.bind h k
theorem ev_bindq {o : Option α} {f : Nat → α → Option β} {a : α} {r : β} (h : o = some a) (k : Ev (fun n => f n a) r) : Ev (fun n => o.bind (f n)) r := by
  subst h; exact k
theorem ev_to {g : Nat → Option α} {r r' : α} (h : Ev g r) (e : r = r') : Ev g r' := e ▸ h
theorem ev_ex {g : Nat → Option α} {r : α} (h : Ev g r) : ∃ k, g k = some r := Ev.rounds h
theorem wrap_id {x : Int} (h0 : -9223372036854775808 ≤ x) (h1 : x ≤ 9223372036854775807) : wrap64 x = x := by
  unfold wrap64; omega
theorem wrap_up {i : Nat} (h : i < 9223372036854775807) : wrap64 ((i : Int) + 1) = ((i + 1 : Nat) : Int) := by
  unfold wrap64; omega
theorem rd_drop (xs : List Int) (i : Nat) (h : i < xs.length) : xs.drop i = rd xs (i : Int) :: xs.drop (i + 1) := by
  rw [List.drop_eq_getElem_cons h]
  simp [rd, List.getD_eq_getElem?_getD, List.getElem?_eq_getElem h]
theorem rd_get (xs : List Int) (i : Nat) (h : i < xs.length) : rd xs (i : Int) = xs[i] := by
  simp [rd, List.getD_eq_getElem?_getD, List.getElem?_eq_getElem h]
theorem rd_some (xs : List Int) (i : Nat) (h : i < xs.length) : xs[i]? = some (rd xs (i : Int)) := by
  rw [rd_get xs i h]; exact List.getElem?_eq_getElem h
def cpart (z : α) (xs : List α) (i : Nat) : List α := xs.take i ++ List.replicate (xs.length - i) z
theorem cpart_zero (z : α) (xs : List α) : cpart z xs 0 = List.replicate xs.length z := by simp [cpart]
theorem cpart_end (z : α) (xs : List α) : cpart z xs xs.length = xs := by simp [cpart]
theorem cpart_length (z : α) (xs : List α) (i : Nat) (h : i ≤ xs.length) : (cpart z xs i).length = xs.length := by
  simp [cpart]; omega
theorem cpart_set (z : α) (xs : List α) (i : Nat) (h : i < xs.length) (x : α) (hx : xs[i]? = some x) : (cpart z xs i).set i x = cpart z xs (i + 1) := by
  have e : xs.length - i = (xs.length - (i + 1)) + 1 := by omega
  obtain ⟨hx', rfl⟩ := List.getElem?_eq_some_iff.1 hx
  unfold cpart
  rw [e, List.replicate_succ, List.set_append_right _ _ (by simp; omega), List.take_succ_eq_append_getElem h]
  simp only [List.length_take, Nat.min_eq_left (Nat.le_of_lt h), Nat.sub_self, List.set_cons_zero, List.append_assoc, List.singleton_append]
def allB {α : Type} (p : α → α → Bool) : List α → List α → Bool
  | x :: xs, y :: ys => if p x y = true then allB p xs ys else false
  | _, _ => true
def sameL {α : Type} (p : α → α → Bool) (a b : List α) : Bool := if a.length = b.length then allB p a b else false
theorem allB_self {α : Type} (p : α → α → Bool) (h : ∀ x, p x x = true) : ∀ a : List α, allB p a a = true
  | [] => rfl
  | x :: xs => by rw [allB, if_pos (h x)]; exact allB_self p h xs
theorem loop_all {α : Type} (p : α → α → Bool) (a b : List α) (hab : a.length = b.length) (L : Nat → Int → Option Bool)
    (h0 : ∀ k, L (k + 1) (a.length : Int) = some true)
    (h1 : ∀ (i : Nat) (ha : i < a.length) (hb : i < b.length) (r : Bool), Ev (fun k => L k ((i + 1 : Nat) : Int)) r → Ev (fun k => L (k + 1) (i : Int)) (if p a[i] b[i] = true then r else false)) :
    ∀ (d i : Nat), i + d = a.length → Ev (fun k => L k (i : Int)) (allB p (a.drop i) (b.drop i)) := by
  intro d
  induction d with
  | zero =>
    intro i hi
    obtain rfl : i = a.length := by omega
    rw [List.drop_length]
    refine ev_succ ⟨0, fun k _ => ?_⟩
    simp only [allB]; exact h0 k
  | succ d ih =>
    intro i hi
    have ha : i < a.length := by omega
    have hb : i < b.length := by omega
    rw [List.drop_eq_getElem_cons ha, List.drop_eq_getElem_cons hb]
    exact ev_succ (h1 i ha hb _ (ih (i + 1) (by omega)))
theorem loop_map {α β : Type} (f : α → β) (z : β) (a : List α) (L : Nat → List β → Int → Option (List β))
    (h0 : ∀ k ys, L (k + 1) ys (a.length : Int) = some ys)
    (h1 : ∀ (i : Nat) (ha : i < a.length) (ys r : List β), ys.length = a.length → Ev (fun k => L k (ys.set i (f a[i])) ((i + 1 : Nat) : Int)) r → Ev (fun k => L (k + 1) ys (i : Int)) r) :
    ∀ (d i : Nat), i + d = a.length → Ev (fun k => L k (cpart z (a.map f) i) (i : Int)) (a.map f) := by
  intro d
  induction d with
  | zero =>
    intro i hi
    obtain rfl : i = (a.map f).length := by rw [List.length_map]; omega
    rw [cpart_end]
    refine ev_succ ⟨0, fun k _ => ?_⟩
    rw [List.length_map]; exact h0 k _
  | succ d ih =>
    intro i hi
    have ha : i < a.length := by omega
    refine ev_succ (h1 i ha _ _ (by rw [cpart_length _ _ _ (by rw [List.length_map]; omega), List.length_map]) ?_)
    rw [cpart_set z (a.map f) i (by rw [List.length_map]; exact ha) (f a[i]) (by simp [ha])]
    exact ih (i + 1) (by omega)
theorem loop_sz {α : Type} (Q : α → Prop) (B : Int) (a : List α) (L : Nat → Int → Int → Option Int)
    (h0 : ∀ k v, L (k + 1) v (a.length : Int) = some v)
    (h1 : ∀ (i : Nat) (ha : i < a.length) (v : Int), 0 ≤ v → v ≤ B → Ev (fun k => L (k + 1) v (i : Int)) (-1) ∨ ∃ u, 0 ≤ u ∧ u ≤ v ∧ Q a[i] ∧ ∀ r, Ev (fun k => L k u ((i + 1 : Nat) : Int)) r → Ev (fun k => L (k + 1) v (i : Int)) r) :
    ∀ (d i : Nat) (v : Int), i + d = a.length → 0 ≤ v → v ≤ B → ∃ r, Ev (fun k => L k v (i : Int)) r ∧ (¬ r < 0 → r ≤ v ∧ ∀ x ∈ a.drop i, Q x) := by
  intro d
  induction d with
  | zero =>
    intro i v hi h2 h3
    obtain rfl : i = a.length := by omega
    refine ⟨v, ev_succ ⟨0, fun k _ => h0 k v⟩, fun _ => ⟨Int.le_refl _, ?_⟩⟩
    rw [List.drop_length]; intro x hx; exact absurd hx (by simp)
  | succ d ih =>
    intro i v hi h2 h3
    have ha : i < a.length := by omega
    rcases h1 i ha v h2 h3 with h | ⟨u, u0, uv, hq, h⟩
    · exact ⟨-1, ev_succ h, fun hn => absurd (by omega) hn⟩
    · obtain ⟨r, hr, hg⟩ := ih (i + 1) u (by omega) u0 (by omega)
      refine ⟨r, ev_succ (h r hr), fun hn => ?_⟩
      obtain ⟨g1, g2⟩ := hg hn
      refine ⟨by omega, fun x hx => ?_⟩
      rw [List.drop_eq_getElem_cons ha] at hx
      rcases List.mem_cons.1 hx with rfl | hx
      · exact hq
      · exact g2 x hx
end Go.Proofs.Ytbcnlphbndcicaa.Base
