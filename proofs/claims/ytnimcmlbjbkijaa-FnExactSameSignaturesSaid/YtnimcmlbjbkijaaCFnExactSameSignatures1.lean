/- A part of the proof of the law FnExactSameSignatures: words, functions of the program with what each call answers, plain lemmas; conditions stand in each statement. -/
import Derived.Test.YtnimcmlbjbkijaaProg
import Derived.Deep.Slices
import Derived.Deep.Fields
import Derived.ChangeSame
import Derived.ChangeOld
import Derived.OpenShut
import Derived.ShutString
import Derived.ProofKit
import Derived.WalkKit
import Derived.Test.YtnimcmlbjbkijaaCFnExactSameSignatures0
set_option linter.unusedVariables false
namespace Go.Proofs.Ytnimcmlbjbkijaa.Open
open Go.ChangeShapes Go.WideShapes Go.RowKit Go.Deep Go.Proofs.YtnimcmlbjbkijaaW.PrintWords
def Opens {α : Type} (P : Program) (w : World) (T : TypeId) (d : Kd α) (good : α → Prop) : Prop :=
  ∀ (H : Type) (enc : TypeId × Value → H) (base : Nat) (spare : Nat → Bool) (held : Bool) (fuel : Nat) (cs : List Value) (x : DataW H × List MemPlace),
    DataW.trod enc P w base spare held fuel T cs = some x → ∃ a, d.K w a cs ∧ good a
section
variable {P : Program} {w : World} {T : TypeId}
theorem Opens.int_ {k : IntKind} (h : P.underlying T = some (.int k)) : Opens P w T (Kd.int k) (fun n => (Lit.int k n).wf = true) := by
  intro H enc base spare held fuel cs x hx
  obtain ⟨n, rfl, _, hw⟩ := DataW.trod_int h hx
  exact ⟨n, rfl, hw⟩
theorem Opens.string_ (h : P.underlying T = some .string) : Opens P w T Kd.string (fun s => s.size ≤ maxLen) := by
  intro H enc base spare held fuel cs x hx
  obtain ⟨s, rfl, _, hs⟩ := DataW.trod_string h hx
  exact ⟨s, rfl, hs⟩
theorem Opens.iso_ {α β : Type} {d : Kd α} {good : α → Prop} (h : Opens P w T d good) (f : β → α) (g : α → β) (hfg : ∀ a, f (g a) = a) : Opens P w T (Kd.iso d f) (fun b => good (f b)) := by
  intro H enc base spare held fuel cs x hx
  obtain ⟨a, ha, hg⟩ := h H enc base spare held fuel cs x hx
  refine ⟨g a, ?_, by show good (f (g a)); rw [hfg]; exact hg⟩
  show d.K w (f (g a)) cs
  rw [hfg]; exact ha
theorem Opens.slice_ {α : Type} {e : TypeId} {d : Kd α} {good : α → Prop} (h : P.underlying T = some (.slice e)) (hc : P.cellsOf e = d.sz) (he : Opens P w e d good) :
    Opens P w T (Kd.slice e d) (fun xs => xs.length ≤ maxLen ∧ ∀ x ∈ xs, good x) := by
  intro H enc base spare held fuel cs x hx
  rcases open_slice h hx with ⟨rfl, _⟩ | ⟨a, len, cap, m, n, D, Pl, rfl, hb, hl, hm, hmm, _, hi⟩
  · exact ⟨[], ⟨none, 0, rfl, Nat.le_refl _, Kd.C_nil _ _⟩, by simp [maxLen], by simp⟩
  · have hlm : len ≤ m := by rw [hmm]; split <;> omega
    have hel : ∀ i, i < len → ∃ (y : α) (c : List Value), d.K w y c ∧ good y ∧ ∀ j u, c[j]? = some u → w.cell? (a.add (i * d.sz + j)) = some u := by
      intro i hil
      obtain ⟨cs', hcs, ht⟩ := hi i (by omega)
      obtain ⟨y, hy, hg⟩ := he H enc base spare held n cs' _ ht
      obtain ⟨_, hcl, hat⟩ := World.cells?_some hcs
      refine ⟨y, cs', hy, hg, fun j u hu => ?_⟩
      have hj : j < cs'.length := (List.getElem?_eq_some_iff.1 hu).1
      rw [← hc, ← Go.Deep.add_add, hat j (by omega), hu]
    have key : ∀ k, k ≤ len → ∃ ys : List α, ys.length = k ∧ (∀ y ∈ ys, good y) ∧ ∀ j p, ys[j]? = some p → ∃ c, c.length = d.sz ∧ d.K w p c ∧ ∀ i u, c[i]? = some u → w.cell? (a.add (j * d.sz + i)) = some u := by
      intro k
      induction k with
      | zero => intro _; exact ⟨[], rfl, by simp, by simp⟩
      | succ k ih =>
        intro hk
        obtain ⟨ys, hyl, hyg, hyc⟩ := ih (by omega)
        obtain ⟨y, c, hK, hg, hcell⟩ := hel k (by omega)
        refine ⟨ys ++ [y], by simp [hyl], ?_, ?_⟩
        · intro z hz
          rcases List.mem_append.1 hz with hz | hz
          · exact hyg z hz
          · rw [List.mem_singleton.1 hz]; exact hg
        · intro j p hj
          by_cases hjk : j < ys.length
          · rw [List.getElem?_append_left hjk] at hj
            exact hyc j p hj
          · have hj1 : j < (ys ++ [y]).length := (List.getElem?_eq_some_iff.1 hj).1
            rw [List.length_append, List.length_singleton] at hj1
            have hjl : j = ys.length := by omega
            subst hjl
            have : y = p := by simpa using hj
            subst this
            exact ⟨c, d.K_len hK, hK, by rw [hyl]; exact hcell⟩
    obtain ⟨ys, hyl, hyg, hyc⟩ := key len (Nat.le_refl _)
    subst hyl
    unfold maxLen at hm
    exact ⟨ys, ⟨some a, cap, rfl, hl, rfl, by omega, fun _ => ⟨a, rfl, hyc⟩⟩, by unfold maxLen; omega, hyg⟩
theorem Opens.struct1 {α : Type} {f : Field} {d : Kd α} {good : α → Prop} (h : P.underlying T = some (.struct #[f])) (h0 : f.offset = 0) (hc : P.cellsOf T = P.cellsOf f.type) (hd : Opens P w f.type d good) : Opens P w T d good := by
  intro H enc base spare held fuel cs x hx
  obtain ⟨xs, n, _, _, hl, hlen, hf⟩ := DataW.trod_struct h hx
  have h1 := hf 0 f rfl
  rw [h0, List.drop_zero, List.take_of_length_le (by omega)] at h1
  obtain ⟨y, hy⟩ : ∃ y, xs[0]? = some y := ⟨xs[0]'(by rw [hlen]; simp), List.getElem?_eq_getElem _⟩
  exact hd H enc base spare held n cs y (h1.trans hy)
theorem Opens.struct2 {α β : Type} {f g : Field} {d : Kd α} {e : Kd β} {good : α → Prop} {good' : β → Prop} (h : P.underlying T = some (.struct #[f, g])) (h0 : f.offset = 0) (h1 : g.offset = P.cellsOf f.type) (hc : P.cellsOf T = P.cellsOf f.type + P.cellsOf g.type)
    (hd : Opens P w f.type d good) (he : Opens P w g.type e good') : Opens P w T (Kd.pair d e) (fun x => good x.1 ∧ good' x.2) := by
  intro H enc base spare held fuel cs x hx
  obtain ⟨xs, n, _, _, hl, hlen, hf⟩ := DataW.trod_struct h hx
  have a0 := hf 0 f rfl
  have a1 := hf 1 g rfl
  rw [h0, List.drop_zero] at a0
  rw [h1, List.take_of_length_le (by rw [List.length_drop]; omega)] at a1
  obtain ⟨y, hy⟩ : ∃ y, xs[0]? = some y := ⟨xs[0]'(by rw [hlen]; simp), List.getElem?_eq_getElem _⟩
  obtain ⟨z, hz⟩ : ∃ z, xs[1]? = some z := ⟨xs[1]'(by rw [hlen]; simp), List.getElem?_eq_getElem _⟩
  obtain ⟨a, ha, hga⟩ := hd H enc base spare held n _ y (a0.trans hy)
  obtain ⟨b, hb, hgb⟩ := he H enc base spare held n _ z (a1.trans hz)
  exact ⟨(a, b), ⟨_, _, (List.take_append_drop _ _).symm, ha, hb⟩, hga, hgb⟩
variable {H : Type} {enc : TypeId × Value → H} {r : Reach} {b0 base : Nat} {spare : Nat → Bool} {held : Bool} {v : Value} {dd : DataW H} {p : List MemPlace}
theorem arg_struct {α : Type} {fs : Array Field} {d : Kd α} {good : α → Prop} (ht : P.underlying T = some (.struct fs)) (hv : Value.okWide P w r b0 T v) (hd : DataW.Trod enc P w base spare held T v dd p)
    (ho : Opens P w T d good) : ∃ cs x, v = .agg cs ∧ d.K w x cs.toList ∧ good x := by
  obtain ⟨cs, rfl, _⟩ := okWide_struct ht hv
  obtain ⟨fuel, hf⟩ := hd
  obtain ⟨x, hx, hg⟩ := ho H enc base spare held fuel _ _ hf
  exact ⟨cs, x, rfl, hx, hg⟩
theorem arg_struct1 {α : Type} {fs : Array Field} {e : TypeId} {d : Kd α} {good : List α → Prop} (ht : P.underlying T = some (.struct fs)) (hv : Value.okWide P w r b0 T v) (hd : DataW.Trod enc P w base spare held T v dd p)
    (ho : Opens P w T (Kd.slice e d) good) : ∃ A c xs, v = .agg #[.slice A xs.length c] ∧ xs.length ≤ c ∧ d.C w A xs.length xs ∧ good xs := by
  obtain ⟨cs, xs, rfl, ⟨A, c, hcs, hl, hC⟩, hg⟩ := arg_struct ht hv hd ho
  refine ⟨A, c, xs, ?_, hl, hC, hg⟩
  obtain ⟨l⟩ := cs
  simp at hcs
  rw [hcs]
end
end Go.Proofs.Ytnimcmlbjbkijaa.Open
set_option linter.unusedVariables false
namespace Go.Proofs.Ytnimcmlbjbkijaa.Base
open Go.RowKit Go.Proofs.YtnimcmlbjbkijaaW.PrintWords
variable {α β : Type}
theorem ev_pos {c : Prop} [Decidable c] {A B : Nat → Option α} {r : α} (h : c) (k : Ev A r) : Ev (fun n => if c then A n else B n) r := by
  simp only [if_pos h]; exact k
theorem ev_neg {c : Prop} [Decidable c] {A B : Nat → Option α} {r : α} (h : ¬ c) (k : Ev B r) : Ev (fun n => if c then A n else B n) r := by
  simp only [if_neg h]; exact k
theorem ev_succ {g : Nat → Option α} {r : α} (h : Ev (fun k => g (k + 1)) r) : Ev g r := by
  obtain ⟨K, h⟩ := h
  refine ⟨K + 1, fun n hn => ?_⟩
  obtain ⟨m, rfl⟩ : ∃ m, n = m + 1 := ⟨n - 1, by omega⟩
  exact h m (by omega)
theorem ev_some (r : α) : Ev (fun _ => some r) r := ⟨0, fun _ _ => rfl⟩
theorem ev_bind {g : Nat → Option α} {f : Nat → α → Option β} {a : α} {r : β} (h : Ev g a) (k : Ev (fun n => f n a) r) : Ev (fun n => (g n).bind (f n)) r := Ev.bind h k
theorem ev_bindq {o : Option α} {f : Nat → α → Option β} {a : α} {r : β} (h : o = some a) (k : Ev (fun n => f n a) r) : Ev (fun n => o.bind (f n)) r := by
  subst h; exact k
theorem ev_ex {g : Nat → Option α} {r : α} (h : Ev g r) : ∃ k, g k = some r := Ev.rounds h
theorem wrap_id {x : Int} (h0 : -9223372036854775808 ≤ x) (h1 : x ≤ 9223372036854775807) : wrap64 x = x := by
  unfold wrap64; omega
theorem wrap_up {i : Nat} (h : i < 9223372036854775807) : wrap64 ((i : Int) + 1) = ((i + 1 : Nat) : Int) := by
  unfold wrap64; omega
def cpart (z : α) (xs : List α) (i : Nat) : List α := xs.take i ++ List.replicate (xs.length - i) z
theorem cpart_zero (z : α) (xs : List α) : cpart z xs 0 = List.replicate xs.length z := by simp [cpart]
theorem cpart_end (z : α) (xs : List α) : cpart z xs xs.length = xs := by simp [cpart]
theorem cpart_length (z : α) (xs : List α) (i : Nat) (h : i ≤ xs.length) : (cpart z xs i).length = xs.length := by
  simp [cpart]; omega
theorem cpart_set (z : α) (xs : List α) (i : Nat) (h : i < xs.length) (x : α) (hx : xs[i]? = some x) : (cpart z xs i).set i x = cpart z xs (i + 1) := by
  have e : xs.length - i = (xs.length - (i + 1)) + 1 := by omega
  obtain ⟨hx', rfl⟩ := List.getElem?_eq_some_iff.1 hx
  unfold cpart
  rw [e, List.replicate_succ, List.set_append_right _ _ (by simp; omega), List.take_succ_eq_append_getElem h]
  simp only [List.length_take, Nat.min_eq_left (Nat.le_of_lt h), Nat.sub_self, List.set_cons_zero, List.append_assoc, List.singleton_append]
end Go.Proofs.Ytnimcmlbjbkijaa.Base
