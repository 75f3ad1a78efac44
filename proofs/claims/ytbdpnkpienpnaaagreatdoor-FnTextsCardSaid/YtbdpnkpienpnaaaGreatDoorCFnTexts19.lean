/- A part of the proof of the law FnTexts. -/
import Derived.Test.YtbdpnkpienpnaaaGreatDoorCFnTexts0
set_option linter.unusedVariables false
namespace Go.Proofs.YtbdpnkpienpnaaaGreatDoorW.PrintWords
open Go.RowKit Go.Proofs.YtbdpnkpienpnaaaGreatDoorW.PrintLast

theorem bq {w w' : World} {g : Nat} {o : Obj} (H : w'.heap[g]? = some o) (h : w'.heap[g]? = some o → w.heap[g]? = some o := by intro h; (with_reducible repeat (first | refine blk_drewN ?_ _ | refine blk_drew ?_ | refine blk_alloc ?_ _)); exact h) : w.heap[g]? = some o := h H
theorem rq {α : Type} {d : Kd α} {e base : Nat} {ok : Nat → Prop} {w w' : World} {v : Value} {xs : List α} (H : d.R e w' base ok v xs) (h : d.R e w' base ok v xs → d.R e w base ok v xs := by intro h; (with_reducible repeat (first | apply Kd.R_alloc | apply Kd.R_drewN | apply Kd.R_drew)); exact h) : d.R e w base ok v xs := h H
theorem hq {B : Nat} {w W W' : World} (H : Below B w W') (h : Below B w W' → Below B w W := by intro h; (repeat (with_reducible first | exact h | apply below_alloc | apply pw_below_drewN | apply below_drew1)); (try exact h)) : Below B w W := h H
theorem kq {w W W' : World} {g : Nat} {row : Option Nat} (H : KeepBut w W' g row) (h : KeepBut w W' g row → KeepBut w W g row := by intro h; (repeat (with_reducible first | exact h | apply KeepBut.set_ | apply keep_drewN | apply keep_drew | apply keep_alloc)); (try exact h)) : KeepBut w W g row := h H
theorem cq {α : Type} {d : Kd α} {w w' : World} {A : Option Addr} {n : Nat} {xs : List α} (H : d.C w' A n xs) (h : d.C w' A n xs → d.C w A n xs := by intro h; (repeat (first | (with_reducible refine Kd.C_alloc ?_ _) | (with_reducible refine Kd.C_drewN ?_ _) | (with_reducible refine Kd.C_drew ?_))); exact h) : d.C w A n xs := h H
theorem hs {B : Nat} {w W W' : World} (H : Below B w W') (h : Below B w W' → Below B w W := by intro h; repeat (with_reducible first | exact h | apply below_alloc | apply pw_below_drewN | apply below_drew1 | refine below_set ?_ (Aside0.out (by assumption)))) : Below B w W := h H
theorem hsk {B C g : Nat} {w W W' : World} (H : Below B w W') (K : C ≤ g) (h : Below B w W' → C ≤ g → Below B w W := by intro h k; repeat (with_reducible first | exact h | apply below_alloc | apply pw_below_drewN | apply below_drew1 | refine below_set ?_ k | refine below_set ?_ (Aside0.out (by assumption)))) : Below B w W := h H K
theorem ks {w W W' : World} {g : Nat} {row : Option Nat} (H : KeepBut w W' g row) (h : KeepBut w W' g row → KeepBut w W g row := by intro h; repeat (with_reducible first | exact h | apply KeepBut.set_ | apply keep_drewN | apply keep_drew | apply keep_alloc | refine keep_far ?_ (Aside0.out (by assumption)) _)) : KeepBut w W g row := h H
theorem rb {α : Type} {d : Kd α} {e base : Nat} {ok : Nat → Prop} {w w' W : World} {v : Value} {xs : List α} (H : Aside0 (d.R e w' base ok v xs)) (hb : Below w.heap.size w W) (h : d.R e w' base ok v xs → d.R e w base ok v xs := by intro h; (with_reducible repeat (first | apply Kd.R_alloc | apply Kd.R_drewN | apply Kd.R_drew)); exact h) : Aside0 (d.R e W base ok v xs) := ⟨Kd.R_below (h H.out) hb⟩
theorem bb {w w' W : World} {g : Nat} {o : Obj} (H : Aside0 (w'.heap[g]? = some o)) (hb : Below w.heap.size w W) (h : w'.heap[g]? = some o → w.heap[g]? = some o := by intro h; (with_reducible repeat (first | refine blk_drewN ?_ _ | refine blk_drew ?_ | refine blk_alloc ?_ _)); exact h) : Aside0 (W.heap[g]? = some o) := ⟨blk_below (h H.out) hb⟩
theorem sb {w W' W W2 : World} (H : Aside0 (Below w.heap.size w W')) (hb : Below W.heap.size W W2) (h : Below w.heap.size w W' → Below w.heap.size w W := by intro h; repeat (with_reducible first | exact h | apply below_alloc | apply pw_below_drewN | apply below_drew1 | refine below_set ?_ (Aside0.out (by assumption)))) : Aside0 (Below w.heap.size w W2) := ⟨below_step (h H.out) hb⟩
theorem am {p : Prop} (h : p) : Aside0 p := ⟨h⟩
theorem bz {g : Nat} {w W : World} (hg : g = W.heap.size) (h : Below w.heap.size w W) : w.heap.size ≤ g := by rw [hg]; exact below_size h
theorem lsp : (∀ {α : Type} (l : List α) (i : Nat) (a : α), l.toArray.setIfInBounds i a = (l.set i a).toArray) ∧ (∀ {α : Type} {x : α} {xs : List α} {a : α}, (x :: xs).set 0 a = a :: xs) ∧ (∀ {α : Type} {x : α} {xs : List α} {i : Nat} {a : α}, (x :: xs).set (i + 1) a = x :: xs.set i a) :=
 ⟨fun l i a => List.setIfInBounds_toArray l i a, fun {_ _ _ _} => List.set_cons_zero, fun {_ _ _ _ _} => List.set_cons_succ⟩
theorem er {α : Sort _} {a b : α} (h : a = b := by first | rfl | (simp [errW_none, errW_some] <;> rfl) | (simp [*, errW_none, errW_some] <;> rfl)) : a = b := h
theorem et {α : Sort _} {a b : α} (h : a = b := by first | rfl | (simp; done) | (simp [*]; done)) : a = b := h
theorem od {p : Prop} [Decidable p] (h : decide p = true := by first | (with_reducible assumption) | assumption) : p := of_decide_eq_true h
theorem cz {w w1 : World} (h : Below w.heap.size w w1) {p : Addr} {v : Value} (hx : w.cell? p = some v) : w1.cell? p = some v := (h.cell (World.block_lt_of_cell? w _ hx)).trans hx
theorem ob {α β : Type} {o : Option α} {f : α → Option β} {r : β} (h : o.bind f = some r) : ∃ a, Aside0 (o = some a) ∧ f a = some r := by
 obtain ⟨a, h1, h2⟩ := Option.bind_eq_some_iff.mp h
 exact ⟨a, ⟨h1⟩, h2⟩
theorem ifs {α : Type} {c : Prop} [Decidable c] {x : Option α} {r : α} (h : (if c then x else none) = some r) : c ∧ x = some r := by
 by_cases hc : c
 ·rw [if_pos hc] at h; exact ⟨hc, h⟩
 ·rw [if_neg hc] at h; cases h
theorem ife {α : Type} {c : Prop} [Decidable c] {x : Option α} {r : α} (h : (if c then x else none) = some r) : decide c = true ∧ x = some r := ⟨decide_eq_true (ifs h).1, (ifs h).2⟩
theorem ifd {α : Type} {c : Prop} [Decidable c] {x : Option α} {r : α} (h : (if c then x else none) = some r) : c = True ∧ decide c = true ∧ x = some r := ⟨eq_true (ifs h).1, decide_eq_true (ifs h).1, (ifs h).2⟩
theorem bqt {α : Type} [BEq α] [LawfulBEq α] {a b : α} (h : a = b) : (a == b) = true ∧ (a != b) = false := ⟨beq_iff_eq.mpr h, bne_eq_false_iff_eq.mpr h⟩
theorem bqf {α : Type} [BEq α] [LawfulBEq α] {a b : α} (h : ¬ a = b) : (a == b) = false ∧ (a != b) = true := ⟨beq_eq_false_iff_ne.mpr h, bne_iff_ne.mpr h⟩
theorem nl {w w' : World} {g g' : Nat} {o : Obj} (hg : g' = w.heap.size) (H : Aside0 (w'.heap[g]? = some o)) (h : w'.heap[g]? = some o → w.heap[g]? = some o := by intro h; (with_reducible repeat (first | refine blk_drewN ?_ _ | refine blk_drew ?_ | refine blk_alloc ?_ _)); exact h) : Aside0 (g ≠ g') := ⟨by rw [hg]; exact Nat.ne_of_lt (blk_lt (h H.out))⟩
theorem ng {w w' : World} {g g' : Nat} {o : Obj} (hg : g' = w.heap.size) (H : Aside0 (w'.heap[g]? = some o)) (h : w'.heap[g]? = some o → w.heap[g]? = some o := by intro h; (with_reducible repeat (first | refine blk_drewN ?_ _ | refine blk_drew ?_ | refine blk_alloc ?_ _)); exact h) : Aside0 (g' ≠ g) := ⟨(nl hg H h).out.symm⟩
theorem vq {α : Type} {d : Kd α} {e base : Nat} {ok : Nat → Prop} {w w' : World} {v : Value} {xs : List α} (H : d.V e w' base ok v xs) (h : d.V e w' base ok v xs → d.V e w base ok v xs := by intro h; (with_reducible repeat (first | apply Kd.V_alloc | apply Kd.V_drewN | apply Kd.V_drew)); exact h) : d.V e w base ok v xs := h H
theorem kb {w w' W : World} {g g' : Nat} {o : Obj} (hk : KeepBut w W g none) (H : Aside0 (w'.heap[g']? = some o)) (hne : Aside0 (g' ≠ g)) (h : w'.heap[g']? = some o → w.heap[g']? = some o := by intro h; (with_reducible repeat (first | refine blk_drewN ?_ _ | refine blk_drew ?_ | refine blk_alloc ?_ _)); exact h) : Aside0 (W.heap[g']? = some o) := ⟨KeepBut.blk hk (h H.out) hne.out (by simp)⟩
theorem bs {α β : Type} {a : α} {f : α → Option β} {r : β} (h : (some a).bind f = some r) : f a = some r := h
theorem ee {p q : Prop} (h : p) (k : q) : (p = True) ∧ (q = True) := ⟨eq_true h, eq_true k⟩
theorem bf {w w' : World} {g : Nat} {o : Obj} (H : w'.heap[g]? = some o) (h : w'.heap[g]? = some o → w.heap[g]? = some o := by intro h; (with_reducible repeat (first | exact h | refine blk_drewN ?_ _ | refine blk_drew ?_ | refine blk_alloc ?_ _ | refine blk_far ?_ (Aside0.out (by assumption)) _))) : w.heap[g]? = some o := h H
theorem kt {w0 w w' W : World} {g : Nat} {row : Option Nat} (H : Aside0 (KeepBut w0 w' g row)) (hk : KeepBut w W g row) (h : KeepBut w0 w' g row → KeepBut w0 w g row := by intro h; (repeat (with_reducible first | exact h | apply KeepBut.set_ | apply keep_drewN | apply keep_drew | apply keep_alloc | refine keep_far ?_ (Aside0.out (by assumption)) _)); (try exact h)) : Aside0 (KeepBut w0 W g row) := ⟨KeepBut.trans (h H.out) hk (.inl rfl)⟩
theorem ku {w0 w w' W : World} {g : Nat} (H : Aside0 (KeepBut w0 w' g none)) (hb : Below w.heap.size w W) (h : KeepBut w0 w' g none → KeepBut w0 w g none := by intro h; (repeat (with_reducible first | exact h | apply KeepBut.set_ | apply keep_drewN | apply keep_drew | apply keep_alloc | refine keep_far ?_ (Aside0.out (by assumption)) _)); (try exact h)) : Aside0 (KeepBut w0 W g none) := ⟨KeepBut.trans (h H.out) (KeepBut.of_below hb g none) (.inl rfl)⟩
theorem dn {w w' : World} (h : Drawn0 w w' := by repeat (first | exact Drawn0.refl _ | apply Drawn0.step)) : Drawn0 w w' := h
theorem sj {w : World} {p : Addr} {A B : Option Addr} {n m c d : Nat} (h1 : w.cell? p = some (.slice A n c)) (h2 : w.cell? p = some (.slice B m d)) : A = B ∧ c = d := by
 injection h1.symm.trans h2 with e
 injection e with e1 _ e2
 exact ⟨e1, e2⟩
theorem c0_ {w : World} {g : Nat} {t : TypeId} {a : Value} {l : List Value} (H : Aside0 (w.heap[g]? = some (.cells (a :: l).toArray t (0, 0)))) : w.cell? ⟨g, 0, none⟩ = some a := (blk_cell H.out 0).trans rfl
theorem c1_ {w : World} {g : Nat} {t : TypeId} {a b : Value} {l : List Value} (H : Aside0 (w.heap[g]? = some (.cells (a :: b :: l).toArray t (0, 0)))) : w.cell? ⟨g, 1, none⟩ = some b := (blk_cell H.out 1).trans rfl
theorem t0_ : ((0 : Int).toNat = 0) ∧ (∀ a : Nat, 0 * a = 0) ∧ (∀ a : Addr, a.add 0 = a) := ⟨rfl, Nat.zero_mul, Addr.add_zero'⟩
theorem lo {a b : Nat} (h : a ≤ b := by first | omega | exact Nat.le_refl _) : Aside0 (a ≤ b) := ⟨h⟩
theorem ab {a b g : Nat} (X : a ≠ g) (h : a ≠ g → b ≠ g := by intro h; first | exact h | (rw [add_block]; exact h) | (show (Addr.add _ _).block ≠ _; rw [add_block]; exact h) | (dsimp only; exact h)) : b ≠ g := h X
theorem ac {w : World} {p : Addr} {v : Value} {b g : Nat} (hw : w.cell? p = some v) (G : Aside0 (w.heap.size ≤ g)) (h : p.block ≠ g → b ≠ g := by intro h; first | exact h | (rw [add_block] at h; first | exact h | (rw [add_block]; exact h) | (show (Addr.add _ _).block ≠ _; rw [add_block]; exact h) | (dsimp only; exact h)) | (rw [add_block]; exact h) | (dsimp only; exact h) | (dsimp only at h; first | exact h | (rw [add_block] at h; exact h))) : b ≠ g := h (Nat.ne_of_lt (Nat.lt_of_lt_of_le (World.block_lt_of_cell? _ _ hw) G.out))
theorem st_ {P : Program} {ops : Array Oper} {Q : Exit → Act → World → Prop} {S : World → Prop} {ds : List Nat} {id n : Nat} {a : Act} {w : World} {l : Array Bool} (hS : S w.drew) (h : S w.drew → wpAnyLast P .any ops Q S ds n l a w.drew)
  (hl : (List.replicate n false).toArray = l := by simp only [List.replicate]; rfl) (hm : P.follows .mixedOrders = true := by kernel_rfl) (hn : ops.size = n := by rfl) : (Code.region id ops true).wp P Q a w :=
 start_ l hm hn (by rw [← hl]; simp) hS h
theorem nn {a b : Nat} (h : Aside0 (a ≠ b)) : a ≠ b ∧ b ≠ a := ⟨h.out, h.out.symm⟩
theorem reps_ints {K : IntKind} {w : World} {base : Nat} {okp : Nat → Prop} : ∀ xs : List Int, Reps ((Kd.int K).M w base okp) (Kd.int K).sz xs (xs.map (Value.int K))
 | [] => Reps.none _ _
 | x :: xs => Reps.one (show Kd.M (Kd.int K) _ _ _ x [.int K x] from rfl) (reps_ints xs)
section
variable {P : Program} {ops : Array Oper} {Q : Exit → Act → World → Prop} {md : Region.Mode} {S : World → Prop} {ds : List Nat} {T : Bool × List (List Nat × List Nat)} {B : List Nat} {oi oj : Oper} {v : Value} {fuel : Nat} {l l' lj : Array Bool} {a a' : Act} {w : World}
theorem pu (i N : Nat) (hi : ops[i]? = some oi) (hN : oi.dst = some N) (hT : Aside0 (rtab md ops = T)) (h : wpAnyLast P md ops Q S ds fuel l' a' w)
  (hl : l.setIfInBounds i true = l' := by simp only [List.setIfInBounds_toArray, List.set_cons_zero, List.set_cons_succ]; rfl) (hc : anyT T l.toList l'.toList i = true := by kernel_rfl) (hQ : ∀ c a w, Q (.panic c) (a.put oi.dst v) w → Q (.panic c) a w := by exact fun _ _ _ h => h)
  (hw : Region.wanted oi (yielded ops a.tmps) = true := by rfl) (hy : ∀ w', (execOp a.eval oi).run P w' = .ok (.value v) w' := by intro w'; go_simp; with_reducible rfl)
  (ha : a.put (some N) v = a' := by simp only [Act.put, List.setIfInBounds_toArray, List.set_cons_zero, List.set_cons_succ, i64_w, i32_w]; rfl) : wpAnyLast P md ops Q S ds (fuel + 1) l a w :=
 pure_ l' hi hN (any_of hT.out hc) hQ (.inl ⟨hw, hy⟩) ha h
theorem pz (i N : Nat) (hi : ops[i]? = some oi) (hN : oi.dst = some N) (hT : Aside0 (rtab md ops = T)) (h : wpAnyLast P md ops Q S ds fuel l' a' w)
  (hl : l.setIfInBounds i true = l' := by simp only [List.setIfInBounds_toArray, List.set_cons_zero, List.set_cons_succ]; rfl) (hc : anyT T l.toList l'.toList i = true := by kernel_rfl) (hQ : ∀ c a w, Q (.panic c) (a.put oi.dst undef) w → Q (.panic c) a w := by exact fun _ _ _ h => h)
  (hw : Region.wanted oi (yielded ops a.tmps) = false := by rfl)
  (ha : a.put (some N) undef = a' := by simp only [Act.put, List.setIfInBounds_toArray, List.set_cons_zero, List.set_cons_succ, i64_w, i32_w]; rfl) : wpAnyLast P md ops Q S ds (fuel + 1) l a w :=
 pure_ l' hi hN (any_of hT.out hc) hQ (.inr ⟨hw, rfl⟩) ha h
theorem tk (i N : Nat) (hi : ops[i]? = some oi) (hN : oi.dst = some N) (hT : Aside0 (rtab md ops = T)) (hB : Aside0 (waitsOk T.2 B = true)) (hS : S w) (h : wpAnyLast P md ops Q S ds fuel l' a' w)
  (hl : l.setIfInBounds i true = l' := by simp only [List.setIfInBounds_toArray, List.set_cons_zero, List.set_cons_succ]; rfl) (hc : takeW T B ds l.toList l'.toList i = true := by kernel_rfl) (hQ : ∀ c a w, Q (.panic c) (a.put oi.dst v) w → Q (.panic c) a w := by exact fun _ _ _ h => h)
  (hw : Region.wanted oi (yielded ops a.tmps) = true := by rfl) (hy : ∀ w', S w' → (execOp a.eval oi).run P w' = .ok (.value v) w' := by intro w' s_; (try dsimp only at s_); (repeat (obtain ⟨_, s_⟩ := s_)); go_simp; with_reducible rfl)
  (ha : a.put (some N) v = a' := by simp only [Act.put, List.setIfInBounds_toArray, List.set_cons_zero, List.set_cons_succ, i64_w, i32_w]; rfl) : wpAnyLast P md ops Q S ds (fuel + 1) l a w :=
 take_ l' hi hN (take_ofW hT.out hB.out hc) hQ (.inl ⟨hw, hy⟩) hS ha h
theorem on_ (i : Nat) (N : Option Tmp) (hi : ops[i]? = some oi) (hN : oi.dst = N) (hT : Aside0 (rtab md ops = T))
  (h : ∀ K : Act → World → Prop, Shut (∀ a' w', S w' → (S w' → wpAnyLast P md ops Q S ds fuel l' a' w') → K a' w') → if Region.wanted oi (yielded ops a.tmps) = true then Oper.wp P oi a w K Q else K (a.put N undef) w)
  (hl : l.setIfInBounds i true = l' := by simp only [List.setIfInBounds_toArray, List.set_cons_zero, List.set_cons_succ]; rfl) (hc : (readyT T.2 l.toList == [i] && l.toList.set i true == l'.toList) = true := by kernel_rfl) (hd : i ∉ ds := by decide) : wpAnyLast P md ops Q S ds (fuel + 1) l a w :=
 one_ l' hi hN (one_of hT.out hc) hd h
theorem nr (N : Option Tmp) (h : wpAnyLast P md ops Q S ds fuel l a' w) (ha : a.put N v = a' := by simp only [Act.put, List.setIfInBounds_toArray, List.set_cons_zero, List.set_cons_succ, i64_w, i32_w]; rfl) : wpAnyLast P md ops Q S ds fuel l (a.put N v) w := norm_ ha h
theorem nj (h : wpAnyLast P md ops Q S ds fuel l a' w) (ha : a = a' := by first | (simp only [putAll, Act.put, List.setIfInBounds_toArray, List.set_cons_zero, List.set_cons_succ]; done) | (simp only [putAll, Act.put, List.setIfInBounds_toArray, List.set_cons_zero, List.set_cons_succ]; rfl)) : wpAnyLast P md ops Q S ds fuel l a w := norm_ ha h
theorem gs {N : Option Tmp} {K : Act → World → Prop} {f : FuncId} {fn : Func} {as : Array Operand} {ts : Array TypeId} (hf : P.funcs[f]? = some fn) (args : Array Value) (h : Calls P f args w fun e w' => ∃ v, e = .returned v ∧ K (a.put N v) w')
  (hn : (fn.name == "runtime.NumGoroutine") = false := by kernel_rfl) (hb : fn.body.isSome = true := by rfl) (hw : Region.wanted oi (yielded ops a.tmps) = true := by rfl) (hN : oi.dst = N := by rfl) (hop : oi.op = .call { callee := .value (.func f), args := as, argTypes := ts } := by rfl)
  (hargs : as.map a.eval = args := by ((try simp only [List.map_toArray, List.map_cons, List.map_nil]); first | done | rfl | (simp only [List.length_drop, List.length_take]; rfl))) : if Region.wanted oi (yielded ops a.tmps) = true then Oper.wp P oi a w K Q else K (a.put N undef) w :=
 goes_ hf hn hb args hw hN hop hargs h
theorem gl {rest : List Oper} (N : Option Tmp) {f : FuncId} {fn : Func} {as : Array Operand} {ts : Array TypeId} (hf : P.funcs[f]? = some fn) (hop : oi.op = .call { callee := .value (.func f), args := as, argTypes := ts }) (args : Array Value)
  (h : Calls P f args w fun e w' => ∃ v, e = .returned v ∧ wpList P ops Q rest (a.put N v) w') (hd : oi.dst = N := by rfl) (hg : oi.guard = none := by rfl) (hn : (fn.name == "runtime.NumGoroutine") = false := by kernel_rfl) (hb : fn.body.isSome = true := by rfl)
  (hargs : as.map a.eval = args := by ((try simp only [List.map_toArray, List.map_cons, List.map_nil]); first | done | rfl | (simp only [List.length_drop, List.length_take]; rfl))) : wpList P ops Q (oi :: rest) a w :=
 goesL_ N hd hg hf hn hb args hop hargs h
theorem bx {rest : List Oper} {W : World} (N : Nat) (hd : oi.dst = some N) (cs : Array Value) (t : TypeId)
  (h : ∀ g, g = W.heap.size → ∀ w1, w1.heap[g]? = some (.cells cs t (0, 0)) → Below W.heap.size W w1 → wpList P ops Q rest (a.put oi.dst (.pointer (some ⟨g, 0, none⟩))) w1)
  (hg : oi.guard = none := by rfl) (hr : (execOp a.eval oi).run P W = .ok (.value (.pointer (some ⟨W.heap.size, 0, none⟩))) (W.alloc (.cells cs t (0, 0))) := by first | (go_simp; done) | (go_simp; rfl)) : wpList P ops Q (oi :: rest) a W :=
 box_event hg hd hr h
theorem rl {rest : List Oper} {W : World} (N : Nat) (hd : oi.dst = some N) (e : Nat) (xs : List Int)
  (h : ∀ v1 w1, (Kd.int .i64).R e w1 W.heap.size (fun _ => True) v1 xs → Below W.heap.size W w1 → W.grownBy w1 none → (∃ b, v1.ownBlock = some b ∧ W.heap.size ≤ b) → wpList P ops Q rest (a.put oi.dst v1) w1)
  (hg : oi.guard = none := by rfl) (hr : (execOp a.eval oi).run P W = .ok (.value (.slice (some ⟨W.heap.size, 0, none⟩) xs.length xs.length)) (W.alloc (.cells (xs.map (Value.int .i64)).toArray e)) := by (simp only [List.map_cons, List.map_nil]); first | (go_simp; done) | (go_simp; rfl)) (hm : xs.length ≤ 9223372036854775807 := by simp) : wpList P ops Q (oi :: rest) a W :=
 Kd.R_lit (Kd.int .i64) W.heap.size e hg hd hr (reps_ints xs) (okp := fun _ => True) (fun _ hk => hk) trivial (Below.refl _ _) (Nat.le_refl _) hm h
end
end Go.Proofs.YtbdpnkpienpnaaaGreatDoorW.PrintWords

