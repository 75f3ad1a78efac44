/- A part of the proof of the law FnPlain. -/
import Derived.Test.YtbdpnkpienpnaaaGreatDoorCFnPlain0
set_option linter.unusedVariables false
namespace Go.Proofs.YtbdpnkpienpnaaaGreatDoorW.PrintWords
open Go.RowKit Go.Proofs.YtbdpnkpienpnaaaGreatDoorW.PrintLast

theorem bq {w w' : World} {g : Nat} {o : Obj} (H : w'.heap[g]? = some o) (h : w'.heap[g]? = some o → w.heap[g]? = some o := by intro h; (with_reducible repeat (first | refine Am7 ?_ _ | refine Ad0 ?_ | refine Al5 ?_ _)); exact h) : w.heap[g]? = some o := h H
theorem rq {α : Type} {d : Kd α} {e base : Nat} {ok : Nat → Prop} {w w' : World} {v : Value} {xs : List α} (H : d.R e w' base ok v xs) (h : d.R e w' base ok v xs → d.R e w base ok v xs := by intro h; (with_reducible repeat (first | apply Kd.R_alloc | apply Kd.R_drewN | apply Kd.R_drew)); exact h) : d.R e w base ok v xs := h H
theorem hq {B : Nat} {w W W' : World} (H : Below B w W') (h : Below B w W' → Below B w W := by intro h; (repeat (with_reducible first | exact h | apply Ab6 | apply Ab1 | apply Ab3)); (try exact h)) : Below B w W := h H
theorem kq {w W W' : World} {g : Nat} {row : Option Nat} (H : Aa3 w W' g row) (h : Aa3 w W' g row → Aa3 w W g row := by intro h; (repeat (with_reducible first | exact h | apply Aa3.set_ | apply Ac0 | apply Ac4 | apply Ac1)); (try exact h)) : Aa3 w W g row := h H
theorem cq {α : Type} {d : Kd α} {w w' : World} {A : Option Addr} {n : Nat} {xs : List α} (H : d.C w' A n xs) (h : d.C w' A n xs → d.C w A n xs := by intro h; (repeat (first | (with_reducible refine Kd.C_alloc ?_ _) | (with_reducible refine Kd.C_drewN ?_ _) | (with_reducible refine Kd.C_drew ?_))); exact h) : d.C w A n xs := h H
theorem hs {B : Nat} {w W W' : World} (H : Below B w W') (h : Below B w W' → Below B w W := by intro h; repeat (with_reducible first | exact h | apply Ab6 | apply Ab1 | apply Ab3 | refine Ac2 ?_ (Aside0.out (by assumption)))) : Below B w W := h H
theorem hsk {B C g : Nat} {w W W' : World} (H : Below B w W') (K : C ≤ g) (h : Below B w W' → C ≤ g → Below B w W := by intro h k; repeat (with_reducible first | exact h | apply Ab6 | apply Ab1 | apply Ab3 | refine Ac2 ?_ k | refine Ac2 ?_ (Aside0.out (by assumption)))) : Below B w W := h H K
theorem ks {w W W' : World} {g : Nat} {row : Option Nat} (H : Aa3 w W' g row) (h : Aa3 w W' g row → Aa3 w W g row := by intro h; repeat (with_reducible first | exact h | apply Aa3.set_ | apply Ac0 | apply Ac4 | apply Ac1 | refine keep_far ?_ (Aside0.out (by assumption)) _)) : Aa3 w W g row := h H
theorem rb {α : Type} {d : Kd α} {e base : Nat} {ok : Nat → Prop} {w w' W : World} {v : Value} {xs : List α} (H : Aside0 (d.R e w' base ok v xs)) (hb : Below w.heap.size w W) (h : d.R e w' base ok v xs → d.R e w base ok v xs := by intro h; (with_reducible repeat (first | apply Kd.R_alloc | apply Kd.R_drewN | apply Kd.R_drew)); exact h) : Aside0 (d.R e W base ok v xs) := ⟨Kd.R_below (h H.out) hb⟩
theorem bb {w w' W : World} {g : Nat} {o : Obj} (H : Aside0 (w'.heap[g]? = some o)) (hb : Below w.heap.size w W) (h : w'.heap[g]? = some o → w.heap[g]? = some o := by intro h; (with_reducible repeat (first | refine Am7 ?_ _ | refine Ad0 ?_ | refine Al5 ?_ _)); exact h) : Aside0 (W.heap[g]? = some o) := ⟨Ab5 (h H.out) hb⟩
theorem sb {w W' W W2 : World} (H : Aside0 (Below w.heap.size w W')) (hb : Below W.heap.size W W2) (h : Below w.heap.size w W' → Below w.heap.size w W := by intro h; repeat (with_reducible first | exact h | apply Ab6 | apply Ab1 | apply Ab3 | refine Ac2 ?_ (Aside0.out (by assumption)))) : Aside0 (Below w.heap.size w W2) := ⟨Ab8 (h H.out) hb⟩
theorem am {p : Prop} (h : p) : Aside0 p := ⟨h⟩
theorem bz {g : Nat} {w W : World} (hg : g = W.heap.size) (h : Below w.heap.size w W) : w.heap.size ≤ g := by rw [hg]; exact Aa8 h
theorem lsp : (∀ {α : Type} (l : List α) (i : Nat) (a : α), l.toArray.setIfInBounds i a = (l.set i a).toArray) ∧ (∀ {α : Type} {x : α} {xs : List α} {a : α}, (x :: xs).set 0 a = a :: xs) ∧ (∀ {α : Type} {x : α} {xs : List α} {i : Nat} {a : α}, (x :: xs).set (i + 1) a = x :: xs.set i a) :=
 ⟨fun l i a => List.setIfInBounds_toArray l i a, fun {_ _ _ _} => List.set_cons_zero, fun {_ _ _ _ _} => List.set_cons_succ⟩
theorem er {α : Sort _} {a b : α} (h : a = b := by first | rfl | (simp [Ad4, Ad3] <;> rfl) | (simp [*, Ad4, Ad3] <;> rfl)) : a = b := h
theorem et {α : Sort _} {a b : α} (h : a = b := by first | rfl | (simp; done) | (simp [*]; done)) : a = b := h
theorem od {p : Prop} [Decidable p] (h : decide p = true := by first | (with_reducible assumption) | assumption) : p := of_decide_eq_true h
theorem cz {w w1 : World} (h : Below w.heap.size w w1) {p : Addr} {v : Value} (hx : w.cell? p = some v) : w1.cell? p = some v := (h.cell (World.block_lt_of_cell? w _ hx)).trans hx
theorem ob {α β : Type} {o : Option α} {f : α → Option β} {r : β} (h : o.bind f = some r) : ∃ a, Aside0 (o = some a) ∧ f a = some r := by
 obtain ⟨a, h1, h2⟩ := Option.bind_eq_some_iff.mp h
 exact ⟨a, ⟨h1⟩, h2⟩
theorem ifs {α : Type} {c : Prop} [Decidable c] {x : Option α} {r : α} (h : (if c then x else none) = some r) : c ∧ x = some r := by
 by_cases hc : c
 ·rw [if_pos hc] at h; exact ⟨hc, h⟩
 ·rw [if_neg hc] at h; cases h
theorem ife {α : Type} {c : Prop} [Decidable c] {x : Option α} {r : α} (h : (if c then x else none) = some r) : decide c = true ∧ x = some r := ⟨decide_eq_true (ifs h).1, (ifs h).2⟩
theorem ifd {α : Type} {c : Prop} [Decidable c] {x : Option α} {r : α} (h : (if c then x else none) = some r) : c = True ∧ decide c = true ∧ x = some r := ⟨eq_true (ifs h).1, decide_eq_true (ifs h).1, (ifs h).2⟩
theorem bqt {α : Type} [BEq α] [LawfulBEq α] {a b : α} (h : a = b) : (a == b) = true ∧ (a != b) = false := ⟨beq_iff_eq.mpr h, bne_eq_false_iff_eq.mpr h⟩
theorem bqf {α : Type} [BEq α] [LawfulBEq α] {a b : α} (h : ¬ a = b) : (a == b) = false ∧ (a != b) = true := ⟨beq_eq_false_iff_ne.mpr h, bne_iff_ne.mpr h⟩
theorem nl {w w' : World} {g g' : Nat} {o : Obj} (hg : g' = w.heap.size) (H : Aside0 (w'.heap[g]? = some o)) (h : w'.heap[g]? = some o → w.heap[g]? = some o := by intro h; (with_reducible repeat (first | refine Am7 ?_ _ | refine Ad0 ?_ | refine Al5 ?_ _)); exact h) : Aside0 (g ≠ g') := ⟨by rw [hg]; exact Nat.ne_of_lt (Ad1 (h H.out))⟩
theorem ng {w w' : World} {g g' : Nat} {o : Obj} (hg : g' = w.heap.size) (H : Aside0 (w'.heap[g]? = some o)) (h : w'.heap[g]? = some o → w.heap[g]? = some o := by intro h; (with_reducible repeat (first | refine Am7 ?_ _ | refine Ad0 ?_ | refine Al5 ?_ _)); exact h) : Aside0 (g' ≠ g) := ⟨(nl hg H h).out.symm⟩
theorem vq {α : Type} {d : Kd α} {e base : Nat} {ok : Nat → Prop} {w w' : World} {v : Value} {xs : List α} (H : d.V e w' base ok v xs) (h : d.V e w' base ok v xs → d.V e w base ok v xs := by intro h; (with_reducible repeat (first | apply Kd.V_alloc | apply Kd.V_drewN | apply Kd.V_drew)); exact h) : d.V e w base ok v xs := h H
theorem kb {w w' W : World} {g g' : Nat} {o : Obj} (hk : Aa3 w W g none) (H : Aside0 (w'.heap[g']? = some o)) (hne : Aside0 (g' ≠ g)) (h : w'.heap[g']? = some o → w.heap[g']? = some o := by intro h; (with_reducible repeat (first | refine Am7 ?_ _ | refine Ad0 ?_ | refine Al5 ?_ _)); exact h) : Aside0 (W.heap[g']? = some o) := ⟨Aa3.blk hk (h H.out) hne.out (by simp)⟩
theorem reps_ints {K : IntKind} {w : World} {base : Nat} {okp : Nat → Prop} : ∀ xs : List Int, Ad5 ((Kd.int K).M w base okp) (Kd.int K).sz xs (xs.map (Value.int K))
 | [] => Ad5.none _ _
 | x :: xs => Ad5.one (show Kd.M (Kd.int K) _ _ _ x [.int K x] from rfl) (reps_ints xs)
section
variable {P : Program} {ops : Array Oper} {Q : Exit → Act → World → Prop} {md : Region.Mode} {S : World → Prop} {ds : List Nat} {T : Bool × List (List Nat × List Nat)} {B : List Nat} {oi oj : Oper} {v : Value} {fuel : Nat} {l l' lj : Array Bool} {a a' : Act} {w : World}
theorem pu (i N : Nat) (hi : ops[i]? = some oi) (hN : oi.dst = some N) (hT : Aside0 (Am6 md ops = T)) (h : Ac7 P md ops Q S ds fuel l' a' w)
  (hl : l.setIfInBounds i true = l' := by simp only [List.setIfInBounds_toArray, List.set_cons_zero, List.set_cons_succ]; rfl) (hc : Ay8 T l.toList l'.toList i = true := by kernel_rfl) (hQ : ∀ c a w, Q (.panic c) (a.put oi.dst v) w → Q (.panic c) a w := by exact fun _ _ _ h => h)
  (hw : Region.wanted oi (yielded ops a.tmps) = true := by rfl) (hy : ∀ w', (execOp a.eval oi).run P w' = .ok (.value v) w' := by intro w'; go_simp; with_reducible rfl)
  (ha : a.put (some N) v = a' := by simp only [Act.put, List.setIfInBounds_toArray, List.set_cons_zero, List.set_cons_succ, Ag7, Ah2]; rfl) : Ac7 P md ops Q S ds (fuel + 1) l a w :=
 Av3 l' hi hN (any_of hT.out hc) hQ (.inl ⟨hw, hy⟩) ha h
theorem tk (i N : Nat) (hi : ops[i]? = some oi) (hN : oi.dst = some N) (hT : Aside0 (Am6 md ops = T)) (hB : Aside0 (Ai2 T.2 B = true)) (hS : S w) (h : Ac7 P md ops Q S ds fuel l' a' w)
  (hl : l.setIfInBounds i true = l' := by simp only [List.setIfInBounds_toArray, List.set_cons_zero, List.set_cons_succ]; rfl) (hc : Ax5 T B ds l.toList l'.toList i = true := by kernel_rfl) (hQ : ∀ c a w, Q (.panic c) (a.put oi.dst v) w → Q (.panic c) a w := by exact fun _ _ _ h => h)
  (hw : Region.wanted oi (yielded ops a.tmps) = true := by rfl) (hy : ∀ w', S w' → (execOp a.eval oi).run P w' = .ok (.value v) w' := by intro w' s_; (try dsimp only at s_); (repeat (obtain ⟨_, s_⟩ := s_)); go_simp; with_reducible rfl)
  (ha : a.put (some N) v = a' := by simp only [Act.put, List.setIfInBounds_toArray, List.set_cons_zero, List.set_cons_succ, Ag7, Ah2]; rfl) : Ac7 P md ops Q S ds (fuel + 1) l a w :=
 take_ l' hi hN (take_ofW hT.out hB.out hc) hQ (.inl ⟨hw, hy⟩) hS ha h
theorem on_ (i : Nat) (N : Option Tmp) (hi : ops[i]? = some oi) (hN : oi.dst = N) (hT : Aside0 (Am6 md ops = T))
  (h : ∀ K : Act → World → Prop, Shut (∀ a' w', S w' → (S w' → Ac7 P md ops Q S ds fuel l' a' w') → K a' w') → if Region.wanted oi (yielded ops a.tmps) = true then Oper.wp P oi a w K Q else K (a.put N undef) w)
  (hl : l.setIfInBounds i true = l' := by simp only [List.setIfInBounds_toArray, List.set_cons_zero, List.set_cons_succ]; rfl) (hc : (Aq7 T.2 l.toList == [i] && l.toList.set i true == l'.toList) = true := by kernel_rfl) (hd : i ∉ ds := by decide) : Ac7 P md ops Q S ds (fuel + 1) l a w :=
 Ay7 l' hi hN (Ar7 hT.out hc) hd h
theorem nr (N : Option Tmp) (h : Ac7 P md ops Q S ds fuel l a' w) (ha : a.put N v = a' := by simp only [Act.put, List.setIfInBounds_toArray, List.set_cons_zero, List.set_cons_succ, Ag7, Ah2]; rfl) : Ac7 P md ops Q S ds fuel l (a.put N v) w := norm_ ha h
theorem nj (h : Ac7 P md ops Q S ds fuel l a' w) (ha : a = a' := by first | (simp only [At9, Act.put, List.setIfInBounds_toArray, List.set_cons_zero, List.set_cons_succ]; done) | (simp only [At9, Act.put, List.setIfInBounds_toArray, List.set_cons_zero, List.set_cons_succ]; rfl)) : Ac7 P md ops Q S ds fuel l a w := norm_ ha h
theorem gs {N : Option Tmp} {K : Act → World → Prop} {f : FuncId} {fn : Func} {as : Array Operand} {ts : Array TypeId} (hf : P.funcs[f]? = some fn) (args : Array Value) (h : Calls P f args w fun e w' => ∃ v, e = .returned v ∧ K (a.put N v) w')
  (hn : (fn.name == "runtime.NumGoroutine") = false := by kernel_rfl) (hb : fn.body.isSome = true := by rfl) (hw : Region.wanted oi (yielded ops a.tmps) = true := by rfl) (hN : oi.dst = N := by rfl) (hop : oi.op = .call { callee := .value (.func f), args := as, argTypes := ts } := by rfl)
  (hargs : as.map a.eval = args := by ((try simp only [List.map_toArray, List.map_cons, List.map_nil]); first | done | rfl | (simp only [List.length_drop, List.length_take]; rfl))) : if Region.wanted oi (yielded ops a.tmps) = true then Oper.wp P oi a w K Q else K (a.put N undef) w :=
 goes_ hf hn hb args hw hN hop hargs h
theorem gl {rest : List Oper} (N : Option Tmp) {f : FuncId} {fn : Func} {as : Array Operand} {ts : Array TypeId} (hf : P.funcs[f]? = some fn) (hop : oi.op = .call { callee := .value (.func f), args := as, argTypes := ts }) (args : Array Value)
  (h : Calls P f args w fun e w' => ∃ v, e = .returned v ∧ wpList P ops Q rest (a.put N v) w') (hd : oi.dst = N := by rfl) (hg : oi.guard = none := by rfl) (hn : (fn.name == "runtime.NumGoroutine") = false := by kernel_rfl) (hb : fn.body.isSome = true := by rfl)
  (hargs : as.map a.eval = args := by ((try simp only [List.map_toArray, List.map_cons, List.map_nil]); first | done | rfl | (simp only [List.length_drop, List.length_take]; rfl))) : wpList P ops Q (oi :: rest) a w :=
 Ar9 N hd hg hf hn hb args hop hargs h
theorem bx {rest : List Oper} {W : World} (N : Nat) (hd : oi.dst = some N) (cs : Array Value) (t : TypeId)
  (h : ∀ g, g = W.heap.size → ∀ w1, w1.heap[g]? = some (.cells cs t (0, 0)) → Below W.heap.size W w1 → wpList P ops Q rest (a.put oi.dst (.pointer (some ⟨g, 0, none⟩))) w1)
  (hg : oi.guard = none := by rfl) (hr : (execOp a.eval oi).run P W = .ok (.value (.pointer (some ⟨W.heap.size, 0, none⟩))) (W.alloc (.cells cs t (0, 0))) := by first | (go_simp; done) | (go_simp; rfl)) : wpList P ops Q (oi :: rest) a W :=
 Ae3 hg hd hr h
theorem rl {rest : List Oper} {W : World} (N : Nat) (hd : oi.dst = some N) (e : Nat) (xs : List Int)
  (h : ∀ v1 w1, (Kd.int .i64).R e w1 W.heap.size (fun _ => True) v1 xs → Below W.heap.size W w1 → W.grownBy w1 none → (∃ b, v1.ownBlock = some b ∧ W.heap.size ≤ b) → wpList P ops Q rest (a.put oi.dst v1) w1)
  (hg : oi.guard = none := by rfl) (hr : (execOp a.eval oi).run P W = .ok (.value (.slice (some ⟨W.heap.size, 0, none⟩) xs.length xs.length)) (W.alloc (.cells (xs.map (Value.int .i64)).toArray e)) := by (simp only [List.map_cons, List.map_nil]); first | (go_simp; done) | (go_simp; rfl)) (hm : xs.length ≤ 9223372036854775807 := by simp) : wpList P ops Q (oi :: rest) a W :=
 Kd.R_lit (Kd.int .i64) W.heap.size e hg hd hr (reps_ints xs) (okp := fun _ => True) (fun _ hk => hk) trivial (Below.refl _ _) (Nat.le_refl _) hm h
end
end Go.Proofs.YtbdpnkpienpnaaaGreatDoorW.PrintWords

