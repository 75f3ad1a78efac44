/- A part of the proof of the law FnExactOrientEquation. -/
import Derived.Laws.StructEq
import Derived.Test.YtgichahebemmiaaGreatDoorCFnExactOrientEquation0
import Derived.Test.YtgichahebemmiaaGreatDoorCFnExactOrientEquation1
import Derived.Test.YtgichahebemmiaaGreatDoorCFnExactOrientEquation2
import Derived.Test.YtgichahebemmiaaGreatDoorCFnExactOrientEquation3
import Derived.Test.YtgichahebemmiaaGreatDoorCFnExactOrientEquation4
import Derived.Test.YtgichahebemmiaaGreatDoorCFnExactOrientEquation5
import Derived.Test.YtgichahebemmiaaGreatDoorCFnExactOrientEquation6
import Derived.Test.YtgichahebemmiaaGreatDoorCFnExactOrientEquation7
import Derived.Test.YtgichahebemmiaaGreatDoorCFnExactOrientEquation17
namespace Go.Proofs.YtgichahebemmiaaGreatDoor.P
open Go.RowKit Go.Proofs.YtgichahebemmiaaGreatDoorW.PrintWords Go.Proofs.YtgichahebemmiaaGreatDoorW.PrintLast Go.Proofs.YtgichahebemmiaaGreatDoorW.PrintMore
attribute [local go_sem] Ae7 Ae4 Af9 Ag0 Ad3 Ad2 Ae8 Ae5   -- for this text's walks alone
set_option linter.unusedVariables false
set_option linter.unusedSimpArgs false
def impl_isNode.f (l0_0 : List (S79)) (a1 : Int) : Option (Bool) := (impl_isSymbol.f l0_0 a1).bind fun t313 => (if t313 = true then (some true) else ((impl_within.f a1 (-12) (-1)).bind fun t314 => (some t314)))
set_option maxHeartbeats 8000000 in
set_option maxRecDepth 100000 in
theorem impl_isNode.calls (A0_0 : Option Addr) (c0_0 : Nat) (l0_0 : List (S79)) (a1 : Int) (r : Bool) (w : World) (hr0_0 : Kd.C k79 w A0_0 l0_0.length l0_0) (hc0_0 : l0_0.length ≤ c0_0) (h : impl_isNode.f l0_0 a1 = some r) :
  Calls Tryz.prog 59 #[.agg #[.slice A0_0 l0_0.length c0_0], .int .i64 a1] w fun e w' => e = .returned (.bool r) ∧ Below w.heap.size w w' := by
 have hu36 := Tryz.underlying36
 have HR0_0 := am hr0_0
 have HC0_0 := am hc0_0
 clear hr0_0 hc0_0
 have HB := am (Below.refl w.heap.size w)
 have H : ((impl_isSymbol.f l0_0 a1).bind fun t313 => (if t313 = true then (some true) else ((impl_within.f a1 (-12) (-1)).bind fun t314 => (some t314)))) = some r := h
 clear h
 obtain ⟨t313, A3, H⟩ := ob H
 try dsimp only at H
 by_cases c4 : t313 = true
 ·subst c4
  rw [if_pos rfl] at H
  obtain rfl := Option.some.inj H
  go_enter Tryz.func59, Tryz.ntmps59
  go_wp2_with (first | (refine bx 2 rfl #[.slice A0_0 l0_0.length c0_0] 36 ?_; intro gb312 hg w5 hbox hb; have BK312 := am (hbox); have GW312 := am (bz hg (hq HB.out)); replace HB := sb HB hb; have GE312 := GW312; clear hb hbox hg; have hcz6_0 : w5.cell? ⟨gb312, 0, none⟩ = some (.slice A0_0 l0_0.length c0_0) := (Aa0 BK312.out 0).trans rfl; have hfz6_0 := Aa1 BK312.out 0) | (refine gl (some 7) Tryz.func56 rfl #[.agg #[.slice A0_0 l0_0.length c0_0], .int .i64 a1] ?_; refine (impl_isSymbol.calls _ _ l0_0 a1 true _ (cq (Kd.C_below HR0_0.out HB.out)) HC0_0.out A3.out).mono ?_; rintro e w7 ⟨rfl, hb⟩; refine ⟨_, rfl, ?_⟩; replace BK312 := bb BK312 hb; replace HB := sb HB hb; (try clear hb)))
  go_ret
  exact ⟨er, hs HB.out⟩
 ·replace c4 := Bool.eq_false_iff.mpr c4
  subst c4
  rw [if_neg (show ¬ (false = true) by decide)] at H
  obtain ⟨t314, A8, H⟩ := ob H
  try dsimp only at H
  obtain rfl := Option.some.inj H
  go_enter Tryz.func59, Tryz.ntmps59
  go_wp2_with (first | (refine bx 2 rfl #[.slice A0_0 l0_0.length c0_0] 36 ?_; intro gb312 hg w9 hbox hb; have BK312 := am (hbox); have GW312 := am (bz hg (hq HB.out)); replace HB := sb HB hb; have GE312 := GW312; clear hb hbox hg; have hcz10_0 : w9.cell? ⟨gb312, 0, none⟩ = some (.slice A0_0 l0_0.length c0_0) := (Aa0 BK312.out 0).trans rfl; have hfz10_0 := Aa1 BK312.out 0) | (refine gl (some 7) Tryz.func56 rfl #[.agg #[.slice A0_0 l0_0.length c0_0], .int .i64 a1] ?_; refine (impl_isSymbol.calls _ _ l0_0 a1 false _ (cq (Kd.C_below HR0_0.out HB.out)) HC0_0.out A3.out).mono ?_; rintro e w11 ⟨rfl, hb⟩; refine ⟨_, rfl, ?_⟩; replace BK312 := bb BK312 hb; replace HB := sb HB hb; (try clear hb)) | (go_at_call 81; refine (impl_within.calls a1 (-12) (-1) t314 _ A8.out).mono ?_; rintro e w' ⟨rfl, ⟨nd, rfl⟩⟩))
  go_ret
  exact ⟨er, hs HB.out⟩
def impl_TermFault_1_with.f (a0 : Int) (l1 : List (S36)) : Option (Bool) := if 0 < (l1.length : Int) then ((impl_isNode.f ((Ad0 l1 0).f0) a0).bind fun t316 => (some (!t316))) else (none)
set_option maxHeartbeats 8000000 in
set_option maxRecDepth 100000 in
theorem impl_TermFault_1_with.calls (a0 : Int) (A1 : Option Addr) (l1 : List (S36)) (r : Bool) (w : World) (hr1 : Kd.C k36 w A1 l1.length l1) (h : impl_TermFault_1_with.f a0 l1 = some r) :
  Calls Tryz.prog 58 #[.int .i64 a0, .pointer A1] w fun e w' => e = .returned (.bool r) ∧ Below w.heap.size w w' := by
 have hu36 := Tryz.underlying36
 have HR1 := am hr1
 clear hr1
 have HB := am (Below.refl w.heap.size w)
 have H : (if 0 < (l1.length : Int) then ((impl_isNode.f ((Ad0 l1 0).f0) a0).bind fun t316 => (some (!t316))) else (none)) = some r := h
 clear h
 obtain ⟨c3, H⟩ := ifs H
 have c3b0 : decide (0 < (l1.length : Int)) = true := decide_eq_true c3
 have c3b1 : decide (0 < l1.length) = true := decide_eq_true (by omega)
 clear c3
 obtain ⟨t316, A4, H⟩ := ob H
 try dsimp only at H
 obtain rfl := Option.some.inj H
 have p315 : 0 ≤ (0 : Int) := (by omega)
 have q315 : 0 < (l1.length : Int) := od
 obtain ⟨ad315, A315_0, c315_0, e315, hx315_0, hl315_0, hi315_0⟩ := Ah9 HR1.out 0 p315 q315
 cases e315
 have qi315 : (0 < l1.length) = True := eq_true (by omega)
 (try rw [show ((0 : Int)).toNat = 0 from rfl] at hx315_0)
 (try rw [Addr.add_zero'] at hx315_0)
 have HR315_0 := am hi315_0
 have HC315_0 := am hl315_0
 clear hi315_0 hl315_0
 replace p315 := eq_true p315
 replace q315 := eq_true q315
 go_enter Tryz.func58, Tryz.ntmps58
 go_wp2_with (first | (refine gl (some 6) Tryz.func59 rfl #[.agg #[.slice A315_0 ((Ad0 l1 0).f0).length c315_0], .int .i64 a0] ?_; refine (impl_isNode.calls _ _ ((Ad0 l1 0).f0) a0 t316 _ (cq HR315_0.out) HC315_0.out A4.out).mono ?_; rintro e w5 ⟨rfl, hb⟩; refine ⟨_, rfl, ?_⟩; replace HB := sb HB hb; (try clear hb)))
 go_ret
 exact ⟨er, hq HB.out⟩
def slices_IndexFunc_int64_int64_impl_TermFault_1.l0 : Nat → List Int → Int → Int → List (S36) → Option (Int)
 | 0, _, _, _, _ => none
 | k + 1, x0, x7, x8, x910 => if x8 < x7 then (if 0 ≤ x8 then (if x8 < (x0.length : Int) then ((impl_TermFault_1_with.f (rd x0 x8) x910).bind fun t318 => (if t318 = true then (some x8) else (slices_IndexFunc_int64_int64_impl_TermFault_1.l0 k x0 x7 (wrap64 (x8 + 1)) x910))) else (none)) else (none)) else (some (-1))
def slices_IndexFunc_int64_int64_impl_TermFault_1.f (k : Nat) (l0 : List Int) (l1_0 : List (S36)) : Option (Int) := slices_IndexFunc_int64_int64_impl_TermFault_1.l0 k l0 (l0.length : Int) 0 l1_0
set_option maxHeartbeats 8000000 in
set_option maxRecDepth 100000 in
theorem slices_IndexFunc_int64_int64_impl_TermFault_1.calls (k : Nat) (A0 : Option Addr) (c0 : Nat) (l0 : List Int) (A1_0 : Option Addr) (l1_0 : List (S36)) (r : Int) (w : World) (hr0 : Kd.C (Kd.int .i64) w A0 l0.length l0) (hc0 : l0.length ≤ c0) (hr1_0 : Kd.C k36 w A1_0 l1_0.length l1_0) (h : slices_IndexFunc_int64_int64_impl_TermFault_1.f k l0 l1_0 = some r) :
  Calls Tryz.prog 85 #[.slice A0 l0.length c0, .func (.func 58) #[] #[.pointer A1_0]] w fun e w' => e = .returned (.int .i64 r) ∧ Below w.heap.size w w' := by
 have HR0 := am hr0
 have HC0 := am hc0
 clear hr0 hc0
 have HR1_0 := am hr1_0
 clear hr1_0
 have HB := am (Below.refl w.heap.size w)
 have H : (slices_IndexFunc_int64_int64_impl_TermFault_1.l0 k l0 (l0.length : Int) 0 l1_0) = some r := h
 clear h
 have H' := am H
 clear H
 go_enter Tryz.func85, Tryz.ntmps85
 go_wp2
 go_loopg [8] k (fun kq v8 w' => ∃ (x8_1 : Int), v8 = .int .i64 x8_1 ∧ Aside0 (slices_IndexFunc_int64_int64_impl_TermFault_1.l0 kq l0 (l0.length : Int) x8_1 l1_0 = some r) ∧ Aside0 (kq ≤ k) ∧ Aside0 (Below w.heap.size w w'))
 case atStart => exact ⟨(0), et, H', ⟨Nat.le_refl _⟩, ⟨hq HB.out⟩⟩
 case round =>
  clear H'
  obtain ⟨x8_1, rfl, HA, HK1, HB⟩ := hrel
  cases gk with
  | zero => exact absurd HA.out (by simp [slices_IndexFunc_int64_int64_impl_TermFault_1.l0])
  | succ k1 =>
   have H := HA.out
   clear HA
   simp only [slices_IndexFunc_int64_int64_impl_TermFault_1.l0] at H
   by_cases c3 : x8_1 < (l0.length : Int)
   ·rw [if_pos c3] at H
    have c3b0 : decide (x8_1 < (l0.length : Int)) = true := decide_eq_true c3
    clear c3
    obtain ⟨c4b0, H⟩ := ife H
    obtain ⟨c5b0, H⟩ := ife H
    obtain ⟨t318, A6, H⟩ := ob H
    try dsimp only at H
    by_cases c7 : t318 = true
    ·subst c7
     rw [if_pos rfl] at H
     obtain rfl := Option.some.inj H
     have p317 : 0 ≤ (x8_1 : Int) := od
     have q317 : x8_1 < (l0.length : Int) := od
     obtain ⟨ad317, e317, hx317_0⟩ := Kd.at_int HR0.out x8_1 p317 q317
     cases e317
     replace hx317_0 := cz HB.out hx317_0
     replace p317 := eq_true p317
     replace q317 := eq_true q317
     go_wp2_with (first | ((first | (refine gl (some 16) Tryz.func58 rfl #[.int .i64 (rd l0 x8_1), .pointer A1_0] ?_) | ((with_reducible refine Af4 _ rfl ?_); refine Ao0 (some 16) rfl rfl Tryz.func58 (by kernel_rfl) rfl #[.int .i64 (rd l0 x8_1), .pointer A1_0] rfl rfl (by first | rfl | (simp <;> first | rfl | exact ⟨rfl, rfl⟩ | exact ⟨rfl, rfl, rfl⟩) | ((try simp only [List.map_toArray, List.map_cons, List.map_nil]); first | done | rfl | (simp only [List.length_drop, List.length_take]; rfl))) ?_)); refine (impl_TermFault_1_with.calls (rd l0 x8_1) _ l1_0 true _ (cq (Kd.C_below HR1_0.out HB.out)) A6.out).mono ?_; rintro e w8 ⟨rfl, hb⟩; refine ⟨_, rfl, ?_⟩; replace HB := sb HB hb; (try clear hb)))
     go_ret
     exact ⟨er, hq HB.out⟩
    ·replace c7 := Bool.eq_false_iff.mpr c7
     subst c7
     rw [if_neg (show ¬ (false = true) by decide)] at H
     have H' := am H
     clear H
     have p317 : 0 ≤ (x8_1 : Int) := od
     have q317 : x8_1 < (l0.length : Int) := od
     obtain ⟨ad317, e317, hx317_0⟩ := Kd.at_int HR0.out x8_1 p317 q317
     cases e317
     replace hx317_0 := cz HB.out hx317_0
     replace p317 := eq_true p317
     replace q317 := eq_true q317
     go_wp2_with (first | ((first | (refine gl (some 16) Tryz.func58 rfl #[.int .i64 (rd l0 x8_1), .pointer A1_0] ?_) | ((with_reducible refine Af4 _ rfl ?_); refine Ao0 (some 16) rfl rfl Tryz.func58 (by kernel_rfl) rfl #[.int .i64 (rd l0 x8_1), .pointer A1_0] rfl rfl (by first | rfl | (simp <;> first | rfl | exact ⟨rfl, rfl⟩ | exact ⟨rfl, rfl, rfl⟩) | ((try simp only [List.map_toArray, List.map_cons, List.map_nil]); first | done | rfl | (simp only [List.length_drop, List.length_take]; rfl))) ?_)); refine (impl_TermFault_1_with.calls (rd l0 x8_1) _ l1_0 false _ (cq (Kd.C_below HR1_0.out HB.out)) A6.out).mono ?_; rintro e w9 ⟨rfl, hb⟩; refine ⟨_, rfl, ?_⟩; replace HB := sb HB hb; (try clear hb)))
     go_roundg k1
     case measure => have := HK1.out; omega
     case rel => exact ⟨(wrap64 (x8_1 + 1)), et, H', ⟨by have := HK1.out; omega⟩, ⟨hq HB.out⟩⟩
   ·rw [if_neg c3] at H
    have c3b0 : decide (x8_1 < (l0.length : Int)) = false := decide_eq_false c3
    clear c3
    obtain rfl := Option.some.inj H
    go_wp2
    go_ret
    exact ⟨er, hq HB.out⟩
def slices_ContainsFunc_int64_int64_impl_TermFault_1.f (k : Nat) (l0 : List Int) (l1_0 : List (S36)) : Option (Bool) := (slices_IndexFunc_int64_int64_impl_TermFault_1.f k l0 l1_0).bind fun t319 => (some (decide (t319 ≥ 0)))
set_option maxHeartbeats 8000000 in
set_option maxRecDepth 100000 in
theorem slices_ContainsFunc_int64_int64_impl_TermFault_1.calls (k : Nat) (A0 : Option Addr) (c0 : Nat) (l0 : List Int) (A1_0 : Option Addr) (l1_0 : List (S36)) (r : Bool) (w : World) (hr0 : Kd.C (Kd.int .i64) w A0 l0.length l0) (hc0 : l0.length ≤ c0) (hr1_0 : Kd.C k36 w A1_0 l1_0.length l1_0) (h : slices_ContainsFunc_int64_int64_impl_TermFault_1.f k l0 l1_0 = some r) :
  Calls Tryz.prog 54 #[.slice A0 l0.length c0, .func (.func 58) #[] #[.pointer A1_0]] w fun e w' => e = .returned (.bool r) ∧ Below w.heap.size w w' := by
 have HR0 := am hr0
 have HC0 := am hc0
 clear hr0 hc0
 have HR1_0 := am hr1_0
 clear hr1_0
 have HB := am (Below.refl w.heap.size w)
 have H : ((slices_IndexFunc_int64_int64_impl_TermFault_1.f k l0 l1_0).bind fun t319 => (some (decide (t319 ≥ 0)))) = some r := h
 clear h
 obtain ⟨t319, A3, H⟩ := ob H
 try dsimp only at H
 obtain rfl := Option.some.inj H
 go_enter Tryz.func54, Tryz.ntmps54
 go_wp2_with (first | (refine gl (some 7) Tryz.func85 rfl #[.slice A0 l0.length c0, .func (.func 58) #[] #[.pointer A1_0]] ?_; refine (slices_IndexFunc_int64_int64_impl_TermFault_1.calls k _ _ l0 _ l1_0 t319 _ (cq HR0.out) HC0.out (cq HR1_0.out) A3.out).mono ?_; rintro e w4 ⟨rfl, hb⟩; refine ⟨_, rfl, ?_⟩; replace HB := sb HB hb; (try clear hb)))
 go_ret
 exact ⟨er, hq HB.out⟩
def impl_TermFault.j0 : Nat → List Int → Bool → List (S79) → Option (Int)
 | 0, _, _, _ => none
 | k + 1, x1, x18, x321000 => if x18 = true then (some 2) else ((slices_ContainsFunc_int64_int64_impl_TermFault_1.f k x1 [(⟨x321000⟩ : S36)]).bind fun t322 => (if t322 = true then (some 3) else ((impl_endOf.f k x321000 x1 0).bind fun t323 => (if t323 = (x1.length : Int) then (some 0) else (some 1)))))
def impl_TermFault.f (k : Nat) (l0_0 : List (S79)) (l1 : List Int) : Option (Int) := (impl_SignatureFault.f k l0_0).bind fun t321 => (if t321 = 0 then (if (l1.length : Int) < 1 then (impl_TermFault.j0 k l1 true l0_0) else (impl_TermFault.j0 k l1 (decide ((l1.length : Int) > 24)) l0_0)) else (some t321))
set_option maxHeartbeats 8000000 in
set_option maxRecDepth 100000 in
theorem impl_TermFault.calls (k : Nat) (A0_0 : Option Addr) (c0_0 : Nat) (l0_0 : List (S79)) (A1 : Option Addr) (c1 : Nat) (l1 : List Int) (r : Int) (w : World) (hr0_0 : Kd.C k79 w A0_0 l0_0.length l0_0) (hc0_0 : l0_0.length ≤ c0_0) (hr1 : Kd.C (Kd.int .i64) w A1 l1.length l1) (hc1 : l1.length ≤ c1) (h : impl_TermFault.f k l0_0 l1 = some r) :
  Calls Tryz.prog 36 #[.agg #[.slice A0_0 l0_0.length c0_0], .slice A1 l1.length c1] w fun e w' => e = .returned (.int .i64 r) ∧ Below w.heap.size w w' := by
 have hu36 := Tryz.underlying36
 have HR0_0 := am hr0_0
 have HC0_0 := am hc0_0
 clear hr0_0 hc0_0
 have HR1 := am hr1
 have HC1 := am hc1
 clear hr1 hc1
 have HB := am (Below.refl w.heap.size w)
 have H : ((impl_SignatureFault.f k l0_0).bind fun t321 => (if t321 = 0 then (if (l1.length : Int) < 1 then (impl_TermFault.j0 k l1 true l0_0) else (impl_TermFault.j0 k l1 (decide ((l1.length : Int) > 24)) l0_0)) else (some t321))) = some r := h
 clear h
 obtain ⟨t321, A3, H⟩ := ob H
 try dsimp only at H
 by_cases c4 : t321 = 0
 ·rw [if_pos c4] at H
  obtain ⟨c4b0, c4b1⟩ := bqt c4; clear c4
  have HC5 := am H
  clear H
  go_enter Tryz.func36, Tryz.ntmps36
  go_upto_region 4 with (first | ((with_reducible refine Ae9 (N := 2) rfl ?_); (try (refine Ah4 (by rfl) ?_; dsimp only)); refine Ah6 ?hg (N := 2) ?hd (cs := #[.slice A0_0 l0_0.length c0_0]) (t := 36) ?hr ?_; (case hd => rfl); (case hg => rfl); (case hr => first | (go_simp; done) | (go_simp; rfl)); intro gb320 hg w6 hbox hb; have BK320 := am (hbox); have GW320 := am (bz hg (hq HB.out)); replace HB := sb HB hb; have GE320 := GW320; clear hb hbox hg; have hcz7_0 : w6.cell? ⟨gb320, 0, none⟩ = some (.slice A0_0 l0_0.length c0_0) := (Aa0 BK320.out 0).trans rfl; have hfz7_0 := Aa1 BK320.out 0) | (refine gl (some 7) Tryz.func53 rfl #[.agg #[.slice A0_0 l0_0.length c0_0]] ?_; refine (impl_SignatureFault.calls k _ _ l0_0 t321 _ (cq (Kd.C_below HR0_0.out HB.out)) HC0_0.out A3.out).mono ?_; rintro e w8 ⟨rfl, hb⟩; refine ⟨_, rfl, ?_⟩; replace BK320 := bb BK320 hb; replace HB := sb HB hb; (try clear hb)))
  (try simp only [Act.put, lsp])
  go_cut [18] (fun v18 wc => ∃ (kq : Nat) (x18_4 : Bool), v18 = .bool x18_4 ∧ Aside0 (impl_TermFault.j0 kq l1 x18_4 l0_0 = some r) ∧ Aside0 (kq ≤ k) ∧ Aside0 (wc.heap[gb320]? = some (.cells #[(.slice A0_0 l0_0.length c0_0)] 36 (0, 0))) ∧ Aside0 (Below w.heap.size w wc))
  case first =>
   have H := HC5.out
   clear HC5
   by_cases c9 : (l1.length : Int) < 1
   ·rw [if_pos c9] at H
    have c9b0 : decide ((l1.length : Int) < 1) = true := decide_eq_true c9
    have c9b1 : decide (l1.length < 1) = true := decide_eq_true (by omega)
    clear c9
    (first | rw [c9b0] | (simp only [Ac9, Ad4]; rw [c9b0]) | skip)
    have H' := am H
    clear H
    go_wp2
    go_meet
    case rel => exact ⟨_, (true), et, H', ⟨by first | omega | exact Nat.le_refl _⟩, ⟨by refine bq ?_; exact BK320.out⟩, ⟨hs HB.out⟩⟩
   ·rw [if_neg c9] at H
    have c9b0 : decide ((l1.length : Int) < 1) = false := decide_eq_false c9
    have c9b1 : decide (l1.length < 1) = false := decide_eq_false (by omega)
    clear c9
    (first | rw [c9b0] | (simp only [Ac9, Ad4]; rw [c9b0]) | skip)
    have H' := am H
    clear H
    go_wp2
    go_meet
    case rel => exact ⟨_, (decide ((l1.length : Int) > 24)), et, H', ⟨by first | omega | exact Nat.le_refl _⟩, ⟨by refine bq ?_; exact BK320.out⟩, ⟨hs HB.out⟩⟩
  case rest =>
   clear HC5
   try clear c1; try clear c4; try clear c4b0; try clear c4b1; try clear c9; try clear c9b0; try clear c9b1; try clear hcz7_0; try clear hfz7_0
   obtain ⟨kq, x18_4, rfl, HA, HJ4, BK320, HB⟩ := hcut
   cases kq with
   | zero => exact absurd HA.out (by simp [impl_TermFault.j0])
   | succ kj4 =>
    have H := HA.out
    clear HA
    simp only [impl_TermFault.j0] at H
    by_cases c10 : x18_4 = true
    ·subst c10
     rw [if_pos rfl] at H
     obtain rfl := Option.some.inj H
     go_wp2
     go_ret
     exact ⟨er, hs HB.out⟩
    ·replace c10 := Bool.eq_false_iff.mpr c10
     subst c10
     rw [if_neg (show ¬ (false = true) by decide)] at H
     obtain ⟨t322, A11, H⟩ := ob H
     try dsimp only at H
     by_cases c12 : t322 = true
     ·subst c12
      rw [if_pos rfl] at H
      obtain rfl := Option.some.inj H
      go_wp2_with (first | (refine gl (some 21) Tryz.func54 rfl #[.slice A1 l1.length c1, .func (.func 58) #[] #[.pointer (some ⟨gb320, 0, none⟩)]] ?_; refine (slices_ContainsFunc_int64_int64_impl_TermFault_1.calls kj4 _ _ l1 _ [(⟨l0_0⟩ : S36)] true _ (cq (Kd.C_below HR1.out HB.out)) HC1.out (Ag4 (bq BK320.out) (cq (Kd.C_below HR0_0.out HB.out)) (by exact HC0_0.out)) A11.out).mono ?_; rintro e w13 ⟨rfl, hb⟩; refine ⟨_, rfl, ?_⟩; replace BK320 := bb BK320 hb; replace HB := sb HB hb; (try clear hb)))
      go_ret
      exact ⟨er, hs HB.out⟩
     ·replace c12 := Bool.eq_false_iff.mpr c12
      subst c12
      rw [if_neg (show ¬ (false = true) by decide)] at H
      obtain ⟨t323, A14, H⟩ := ob H
      try dsimp only at H
      by_cases c15 : t323 = (l1.length : Int)
      ·rw [if_pos c15] at H
       obtain ⟨c15b0, c15b1⟩ := bqt c15; clear c15
       obtain rfl := Option.some.inj H
       go_wp2_with (first | (refine gl (some 21) Tryz.func54 rfl #[.slice A1 l1.length c1, .func (.func 58) #[] #[.pointer (some ⟨gb320, 0, none⟩)]] ?_; refine (slices_ContainsFunc_int64_int64_impl_TermFault_1.calls kj4 _ _ l1 _ [(⟨l0_0⟩ : S36)] false _ (cq (Kd.C_below HR1.out HB.out)) HC1.out (Ag4 (bq BK320.out) (cq (Kd.C_below HR0_0.out HB.out)) (by exact HC0_0.out)) A11.out).mono ?_; rintro e w16 ⟨rfl, hb⟩; refine ⟨_, rfl, ?_⟩; replace BK320 := bb BK320 hb; replace HB := sb HB hb; (try clear hb); have hcz17_0 : w16.cell? ⟨gb320, 0, none⟩ = some (.slice A0_0 l0_0.length c0_0) := (Aa0 BK320.out 0).trans rfl; have hfz17_0 := Aa1 BK320.out 0) | (refine gl (some 24) Tryz.func60 rfl #[.agg #[.slice A0_0 l0_0.length c0_0], .slice A1 l1.length c1, .int .i64 0] ?_; refine (impl_endOf.calls kj4 _ _ l0_0 _ _ l1 0 t323 _ (cq (Kd.C_below HR0_0.out HB.out)) HC0_0.out (cq (Kd.C_below HR1.out HB.out)) HC1.out A14.out).mono ?_; rintro e w18 ⟨rfl, hb⟩; refine ⟨_, rfl, ?_⟩; replace BK320 := bb BK320 hb; replace HB := sb HB hb; (try clear hb)))
       go_ret
       exact ⟨er, hs HB.out⟩
      ·rw [if_neg c15] at H
       obtain ⟨c15b0, c15b1⟩ := bqf c15
       obtain rfl := Option.some.inj H
       go_wp2_with (first | (refine gl (some 21) Tryz.func54 rfl #[.slice A1 l1.length c1, .func (.func 58) #[] #[.pointer (some ⟨gb320, 0, none⟩)]] ?_; refine (slices_ContainsFunc_int64_int64_impl_TermFault_1.calls kj4 _ _ l1 _ [(⟨l0_0⟩ : S36)] false _ (cq (Kd.C_below HR1.out HB.out)) HC1.out (Ag4 (bq BK320.out) (cq (Kd.C_below HR0_0.out HB.out)) (by exact HC0_0.out)) A11.out).mono ?_; rintro e w19 ⟨rfl, hb⟩; refine ⟨_, rfl, ?_⟩; replace BK320 := bb BK320 hb; replace HB := sb HB hb; (try clear hb); have hcz20_0 : w19.cell? ⟨gb320, 0, none⟩ = some (.slice A0_0 l0_0.length c0_0) := (Aa0 BK320.out 0).trans rfl; have hfz20_0 := Aa1 BK320.out 0) | (refine gl (some 24) Tryz.func60 rfl #[.agg #[.slice A0_0 l0_0.length c0_0], .slice A1 l1.length c1, .int .i64 0] ?_; refine (impl_endOf.calls kj4 _ _ l0_0 _ _ l1 0 t323 _ (cq (Kd.C_below HR0_0.out HB.out)) HC0_0.out (cq (Kd.C_below HR1.out HB.out)) HC1.out A14.out).mono ?_; rintro e w21 ⟨rfl, hb⟩; refine ⟨_, rfl, ?_⟩; replace BK320 := bb BK320 hb; replace HB := sb HB hb; (try clear hb)))
       go_ret
       exact ⟨er, hs HB.out⟩
 ·rw [if_neg c4] at H
  obtain ⟨c4b0, c4b1⟩ := bqf c4
  obtain rfl := Option.some.inj H
  go_enter Tryz.func36, Tryz.ntmps36
  go_wp2_with (first | ((with_reducible refine Ae9 (N := 2) rfl ?_); (try (refine Ah4 (by rfl) ?_; dsimp only)); refine Ah6 ?hg (N := 2) ?hd (cs := #[.slice A0_0 l0_0.length c0_0]) (t := 36) ?hr ?_; (case hd => rfl); (case hg => rfl); (case hr => first | (go_simp; done) | (go_simp; rfl)); intro gb320 hg w22 hbox hb; have BK320 := am (hbox); have GW320 := am (bz hg (hq HB.out)); replace HB := sb HB hb; have GE320 := GW320; clear hb hbox hg; have hcz23_0 : w22.cell? ⟨gb320, 0, none⟩ = some (.slice A0_0 l0_0.length c0_0) := (Aa0 BK320.out 0).trans rfl; have hfz23_0 := Aa1 BK320.out 0) | (refine gl (some 7) Tryz.func53 rfl #[.agg #[.slice A0_0 l0_0.length c0_0]] ?_; refine (impl_SignatureFault.calls k _ _ l0_0 t321 _ (cq (Kd.C_below HR0_0.out HB.out)) HC0_0.out A3.out).mono ?_; rintro e w24 ⟨rfl, hb⟩; refine ⟨_, rfl, ?_⟩; replace BK320 := bb BK320 hb; replace HB := sb HB hb; (try clear hb)))
  go_ret
  exact ⟨er, hs HB.out⟩
def slices_Equal_int64_int64.l0 : Nat → List Int → List Int → Int → Int → Option (Bool)
 | 0, _, _, _, _ => none
 | k + 1, x0, x1, x12, x13 => if x13 < x12 then (if 0 ≤ x13 then (if x13 < (x0.length : Int) then (if x13 < (x1.length : Int) then (if (rd x0 x13) = (rd x1 x13) then (slices_Equal_int64_int64.l0 k x0 x1 x12 (wrap64 (x13 + 1))) else (some false)) else (none)) else (none)) else (none)) else (some true)
def slices_Equal_int64_int64.f (k : Nat) (l0 : List Int) (l1 : List Int) : Option (Bool) := if (l0.length : Int) = (l1.length : Int) then (slices_Equal_int64_int64.l0 k l0 l1 (l0.length : Int) 0) else (some false)
theorem slices_Equal_int64_int64.mono_l : ∀ k, (∀ y0 y1 y2 y3, LeO (slices_Equal_int64_int64.l0 k y0 y1 y2 y3) (slices_Equal_int64_int64.l0 (k + 1) y0 y1 y2 y3))
 | 0 => fun _ _ _ _ r h => by simp [slices_Equal_int64_int64.l0] at h
 | k + 1 => by
  have ih0 := slices_Equal_int64_int64.mono_l k
  ·intro y0 y1 y2 y3
   unfold slices_Equal_int64_int64.l0
   repeat' first | (with_reducible first | apply ih0 | exact LeO.refl _ | exact LeO.none _ | refine LeO.ite ?_ ?_ | refine LeO.bind ?_ (fun _ => ?_)) | apply ih0 | exact LeO.none _ | refine LeO.ite ?_ ?_ | refine LeO.bind ?_ (fun _ => ?_)
theorem slices_Equal_int64_int64.mono : ∀ a0 a1 k, LeO (slices_Equal_int64_int64.f k a0 a1) (slices_Equal_int64_int64.f (k + 1) a0 a1) := by
 intro a0 a1 k
 have ih0 := slices_Equal_int64_int64.mono_l k
 unfold slices_Equal_int64_int64.f
 repeat' first | (with_reducible first | apply ih0 | exact LeO.refl _ | exact LeO.none _ | refine LeO.ite ?_ ?_ | refine LeO.bind ?_ (fun _ => ?_)) | apply ih0 | exact LeO.none _ | refine LeO.ite ?_ ?_ | refine LeO.bind ?_ (fun _ => ?_)
set_option maxHeartbeats 8000000 in
set_option maxRecDepth 100000 in
theorem slices_Equal_int64_int64.calls (k : Nat) (A0 : Option Addr) (c0 : Nat) (l0 : List Int) (A1 : Option Addr) (c1 : Nat) (l1 : List Int) (r : Bool) (w : World) (hr0 : Kd.C (Kd.int .i64) w A0 l0.length l0) (hc0 : l0.length ≤ c0) (hr1 : Kd.C (Kd.int .i64) w A1 l1.length l1) (hc1 : l1.length ≤ c1) (h : slices_Equal_int64_int64.f k l0 l1 = some r) :
  Calls Tryz.prog 61 #[.slice A0 l0.length c0, .slice A1 l1.length c1] w fun e w' => e = .returned (.bool r) ∧ Drawn0 w w' := by
 have HR0 := am hr0
 have HC0 := am hc0
 clear hr0 hc0
 have HR1 := am hr1
 have HC1 := am hc1
 clear hr1 hc1
 have H : (if (l0.length : Int) = (l1.length : Int) then (slices_Equal_int64_int64.l0 k l0 l1 (l0.length : Int) 0) else (some false)) = some r := h
 clear h
 by_cases c3 : (l0.length : Int) = (l1.length : Int)
 ·rw [if_pos c3] at H
  have c3b0 : ((l0.length : Int) == (l1.length : Int)) = true := beq_iff_eq.mpr c3
  have c3b1 : ((l0.length : Int) != (l1.length : Int)) = false := bne_eq_false_iff_eq.mpr c3
  have c3b2 : (l0.length == l1.length) = true := by first | simpa using c3 | (simp at c3 ⊢; omega)
  clear c3
  have H' := am H
  clear H
  go_enter Tryz.func61, Tryz.ntmps61
  go_wp2
  repeat (go_quiet (fail); try go_wp2)
  go_loopg [13] k (fun kq v13 w' => ∃ (x13_1 : Int), v13 = .int .i64 x13_1 ∧ Aside0 (slices_Equal_int64_int64.l0 kq l0 l1 (l0.length : Int) x13_1 = some r) ∧ Aside0 (kq ≤ k) ∧ Drawn0 w w')
  case atStart => exact ⟨(0), et, H', ⟨Nat.le_refl _⟩, by repeat (first | exact Drawn0.refl _ | apply Drawn0.step)⟩
  case round =>
   clear H'
   try clear c1; try clear c3; try clear c3b0; try clear c3b1; try clear c3b2
   obtain ⟨x13_1, rfl, HA, HK1, ⟨m1, rfl⟩⟩ := hrel
   cases gk with
   | zero => exact absurd HA.out (by simp [slices_Equal_int64_int64.l0])
   | succ k1 =>
    have H := HA.out
    clear HA
    simp only [slices_Equal_int64_int64.l0] at H
    by_cases c4 : x13_1 < (l0.length : Int)
    ·rw [if_pos c4] at H
     have c4b0 : decide (x13_1 < (l0.length : Int)) = true := decide_eq_true c4
     clear c4
     obtain ⟨c5b0, H⟩ := ife H
     obtain ⟨c6b0, H⟩ := ife H
     obtain ⟨c7b0, H⟩ := ife H
     by_cases c8 : (rd l0 x13_1) = (rd l1 x13_1)
     ·rw [if_pos c8] at H
      obtain ⟨c8b0, c8b1⟩ := bqt c8; clear c8
      have H' := am H
      clear H
      have p324 : 0 ≤ (x13_1 : Int) := od
      have q324 : x13_1 < (l0.length : Int) := od
      obtain ⟨ad324, e324, hx324_0⟩ := Kd.at_int HR0.out x13_1 p324 q324
      cases e324
      replace p324 := eq_true p324
      replace q324 := eq_true q324
      have p325 : 0 ≤ (x13_1 : Int) := od
      have q325 : x13_1 < (l1.length : Int) := od
      obtain ⟨ad325, e325, hx325_0⟩ := Kd.at_int HR1.out x13_1 p325 q325
      cases e325
      replace p325 := eq_true p325
      replace q325 := eq_true q325
      go_wp2
      repeat (go_quiet (fail); try go_wp2)
      go_roundg k1
      case measure => have := HK1.out; omega
      case rel => exact ⟨(wrap64 (x13_1 + 1)), et, H', ⟨by have := HK1.out; omega⟩, by repeat (first | exact Drawn0.refl _ | apply Drawn0.step)⟩
     ·rw [if_neg c8] at H
      obtain ⟨c8b0, c8b1⟩ := bqf c8
      obtain rfl := Option.some.inj H
      have p324 : 0 ≤ (x13_1 : Int) := od
      have q324 : x13_1 < (l0.length : Int) := od
      obtain ⟨ad324, e324, hx324_0⟩ := Kd.at_int HR0.out x13_1 p324 q324
      cases e324
      replace p324 := eq_true p324
      replace q324 := eq_true q324
      have p325 : 0 ≤ (x13_1 : Int) := od
      have q325 : x13_1 < (l1.length : Int) := od
      obtain ⟨ad325, e325, hx325_0⟩ := Kd.at_int HR1.out x13_1 p325 q325
      cases e325
      replace p325 := eq_true p325
      replace q325 := eq_true q325
      go_wp2
      repeat (go_quiet (fail); try go_wp2)
      go_ret
      exact ⟨et, by repeat (first | exact Drawn0.refl _ | apply Drawn0.step)⟩
    ·rw [if_neg c4] at H
     have c4b0 : decide (x13_1 < (l0.length : Int)) = false := decide_eq_false c4
     clear c4
     obtain rfl := Option.some.inj H
     go_wp2
     repeat (go_quiet (fail); try go_wp2)
     go_ret
     exact ⟨et, by repeat (first | exact Drawn0.refl _ | apply Drawn0.step)⟩
 ·rw [if_neg c3] at H
  obtain ⟨c3b0, c3b1⟩ := bqf c3
  have c3b2 : (l0.length == l1.length) = false := by first | simpa using c3 | (simp at c3 ⊢; omega)
  obtain rfl := Option.some.inj H
  go_enter Tryz.func61, Tryz.ntmps61
  go_wp2
  repeat (go_quiet (fail); try go_wp2)
  go_ret
  exact ⟨et, by repeat (first | exact Drawn0.refl _ | apply Drawn0.step)⟩
def impl_subterm.f (k : Nat) (l0_0 : List (S79)) (l1 : List Int) (a2 : Int) : Option (List Int) := (impl_endOf.f k l0_0 l1 a2).bind fun t327 => (if 0 ≤ a2 then (if a2 ≤ t327 then (if t327 ≤ (l1.length : Int) then (some ((l1.take (t327 : Int).toNat).drop (a2 : Int).toNat)) else (none)) else (none)) else (none))
theorem impl_subterm.mono : ∀ a0 a1 a2 k, LeO (impl_subterm.f k a0 a1 a2) (impl_subterm.f (k + 1) a0 a1 a2) := by
 intro a0 a1 a2 k
 unfold impl_subterm.f
 repeat' first | (with_reducible first | apply impl_endOf.mono | exact LeO.refl _ | exact LeO.none _ | refine LeO.ite ?_ ?_ | refine LeO.bind ?_ (fun _ => ?_)) | apply impl_endOf.mono | exact LeO.none _ | refine LeO.ite ?_ ?_ | refine LeO.bind ?_ (fun _ => ?_)
set_option maxHeartbeats 8000000 in
set_option maxRecDepth 100000 in
theorem impl_subterm.calls (k : Nat) (A0_0 : Option Addr) (c0_0 : Nat) (l0_0 : List (S79)) (P1_ : Nat → Prop) (A1 : Option Addr) (c1 : Nat) (l1 : List Int) (a2 : Int) (r : List Int) (w : World) (hr0_0 : Kd.C k79 w A0_0 l0_0.length l0_0) (hc0_0 : l0_0.length ≤ c0_0) (hs1 : Kd.V (Kd.int .i64) 2 w w.heap.size (fun k_ => P1_ k_) (.slice A1 l1.length c1) l1) (h : impl_subterm.f k l0_0 l1 a2 = some r) :
  Calls Tryz.prog 114 #[.agg #[.slice A0_0 l0_0.length c0_0], .slice A1 l1.length c1, .int .i64 a2] w fun e w' => ∃ v0_ : Value, e = .returned (v0_) ∧ Kd.V (Kd.int .i64) 2 w' w.heap.size (fun k_ => (P1_ k_ ∨ w.heap.size ≤ k_)) v0_ r ∧ Below w.heap.size w w' := by
 have hu36 := Tryz.underlying36
 have HR0_0 := am hr0_0
 have HC0_0 := am hc0_0
 clear hr0_0 hc0_0
 have HO1 := am (show Kd.V (Kd.int .i64) 2 w w.heap.size (fun k_ => (P1_ k_ ∨ w.heap.size ≤ k_)) (.slice A1 l1.length c1) l1 from Kd.V_mono hs1 (fun k_ hk => .inl hk))
 have HB := am (Below.refl w.heap.size w)
 have H : ((impl_endOf.f k l0_0 l1 a2).bind fun t327 => (if 0 ≤ a2 then (if a2 ≤ t327 then (if t327 ≤ (l1.length : Int) then (some ((l1.take (t327 : Int).toNat).drop (a2 : Int).toNat)) else (none)) else (none)) else (none))) = some r := h
 clear h
 obtain ⟨t327, A4, H⟩ := ob H
 try dsimp only at H
 obtain ⟨c5b0, c5b1, H⟩ := ifd H
 obtain ⟨c6b0, c6b1, H⟩ := ifd H
 obtain ⟨c7b0, c7b1, H⟩ := ifd H
 obtain ⟨y328, hy328⟩ : ∃ y_ : List Int, y_ = ((l1.take (t327 : Int).toNat).drop (a2 : Int).toNat) := ⟨_, rfl⟩
 replace H : (some y328) = some r := by first | (rw [hy328]; with_reducible exact H) | (have H2_ := (Option.bind_some _ _).symm.trans H; rw [hy328]; with_reducible exact H2_) | (have H2_ := (Option.bind_some _ _).symm.trans H; with_reducible exact H2_) | with_reducible exact H | (rw [hy328]; exact H) | exact H
 have Ny328 := am hy328
 clear hy328
 obtain rfl := Option.some.inj H
 go_enter Tryz.func114, Tryz.ntmps114
 go_wp2_with (first | (refine bx 3 rfl #[.slice A0_0 l0_0.length c0_0] 36 ?_; intro gb326 hg w8 hbox hb; replace HO1 := am (Kd.V_below (Kd.V_elderB (vq HO1.out) gb326 (Nat.le_of_eq hg.symm)) hb); have BK326 := am (hbox); have GW326 := am (bz hg (hq HB.out)); replace HB := sb HB hb; have GE326 := GW326; clear hb hbox hg; have hcz9_0 : w8.cell? ⟨gb326, 0, none⟩ = some (.slice A0_0 l0_0.length c0_0) := (Aa0 BK326.out 0).trans rfl; have hfz9_0 := Aa1 BK326.out 0) | (refine gl (some 12) Tryz.func60 rfl #[.agg #[.slice A0_0 l0_0.length c0_0], .slice A1 l1.length c1, .int .i64 a2] ?_; refine (impl_endOf.calls k _ _ l0_0 _ _ l1 a2 t327 _ (cq (Kd.C_below HR0_0.out HB.out)) HC0_0.out (cq (Kd.V_reads' HO1.out).2.2) ((Kd.V_reads' HO1.out).2.1) A4.out).mono ?_; rintro e w10 ⟨rfl, hb⟩; refine ⟨_, rfl, ?_⟩; replace HO1 := am (Kd.V_below (vq HO1.out) hb); replace BK326 := bb BK326 hb; replace HB := sb HB hb; (try clear hb); (try clear hk); (try clear hi); have q11 : (t327 : Int) ≤ ((l1.length : Int) : Int) := od; obtain ⟨i011, hi011, _, hsz11, _⟩ := info_parts Ap0; have hroom11 : l1.length ≤ c1 := (Kd.V_reads' HO1.out).2.1; have hC11 : Kd.F (Kd.int .i64) _ _ A1 l1.length l1 := (Kd.V_at (base := w.heap.size) HO1.out).2.2; have ql11 : (a2 : Int) ≤ (t327 : Int) := od; have q011 : (0 : Int) ≤ (a2 : Int) := od; have hcut11 := cut_mid (P := Tryz.prog) 25 2 .i64 .i64 Tryz.underlying25 hi011 1 hsz11 A1 l1.length c1 a2 t327 q011 ql11 q11 hroom11; have hr11 := Kd.F_mid (lo := (a2 : Int).toNat) (hi := (t327 : Int).toNat) (c := c1) hC11 (by omega) (by omega) hroom11; obtain ⟨A11, hA11⟩ : ∃ Az_, Az_ = (if c1 = (a2 : Int).toNat then A1 else (A1 : Option Addr).map (·.add ((a2 : Int).toNat * 1))) := ⟨_, rfl⟩; obtain ⟨c11, hc11⟩ : ∃ cz_, cz_ = c1 - (a2 : Int).toNat := ⟨_, rfl⟩; have hy11 : y328.length = (t327 : Int).toNat - (a2 : Int).toNat := (by rw [Ny328.out, List.length_drop, List.length_take] <;> omega); rw [show ((l1).take (t327 : Int).toNat).drop (a2 : Int).toNat = y328 from Ny328.out.symm] at hr11; replace hr11 : Kd.F (Kd.int .i64) _ _ A11 y328.length y328 := (by rw [hA11]; exact hr11); rw [← hy11, ← hA11, ← hc11] at hcut11; have HO332 := am (show Kd.V (Kd.int .i64) 2 _ w.heap.size _ (.slice A11 y328.length c11) y328 from Kd.V_mk (by rw [hy11, hc11]; exact Nat.sub_le_sub_right (Nat.le_trans (by omega) hroom11) _) hr11); have HC332 := am (show y328.length ≤ c11 from by rw [hy11, hc11]; exact Nat.sub_le_sub_right (Nat.le_trans (by omega) hroom11) _); clear hr11 hC11 hroom11 hi011 hsz11 hc11; have KY11 := am hy11; have KA11 := am hA11; clear hy11 hA11; replace q11 := eq_true q11))
 go_ret
 exact ⟨_, er, vq (Kd.V_mono HO332.out (fun _ hk => hk.1)), hs HB.out⟩
def impl_argumentsOf.l0 : Nat → List Int → List Int → Int → Int → Int → List (S79) → Option (List Int)
 | 0, _, _, _, _, _, _ => none
 | k + 1, x1, x7, x8, x17, x18, x334000 => if x18 < x17 then (if x7.length < 17592186044416 then ((impl_endOf.f k x334000 x1 x8).bind fun t342 => (impl_argumentsOf.l0 k x1 (x7 ++ [x8]) t342 x17 (wrap64 (x18 + 1)) x334000)) else (none)) else (some x7)
def impl_argumentsOf.f (k : Nat) (l0_0 : List (S79)) (l1 : List Int) (a2 : Int) : Option (List Int) := if 0 ≤ a2 then (if a2 < (l1.length : Int) then ((impl_arityOf.f l0_0 (rd l1 a2)).bind fun t338 => (impl_argumentsOf.l0 k l1 (([] : List Int)) (wrap64 (a2 + 1)) t338 0 l0_0)) else (none)) else (none)
theorem impl_argumentsOf.mono_l : ∀ k, (∀ y0 y1 y2 y3 y4 y5, LeO (impl_argumentsOf.l0 k y0 y1 y2 y3 y4 y5) (impl_argumentsOf.l0 (k + 1) y0 y1 y2 y3 y4 y5))
 | 0 => fun _ _ _ _ _ _ r h => by simp [impl_argumentsOf.l0] at h
 | k + 1 => by
  have ih0 := impl_argumentsOf.mono_l k
  ·intro y0 y1 y2 y3 y4 y5
   unfold impl_argumentsOf.l0
   repeat' first | (with_reducible first | apply ih0 | apply impl_endOf.mono | exact LeO.refl _ | exact LeO.none _ | refine LeO.ite ?_ ?_ | refine LeO.bind ?_ (fun _ => ?_)) | apply ih0 | apply impl_endOf.mono | exact LeO.none _ | refine LeO.ite ?_ ?_ | refine LeO.bind ?_ (fun _ => ?_)
theorem impl_argumentsOf.mono : ∀ a0 a1 a2 k, LeO (impl_argumentsOf.f k a0 a1 a2) (impl_argumentsOf.f (k + 1) a0 a1 a2) := by
 intro a0 a1 a2 k
 have ih0 := impl_argumentsOf.mono_l k
 unfold impl_argumentsOf.f
 repeat' first | (with_reducible first | apply ih0 | apply impl_endOf.mono | exact LeO.refl _ | exact LeO.none _ | refine LeO.ite ?_ ?_ | refine LeO.bind ?_ (fun _ => ?_)) | apply ih0 | apply impl_endOf.mono | exact LeO.none _ | refine LeO.ite ?_ ?_ | refine LeO.bind ?_ (fun _ => ?_)
set_option maxHeartbeats 8000000 in
set_option maxRecDepth 100000 in
theorem impl_argumentsOf.calls (k : Nat) (A0_0 : Option Addr) (c0_0 : Nat) (l0_0 : List (S79)) (A1 : Option Addr) (c1 : Nat) (l1 : List Int) (a2 : Int) (r : List Int) (w : World) (hr0_0 : Kd.C k79 w A0_0 l0_0.length l0_0) (hc0_0 : l0_0.length ≤ c0_0) (hr1 : Kd.C (Kd.int .i64) w A1 l1.length l1) (hc1 : l1.length ≤ c1) (h : impl_argumentsOf.f k l0_0 l1 a2 = some r) :
  Calls Tryz.prog 115 #[.agg #[.slice A0_0 l0_0.length c0_0], .slice A1 l1.length c1, .int .i64 a2] w fun e w' => ∃ v0_ : Value, e = .returned (v0_) ∧ Kd.R (Kd.int .i64) 3 w' w.heap.size (fun _ => True) v0_ r ∧ Below w.heap.size w w' := by
 have hu36 := Tryz.underlying36
 have HR0_0 := am hr0_0
 have HC0_0 := am hc0_0
 clear hr0_0 hc0_0
 have HR1 := am hr1
 have HC1 := am hc1
 clear hr1 hc1
 have HB := am (Below.refl w.heap.size w)
 have H : (if 0 ≤ a2 then (if a2 < (l1.length : Int) then ((impl_arityOf.f l0_0 (rd l1 a2)).bind fun t338 => (impl_argumentsOf.l0 k l1 (([] : List Int)) (wrap64 (a2 + 1)) t338 0 l0_0)) else (none)) else (none)) = some r := h
 clear h
 obtain ⟨y334, hy334⟩ : ∃ y_ : List Int, y_ = (([] : List Int)) := ⟨_, rfl⟩
 replace H : (if 0 ≤ a2 then (if a2 < (l1.length : Int) then ((impl_arityOf.f l0_0 (rd l1 a2)).bind fun t338 => (impl_argumentsOf.l0 k l1 y334 (wrap64 (a2 + 1)) t338 0 l0_0)) else (none)) else (none)) = some r := by first | (rw [hy334]; with_reducible exact H) | (have H2_ := (Option.bind_some _ _).symm.trans H; rw [hy334]; with_reducible exact H2_) | (have H2_ := (Option.bind_some _ _).symm.trans H; with_reducible exact H2_) | with_reducible exact H | (rw [hy334]; exact H) | exact H
 have Ny334 := am hy334
 clear hy334
 obtain ⟨c4b0, H⟩ := ife H
 obtain ⟨c5b0, H⟩ := ife H
 obtain ⟨t338, A6, H⟩ := ob H
 try dsimp only at H
 have H' := am H
 clear H
 go_enter Tryz.func115, Tryz.ntmps115
 try go_wp2_with (first | (refine bx 3 rfl #[.slice A0_0 l0_0.length c0_0] 36 ?_; intro gb333 hg w7 hbox hb; have BK333 := am (hbox); have GW333 := am (bz hg (hq HB.out)); replace HB := sb HB hb; have GE333 := GW333; clear hb hbox hg) | ((with_reducible refine Ae9 (N := 9) rfl ?_); refine Kd.R_lit (Kd.int .i64) _ 3 ?hg (N := 9) ?hd (xs := ([] : List Int)) (inner := []) (ok := fun _ => True) (okp := fun _ => True) ?hr ?hp (fun _ hk => hk) trivial (Below.refl _ _) (Nat.le_refl _) (by simp) ?_; (case hd => rfl); (case hg => rfl); (case hr => first | (go_simp; done) | (go_simp; rfl)); (case hp => exact (Af0.none _ _)); intro v335 w8 ho9 hb hg_ hnew_; clear hg_ hnew_; (first | rw [← Ny334.out] at ho9 | (simp only [Int.reduceToNat] at ho9; rw [← Ny334.out] at ho9)); have HO336 := am (Kd.R_lower ho9 (Aa6 (hs HB.out))); replace BK333 := bb BK333 hb; replace HB := sb HB hb; clear hb ho9))
 replace HO336 := am (Kd.R_drew HO336.out)
 replace BK333 := am (Ab7 BK333.out)
 replace HB := am (Ab0 HB.out)
 have p337 : 0 ≤ (a2 : Int) := od
 have q337 : a2 < (l1.length : Int) := od
 obtain ⟨ad337, e337, hx337_0⟩ := Kd.at_int HR1.out a2 p337 q337
 have hw337_0 := hx337_0
 cases e337
 replace hx337_0 := cz HB.out hx337_0
 replace p337 := eq_true p337
 replace q337 := eq_true q337
 refine Ad5 (n := 7) (S := fun w' => w'.cell? ⟨gb333, 0, none⟩ = some (.slice A0_0 l0_0.length c0_0) ∧ w'.cell? (ad337.add (a2).toNat) = some (.int .i64 (rd l1 a2))) (ds := []) #[false, false, false, false, false, false, false] (by kernel_rfl) rfl rfl ⟨(Aa0 BK333.out 0).trans rfl, (cz HB.out hw337_0)⟩ (fun hHeld => ?_)
 generalize w8.drew = w10 at HO336 BK333 HB hx337_0 hHeld ⊢
 refine Ah8 (i := 1) (N := some 13) (v := ?_) (a' := ?_) #[false, true, false, false, false, false, false] rfl rfl (by kernel_rfl) (fun _ _ _ h => h) (Or.inl ⟨by rfl, ?_⟩) ?_ ?_
 rotate_left
 ·intro w'
  go_simp
  with_reducible rfl
 rotate_left
 ·simp only [Act.put, lsp, Ac9, Ad4]
  rfl
 refine Ah8 (i := 2) (N := some 14) (v := ?_) (a' := ?_) #[false, true, true, false, false, false, false] rfl rfl (by kernel_rfl) (fun _ _ _ h => h) (Or.inl ⟨by rfl, ?_⟩) ?_ ?_
 rotate_left
 ·intro w'
  go_simp
  with_reducible rfl
 rotate_left
 ·simp only [Act.put, lsp, Ac9, Ad4]
  rfl
 refine Ah8 (i := 3) (N := some 15) (v := ?_) (a' := ?_) #[false, true, true, true, false, false, false] rfl rfl (by kernel_rfl) (fun _ _ _ h => h) (Or.inl ⟨by rfl, ?_⟩) ?_ ?_
 rotate_left
 ·intro w'
  go_simp
  with_reducible rfl
 rotate_left
 ·simp only [Act.put, lsp, Ac9, Ad4]
  rfl
 refine Ah8 (i := 6) (N := some 18) (v := ?_) (a' := ?_) #[false, true, true, true, false, false, true] rfl rfl (by kernel_rfl) (fun _ _ _ h => h) (Or.inl ⟨by rfl, ?_⟩) ?_ ?_
 rotate_left
 ·intro w'
  go_simp
  with_reducible rfl
 rotate_left
 ·simp only [Act.put, lsp, Ac9, Ad4]
  rfl
 refine take_ (i := 0) (N := some 12) (v := ?_) (a' := ?_) #[true, true, true, true, false, false, true] rfl rfl (by kernel_rfl) (fun _ _ _ h => h) (Or.inl ⟨by rfl, ?_⟩) hHeld ?_ ?_
 rotate_left
 ·rintro w' ⟨s0, s1⟩
  go_simp
  with_reducible rfl
 rotate_left
 ·simp only [Act.put, lsp, Ac9, Ad4]
  rfl
 refine take_ (i := 4) (N := some 16) (v := ?_) (a' := ?_) #[true, true, true, true, true, false, true] rfl rfl (by kernel_rfl) (fun _ _ _ h => h) (Or.inl ⟨by rfl, ?_⟩) hHeld ?_ ?_
 rotate_left
 ·rintro w' ⟨s0, s1⟩
  go_simp
  with_reducible rfl
 rotate_left
 ·simp only [Act.put, lsp, Ac9, Ad4]
  rfl
 refine Ax1 (i := 5) (N := some 17) #[true, true, true, true, true, true, true] rfl rfl (by kernel_rfl) (by decide) (fun K hK => ?_)
 refine gs Tryz.func87 #[.agg #[.slice A0_0 l0_0.length c0_0], .int .i64 (rd l1 a2)] ?_
 refine (impl_arityOf.calls _ _ l0_0 (rd l1 a2) t338 _ (cq (Kd.C_below HR0_0.out HB.out)) HC0_0.out A6.out).mono ?_
 rintro e w11 ⟨rfl, hb⟩
 refine ⟨_, rfl, ?_⟩
 replace HO336 := rb HO336 hb
 replace BK333 := bb BK333 hb
 replace HB := sb HB hb
 (try clear hb)
 (try clear hk)
 refine hK.out _ _ ⟨(Aa0 BK333.out 0).trans rfl, (cz HB.out hw337_0)⟩ (fun hHeld => ?_)
 clear hK K
 refine nr (some 17) ?_
 refine Ag1 (by kernel_rfl) ?_
 try go_wp2
 go_loopg [7, 8, 18] k (fun kq v7 v8 v18 w' => ∃ (x7_1 : List Int) (x8_1 : Int) (x18_1 : Int), v8 = .int .i64 x8_1 ∧ v18 = .int .i64 x18_1 ∧ Aside0 (impl_argumentsOf.l0 kq l1 x7_1 x8_1 t338 x18_1 l0_0 = some r) ∧ Aside0 (kq ≤ k) ∧ Aside0 (Kd.R (Kd.int .i64) 3 w' w.heap.size (fun _ => True) v7 x7_1) ∧ Aside0 (w'.heap[gb333]? = some (.cells #[(.slice A0_0 l0_0.length c0_0)] 36 (0, 0))) ∧ Aside0 (Below w.heap.size w w'))
 case atStart => exact ⟨(y334), (wrap64 (a2 + 1)), (0), et, et, H', ⟨Nat.le_refl _⟩, ⟨rq HO336.out⟩, ⟨by refine bq ?_; exact BK333.out⟩, ⟨hs HB.out⟩⟩
 case round =>
  clear H'
  try clear c1; try clear c4b0; try clear c5b0; try clear hx337_0; try clear p337; try clear q337
  obtain ⟨x7_1, x8_1, x18_1, rfl, rfl, HA, HK1, HO_7, BK333, HB⟩ := hrel
  cases gk with
  | zero => exact absurd HA.out (by simp [impl_argumentsOf.l0])
  | succ k1 =>
   have H := HA.out
   clear HA
   simp only [impl_argumentsOf.l0] at H
   by_cases c12 : x18_1 < t338
   ·rw [if_pos c12] at H
    have c12b0 : decide (x18_1 < t338) = true := decide_eq_true c12
    clear c12
    obtain ⟨c13, H⟩ := ifs H
    have LMc13 := am c13
    clear c13
    obtain ⟨y339, hy339⟩ : ∃ y_ : List Int, y_ = (x7_1 ++ [x8_1]) := ⟨_, rfl⟩
    replace H : ((impl_endOf.f k1 l0_0 l1 x8_1).bind fun t342 => (impl_argumentsOf.l0 k1 l1 y339 t342 t338 (wrap64 (x18_1 + 1)) l0_0)) = some r := by first | (rw [hy339]; with_reducible exact H) | (have H2_ := (Option.bind_some _ _).symm.trans H; rw [hy339]; with_reducible exact H2_) | (have H2_ := (Option.bind_some _ _).symm.trans H; with_reducible exact H2_) | with_reducible exact H | (rw [hy339]; exact H) | exact H
    have Ny339 := am hy339
    clear hy339
    obtain ⟨t342, A14, H⟩ := ob H
    try dsimp only at H
    have H' := am H
    clear H
    go_wp2_with (first | ((with_reducible refine Ah2 (b := .append) (xs := #[.tmp 20, .tmp 22]) rfl ?_); at_builtin; refine Kd.R_append (Kd.int .i64) (w0 := w) w.heap.size rfl (.tmp 20) (.tmp 22) 136 3 (.int .i64 0) 8 rfl Tryz.underlying136 info3 rfl (by decide) (by omega) u7 x7_1 x8_1 [.int .i64 x8_1] (fun _ => True) (fun _ => False) rfl rfl ?aP (fun _ hk => hk.elim) ?aF ?aO ?aB ?aS ?aL ?_; (case aP => exact rfl); (case aB => exact (hs HB.out)); (case aF => exact (fun _ _ => trivial)); (case aO => exact (rq HO_7.out)); (case aS => exact (Aa6 (hs HB.out))); (case aL => have := LMc13.out; omega); intro v340 w15 ho hb hg hat; rw [← Ny339.out] at ho; replace BK333 := am (blk_grown (bq BK333.out) hg (Kd.R_ne HO_7.out BK333.out (by decide))); replace HB := am (hb); have HO341 := am (ho); clear HO_7; clear ho hb hg hat; have hcz16_0 : w15.cell? ⟨gb333, 0, none⟩ = some (.slice A0_0 l0_0.length c0_0) := (Aa0 BK333.out 0).trans rfl; have hfz16_0 := Aa1 BK333.out 0) | (refine gl (some 27) Tryz.func60 rfl #[.agg #[.slice A0_0 l0_0.length c0_0], .slice (some ad337) l1.length c1, .int .i64 x8_1] ?_; refine (impl_endOf.calls k1 _ _ l0_0 _ _ l1 x8_1 t342 _ (cq (Kd.C_below HR0_0.out HB.out)) HC0_0.out (cq (Kd.C_below HR1.out HB.out)) HC1.out A14.out).mono ?_; rintro e w17 ⟨rfl, hb⟩; refine ⟨_, rfl, ?_⟩; replace HO341 := rb HO341 hb; replace BK333 := bb BK333 hb; replace HB := sb HB hb; (try clear hb); (try clear hk)))
    go_roundg k1
    case measure => have := HK1.out; omega
    case rel => exact ⟨(y339), (t342), (wrap64 (x18_1 + 1)), et, et, H', ⟨by have := HK1.out; omega⟩, ⟨rq HO341.out⟩, ⟨by refine bq ?_; exact BK333.out⟩, ⟨hs HB.out⟩⟩
   ·rw [if_neg c12] at H
    have c12b0 : decide (x18_1 < t338) = false := decide_eq_false c12
    clear c12
    obtain rfl := Option.some.inj H
    go_wp2
    go_ret
    exact ⟨_, er, rq HO_7.out, hs HB.out⟩
end Go.Proofs.YtgichahebemmiaaGreatDoor.P
namespace Go.Proofs.YtgichahebemmiaaGreatDoor.P
open Go.RowKit Go.Proofs.YtgichahebemmiaaGreatDoorW.PrintWords Go.Proofs.YtgichahebemmiaaGreatDoorW.PrintLast Go.Proofs.YtgichahebemmiaaGreatDoorW.PrintMore
attribute [local go_sem] Ae7 Ae4 Af9 Ag0 Ad3 Ad2 Ae8 Ae5   -- for this text's walks alone
set_option linter.unusedVariables false
set_option linter.unusedSimpArgs false
def impl_comparer_same.f (k : Nat) (l0 : List (S114)) (a1 : Int) (a2 : Int) : Option (Bool) := if 0 < (l0.length : Int) then ((impl_subterm.f k ((Aa2 l0 0).f0.f0) ((Aa2 l0 0).f2) a1).bind fun t347 => ((impl_subterm.f k ((Aa2 l0 0).f0.f0) ((Aa2 l0 0).f3) a2).bind fun t354 => ((slices_Equal_int64_int64.f k t347 t354).bind fun t357 => (some t357)))) else (none)
theorem impl_comparer_same.mono : ∀ a0 a1 a2 k, LeO (impl_comparer_same.f k a0 a1 a2) (impl_comparer_same.f (k + 1) a0 a1 a2) := by
 intro a0 a1 a2 k
 unfold impl_comparer_same.f
 repeat' first | (with_reducible first | apply impl_subterm.mono | apply slices_Equal_int64_int64.mono | exact LeO.refl _ | exact LeO.none _ | refine LeO.ite ?_ ?_ | refine LeO.bind ?_ (fun _ => ?_)) | apply impl_subterm.mono | apply slices_Equal_int64_int64.mono | exact LeO.none _ | refine LeO.ite ?_ ?_ | refine LeO.bind ?_ (fun _ => ?_)
def impl_comparer_same.T1 : Bool × List (List Nat × List Nat) := (true, [([], []), ([0], [0]), ([1], [1]), ([2], [2]), ([], []), ([4], [4]), ([5], [5]), ([6], [6]), ([], []), ([3, 7, 8], [3, 7, 8]), ([], []), ([10], [10]), ([11], [11]), ([12], [12]), ([], []), ([14], [14]), ([15], [15]), ([16], [16]), ([], []), ([13, 17, 18, 9], [13, 17, 18]), ([9, 19, 19], [9, 19]), ([20, 20, 0, 1, 2, 3, 4, 5, 6, 7, 8, 9, 10, 11, 12, 13, 14, 15, 16, 17, 18, 19, 20], [20])])
def impl_comparer_same.B1 : List Nat := [0, 1, 3, 7, 0, 16, 48, 112, 0, 511, 0, 1024, 3072, 7168, 0, 16384, 49152, 114688, 0, 524287, 1048575, 2097151]
theorem impl_comparer_same.tab1 : Aj9 .any (Ak7 Tryz.f116 1) = impl_comparer_same.T1 := by kernel_rfl
theorem impl_comparer_same.bits1 : Ae6 impl_comparer_same.T1.2 impl_comparer_same.B1 = true := by kernel_rfl
set_option maxHeartbeats 8000000 in
set_option maxRecDepth 100000 in
theorem impl_comparer_same.calls (k : Nat) (A0 : Option Addr) (l0 : List (S114)) (a1 : Int) (a2 : Int) (r : Bool) (w : World) (hr0 : Kd.C Au8 w A0 l0.length l0) (h : impl_comparer_same.f k l0 a1 a2 = some r) :
  Calls Tryz.prog 116 #[.pointer A0, .int .i64 a1, .int .i64 a2] w fun e w' => e = .returned (.bool r) ∧ Below w.heap.size w w' := by
 have hu36 := Tryz.underlying36
 have HR0 := am hr0
 clear hr0
 have HB := am (Below.refl w.heap.size w)
 have H : (if 0 < (l0.length : Int) then ((impl_subterm.f k ((Aa2 l0 0).f0.f0) ((Aa2 l0 0).f2) a1).bind fun t347 => ((impl_subterm.f k ((Aa2 l0 0).f0.f0) ((Aa2 l0 0).f3) a2).bind fun t354 => ((slices_Equal_int64_int64.f k t347 t354).bind fun t357 => (some t357)))) else (none)) = some r := h
 clear h
 obtain ⟨c4, H⟩ := ifs H
 have c4b0 : decide (0 < (l0.length : Int)) = true := decide_eq_true c4
 have c4b1 : decide (0 < l0.length) = true := decide_eq_true (by omega)
 clear c4
 obtain ⟨t347, A5, H⟩ := ob H
 try dsimp only at H
 obtain ⟨t354, A6, H⟩ := ob H
 try dsimp only at H
 obtain ⟨t357, A7, H⟩ := ob H
 try dsimp only at H
 obtain rfl := Option.some.inj H
 go_enter Tryz.func116, Tryz.ntmps116
 try go_wp2
 replace HB := am (Ab0 HB.out)
 have p343 : 0 ≤ (0 : Int) := (by omega)
 have q343 : 0 < (l0.length : Int) := od
 obtain ⟨ad343, A343_0, c343_0, A343_1, c343_1, A343_2, c343_2, A343_3, c343_3, e343, hx343_0, hx343_1, hx343_2, hx343_3, hx343_4, hl343_0, hi343_0, hl343_1, hi343_1, hl343_2, hi343_2, hl343_3, hi343_3⟩ := Ak1 HR0.out 0 p343 q343
 have hw343_4 := hx343_4
 (try rw [show ((0 : Int)).toNat = 0 from rfl] at hw343_4)
 (try rw [show 0 * 5 = 0 from rfl] at hw343_4)
 (try rw [Addr.add_zero'] at hw343_4)
 have hw343_3 := hx343_3
 (try rw [show ((0 : Int)).toNat = 0 from rfl] at hw343_3)
 (try rw [show 0 * 5 = 0 from rfl] at hw343_3)
 (try rw [Addr.add_zero'] at hw343_3)
 have hw343_2 := hx343_2
 (try rw [show ((0 : Int)).toNat = 0 from rfl] at hw343_2)
 (try rw [show 0 * 5 = 0 from rfl] at hw343_2)
 (try rw [Addr.add_zero'] at hw343_2)
 have hw343_1 := hx343_1
 (try rw [show ((0 : Int)).toNat = 0 from rfl] at hw343_1)
 (try rw [show 0 * 5 = 0 from rfl] at hw343_1)
 (try rw [Addr.add_zero'] at hw343_1)
 have hw343_0 := hx343_0
 (try rw [show ((0 : Int)).toNat = 0 from rfl] at hw343_0)
 (try rw [show 0 * 5 = 0 from rfl] at hw343_0)
 (try rw [Addr.add_zero'] at hw343_0)
 cases e343
 have qi343 : (0 < l0.length) = True := eq_true (by omega)
 (try rw [show ((0 : Int)).toNat = 0 from rfl] at hx343_0)
 (try rw [show 0 * 5 = 0 from rfl] at hx343_0)
 (try rw [Addr.add_zero'] at hx343_0)
 (try rw [show ((0 : Int)).toNat = 0 from rfl] at hx343_1)
 (try rw [show 0 * 5 = 0 from rfl] at hx343_1)
 (try rw [Addr.add_zero'] at hx343_1)
 (try rw [show ((0 : Int)).toNat = 0 from rfl] at hx343_2)
 (try rw [show 0 * 5 = 0 from rfl] at hx343_2)
 (try rw [Addr.add_zero'] at hx343_2)
 (try rw [show ((0 : Int)).toNat = 0 from rfl] at hx343_3)
 (try rw [show 0 * 5 = 0 from rfl] at hx343_3)
 (try rw [Addr.add_zero'] at hx343_3)
 (try rw [show ((0 : Int)).toNat = 0 from rfl] at hx343_4)
 (try rw [show 0 * 5 = 0 from rfl] at hx343_4)
 (try rw [Addr.add_zero'] at hx343_4)
 replace hx343_0 := cz HB.out hx343_0
 replace hx343_1 := cz HB.out hx343_1
 replace hx343_2 := cz HB.out hx343_2
 replace hx343_3 := cz HB.out hx343_3
 replace hx343_4 := cz HB.out hx343_4
 have HR343_0 := am hi343_0
 have HC343_0 := am hl343_0
 clear hi343_0 hl343_0
 have HR343_1 := am hi343_1
 have HC343_1 := am hl343_1
 clear hi343_1 hl343_1
 have HR343_2 := am hi343_2
 have HC343_2 := am hl343_2
 clear hi343_2 hl343_2
 have HR343_3 := am hi343_3
 have HC343_3 := am hl343_3
 clear hi343_3 hl343_3
 replace p343 := eq_true p343
 replace q343 := eq_true q343
 have p344 : 0 ≤ (0 : Int) := (by omega)
 have q344 : 0 < (l0.length : Int) := od
 obtain ⟨ad344, A344_0, c344_0, A344_1, c344_1, A344_2, c344_2, A344_3, c344_3, e344, hx344_0, hx344_1, hx344_2, hx344_3, hx344_4, hl344_0, hi344_0, hl344_1, hi344_1, hl344_2, hi344_2, hl344_3, hi344_3⟩ := Ak1 HR0.out 0 p344 q344
 have hw344_4 := hx344_4
 (try rw [show ((0 : Int)).toNat = 0 from rfl] at hw344_4)
 (try rw [show 0 * 5 = 0 from rfl] at hw344_4)
 (try rw [Addr.add_zero'] at hw344_4)
 have hw344_3 := hx344_3
 (try rw [show ((0 : Int)).toNat = 0 from rfl] at hw344_3)
 (try rw [show 0 * 5 = 0 from rfl] at hw344_3)
 (try rw [Addr.add_zero'] at hw344_3)
 have hw344_2 := hx344_2
 (try rw [show ((0 : Int)).toNat = 0 from rfl] at hw344_2)
 (try rw [show 0 * 5 = 0 from rfl] at hw344_2)
 (try rw [Addr.add_zero'] at hw344_2)
 have hw344_1 := hx344_1
 (try rw [show ((0 : Int)).toNat = 0 from rfl] at hw344_1)
 (try rw [show 0 * 5 = 0 from rfl] at hw344_1)
 (try rw [Addr.add_zero'] at hw344_1)
 have hw344_0 := hx344_0
 (try rw [show ((0 : Int)).toNat = 0 from rfl] at hw344_0)
 (try rw [show 0 * 5 = 0 from rfl] at hw344_0)
 (try rw [Addr.add_zero'] at hw344_0)
 obtain rfl : ad343 = ad344 := (by injection e344)
 have qi344 : (0 < l0.length) = True := eq_true (by omega)
 (try rw [show ((0 : Int)).toNat = 0 from rfl] at hx344_0)
 (try rw [show 0 * 5 = 0 from rfl] at hx344_0)
 (try rw [Addr.add_zero'] at hx344_0)
 (try rw [show ((0 : Int)).toNat = 0 from rfl] at hx344_1)
 (try rw [show 0 * 5 = 0 from rfl] at hx344_1)
 (try rw [Addr.add_zero'] at hx344_1)
 (try rw [show ((0 : Int)).toNat = 0 from rfl] at hx344_2)
 (try rw [show 0 * 5 = 0 from rfl] at hx344_2)
 (try rw [Addr.add_zero'] at hx344_2)
 (try rw [show ((0 : Int)).toNat = 0 from rfl] at hx344_3)
 (try rw [show 0 * 5 = 0 from rfl] at hx344_3)
 (try rw [Addr.add_zero'] at hx344_3)
 (try rw [show ((0 : Int)).toNat = 0 from rfl] at hx344_4)
 (try rw [show 0 * 5 = 0 from rfl] at hx344_4)
 (try rw [Addr.add_zero'] at hx344_4)
 replace hx344_0 := cz HB.out hx344_0
 replace hx344_1 := cz HB.out hx344_1
 replace hx344_2 := cz HB.out hx344_2
 replace hx344_3 := cz HB.out hx344_3
 replace hx344_4 := cz HB.out hx344_4
 have HR344_0 := am hi344_0
 have HC344_0 := am hl344_0
 clear hi344_0 hl344_0
 have HR344_1 := am hi344_1
 have HC344_1 := am hl344_1
 clear hi344_1 hl344_1
 have HR344_2 := am hi344_2
 have HC344_2 := am hl344_2
 clear hi344_2 hl344_2
 have HR344_3 := am hi344_3
 have HC344_3 := am hl344_3
 clear hi344_3 hl344_3
 replace p344 := eq_true p344
 replace q344 := eq_true q344
 have ea_ := Option.some.inj (hx343_0.symm.trans hx344_0)
 injection ea_ with ea_ en_ ec_
 subst ea_
 subst ec_
 clear en_
 have ea_ := Option.some.inj (hx343_1.symm.trans hx344_1)
 injection ea_ with ea_ en_ ec_
 subst ea_
 subst ec_
 clear en_
 have ea_ := Option.some.inj (hx343_2.symm.trans hx344_2)
 injection ea_ with ea_ en_ ec_
 subst ea_
 subst ec_
 clear en_
 have ea_ := Option.some.inj (hx343_3.symm.trans hx344_3)
 injection ea_ with ea_ en_ ec_
 subst ea_
 subst ec_
 clear en_
 have p345 : 0 ≤ (0 : Int) := (by omega)
 have q345 : 0 < (l0.length : Int) := od
 obtain ⟨ad345, A345_0, c345_0, A345_1, c345_1, A345_2, c345_2, A345_3, c345_3, e345, hx345_0, hx345_1, hx345_2, hx345_3, hx345_4, hl345_0, hi345_0, hl345_1, hi345_1, hl345_2, hi345_2, hl345_3, hi345_3⟩ := Ak1 HR0.out 0 p345 q345
 have hw345_4 := hx345_4
 (try rw [show ((0 : Int)).toNat = 0 from rfl] at hw345_4)
 (try rw [show 0 * 5 = 0 from rfl] at hw345_4)
 (try rw [Addr.add_zero'] at hw345_4)
 have hw345_3 := hx345_3
 (try rw [show ((0 : Int)).toNat = 0 from rfl] at hw345_3)
 (try rw [show 0 * 5 = 0 from rfl] at hw345_3)
 (try rw [Addr.add_zero'] at hw345_3)
 have hw345_2 := hx345_2
 (try rw [show ((0 : Int)).toNat = 0 from rfl] at hw345_2)
 (try rw [show 0 * 5 = 0 from rfl] at hw345_2)
 (try rw [Addr.add_zero'] at hw345_2)
 have hw345_1 := hx345_1
 (try rw [show ((0 : Int)).toNat = 0 from rfl] at hw345_1)
 (try rw [show 0 * 5 = 0 from rfl] at hw345_1)
 (try rw [Addr.add_zero'] at hw345_1)
 have hw345_0 := hx345_0
 (try rw [show ((0 : Int)).toNat = 0 from rfl] at hw345_0)
 (try rw [show 0 * 5 = 0 from rfl] at hw345_0)
 (try rw [Addr.add_zero'] at hw345_0)
 obtain rfl : ad343 = ad345 := (by injection e345)
 have qi345 : (0 < l0.length) = True := eq_true (by omega)
 (try rw [show ((0 : Int)).toNat = 0 from rfl] at hx345_0)
 (try rw [show 0 * 5 = 0 from rfl] at hx345_0)
 (try rw [Addr.add_zero'] at hx345_0)
 (try rw [show ((0 : Int)).toNat = 0 from rfl] at hx345_1)
 (try rw [show 0 * 5 = 0 from rfl] at hx345_1)
 (try rw [Addr.add_zero'] at hx345_1)
 (try rw [show ((0 : Int)).toNat = 0 from rfl] at hx345_2)
 (try rw [show 0 * 5 = 0 from rfl] at hx345_2)
 (try rw [Addr.add_zero'] at hx345_2)
 (try rw [show ((0 : Int)).toNat = 0 from rfl] at hx345_3)
 (try rw [show 0 * 5 = 0 from rfl] at hx345_3)
 (try rw [Addr.add_zero'] at hx345_3)
 (try rw [show ((0 : Int)).toNat = 0 from rfl] at hx345_4)
 (try rw [show 0 * 5 = 0 from rfl] at hx345_4)
 (try rw [Addr.add_zero'] at hx345_4)
 replace hx345_0 := cz HB.out hx345_0
 replace hx345_1 := cz HB.out hx345_1
 replace hx345_2 := cz HB.out hx345_2
 replace hx345_3 := cz HB.out hx345_3
 replace hx345_4 := cz HB.out hx345_4
 have HR345_0 := am hi345_0
 have HC345_0 := am hl345_0
 clear hi345_0 hl345_0
 have HR345_1 := am hi345_1
 have HC345_1 := am hl345_1
 clear hi345_1 hl345_1
 have HR345_2 := am hi345_2
 have HC345_2 := am hl345_2
 clear hi345_2 hl345_2
 have HR345_3 := am hi345_3
 have HC345_3 := am hl345_3
 clear hi345_3 hl345_3
 replace p345 := eq_true p345
 replace q345 := eq_true q345
 have ea_ := Option.some.inj (hx343_0.symm.trans hx345_0)
 injection ea_ with ea_ en_ ec_
 subst ea_
 subst ec_
 clear en_
 have ea_ := Option.some.inj (hx343_1.symm.trans hx345_1)
 injection ea_ with ea_ en_ ec_
 subst ea_
 subst ec_
 clear en_
 have ea_ := Option.some.inj (hx343_2.symm.trans hx345_2)
 injection ea_ with ea_ en_ ec_
 subst ea_
 subst ec_
 clear en_
 have ea_ := Option.some.inj (hx343_3.symm.trans hx345_3)
 injection ea_ with ea_ en_ ec_
 subst ea_
 subst ec_
 clear en_
 have p346 : 0 ≤ (0 : Int) := (by omega)
 have q346 : 0 < (l0.length : Int) := od
 obtain ⟨ad346, A346_0, c346_0, A346_1, c346_1, A346_2, c346_2, A346_3, c346_3, e346, hx346_0, hx346_1, hx346_2, hx346_3, hx346_4, hl346_0, hi346_0, hl346_1, hi346_1, hl346_2, hi346_2, hl346_3, hi346_3⟩ := Ak1 HR0.out 0 p346 q346
 have hw346_4 := hx346_4
 (try rw [show ((0 : Int)).toNat = 0 from rfl] at hw346_4)
 (try rw [show 0 * 5 = 0 from rfl] at hw346_4)
 (try rw [Addr.add_zero'] at hw346_4)
 have hw346_3 := hx346_3
 (try rw [show ((0 : Int)).toNat = 0 from rfl] at hw346_3)
 (try rw [show 0 * 5 = 0 from rfl] at hw346_3)
 (try rw [Addr.add_zero'] at hw346_3)
 have hw346_2 := hx346_2
 (try rw [show ((0 : Int)).toNat = 0 from rfl] at hw346_2)
 (try rw [show 0 * 5 = 0 from rfl] at hw346_2)
 (try rw [Addr.add_zero'] at hw346_2)
 have hw346_1 := hx346_1
 (try rw [show ((0 : Int)).toNat = 0 from rfl] at hw346_1)
 (try rw [show 0 * 5 = 0 from rfl] at hw346_1)
 (try rw [Addr.add_zero'] at hw346_1)
 have hw346_0 := hx346_0
 (try rw [show ((0 : Int)).toNat = 0 from rfl] at hw346_0)
 (try rw [show 0 * 5 = 0 from rfl] at hw346_0)
 (try rw [Addr.add_zero'] at hw346_0)
 obtain rfl : ad343 = ad346 := (by injection e346)
 have qi346 : (0 < l0.length) = True := eq_true (by omega)
 (try rw [show ((0 : Int)).toNat = 0 from rfl] at hx346_0)
 (try rw [show 0 * 5 = 0 from rfl] at hx346_0)
 (try rw [Addr.add_zero'] at hx346_0)
 (try rw [show ((0 : Int)).toNat = 0 from rfl] at hx346_1)
 (try rw [show 0 * 5 = 0 from rfl] at hx346_1)
 (try rw [Addr.add_zero'] at hx346_1)
 (try rw [show ((0 : Int)).toNat = 0 from rfl] at hx346_2)
 (try rw [show 0 * 5 = 0 from rfl] at hx346_2)
 (try rw [Addr.add_zero'] at hx346_2)
 (try rw [show ((0 : Int)).toNat = 0 from rfl] at hx346_3)
 (try rw [show 0 * 5 = 0 from rfl] at hx346_3)
 (try rw [Addr.add_zero'] at hx346_3)
 (try rw [show ((0 : Int)).toNat = 0 from rfl] at hx346_4)
 (try rw [show 0 * 5 = 0 from rfl] at hx346_4)
 (try rw [Addr.add_zero'] at hx346_4)
 replace hx346_0 := cz HB.out hx346_0
 replace hx346_1 := cz HB.out hx346_1
 replace hx346_2 := cz HB.out hx346_2
 replace hx346_3 := cz HB.out hx346_3
 replace hx346_4 := cz HB.out hx346_4
 have HR346_0 := am hi346_0
 have HC346_0 := am hl346_0
 clear hi346_0 hl346_0
 have HR346_1 := am hi346_1
 have HC346_1 := am hl346_1
 clear hi346_1 hl346_1
 have HR346_2 := am hi346_2
 have HC346_2 := am hl346_2
 clear hi346_2 hl346_2
 have HR346_3 := am hi346_3
 have HC346_3 := am hl346_3
 clear hi346_3 hl346_3
 replace p346 := eq_true p346
 replace q346 := eq_true q346
 have ea_ := Option.some.inj (hx343_0.symm.trans hx346_0)
 injection ea_ with ea_ en_ ec_
 subst ea_
 subst ec_
 clear en_
 have ea_ := Option.some.inj (hx343_1.symm.trans hx346_1)
 injection ea_ with ea_ en_ ec_
 subst ea_
 subst ec_
 clear en_
 have ea_ := Option.some.inj (hx343_2.symm.trans hx346_2)
 injection ea_ with ea_ en_ ec_
 subst ea_
 subst ec_
 clear en_
 have ea_ := Option.some.inj (hx343_3.symm.trans hx346_3)
 injection ea_ with ea_ en_ ec_
 subst ea_
 subst ec_
 clear en_
 have p350 : 0 ≤ (0 : Int) := (by omega)
 have q350 : 0 < (l0.length : Int) := od
 obtain ⟨ad350, A350_0, c350_0, A350_1, c350_1, A350_2, c350_2, A350_3, c350_3, e350, hx350_0, hx350_1, hx350_2, hx350_3, hx350_4, hl350_0, hi350_0, hl350_1, hi350_1, hl350_2, hi350_2, hl350_3, hi350_3⟩ := Ak1 HR0.out 0 p350 q350
 have hw350_4 := hx350_4
 (try rw [show ((0 : Int)).toNat = 0 from rfl] at hw350_4)
 (try rw [show 0 * 5 = 0 from rfl] at hw350_4)
 (try rw [Addr.add_zero'] at hw350_4)
 have hw350_3 := hx350_3
 (try rw [show ((0 : Int)).toNat = 0 from rfl] at hw350_3)
 (try rw [show 0 * 5 = 0 from rfl] at hw350_3)
 (try rw [Addr.add_zero'] at hw350_3)
 have hw350_2 := hx350_2
 (try rw [show ((0 : Int)).toNat = 0 from rfl] at hw350_2)
 (try rw [show 0 * 5 = 0 from rfl] at hw350_2)
 (try rw [Addr.add_zero'] at hw350_2)
 have hw350_1 := hx350_1
 (try rw [show ((0 : Int)).toNat = 0 from rfl] at hw350_1)
 (try rw [show 0 * 5 = 0 from rfl] at hw350_1)
 (try rw [Addr.add_zero'] at hw350_1)
 have hw350_0 := hx350_0
 (try rw [show ((0 : Int)).toNat = 0 from rfl] at hw350_0)
 (try rw [show 0 * 5 = 0 from rfl] at hw350_0)
 (try rw [Addr.add_zero'] at hw350_0)
 obtain rfl : ad343 = ad350 := (by injection e350)
 have qi350 : (0 < l0.length) = True := eq_true (by omega)
 (try rw [show ((0 : Int)).toNat = 0 from rfl] at hx350_0)
 (try rw [show 0 * 5 = 0 from rfl] at hx350_0)
 (try rw [Addr.add_zero'] at hx350_0)
 (try rw [show ((0 : Int)).toNat = 0 from rfl] at hx350_1)
 (try rw [show 0 * 5 = 0 from rfl] at hx350_1)
 (try rw [Addr.add_zero'] at hx350_1)
 (try rw [show ((0 : Int)).toNat = 0 from rfl] at hx350_2)
 (try rw [show 0 * 5 = 0 from rfl] at hx350_2)
 (try rw [Addr.add_zero'] at hx350_2)
 (try rw [show ((0 : Int)).toNat = 0 from rfl] at hx350_3)
 (try rw [show 0 * 5 = 0 from rfl] at hx350_3)
 (try rw [Addr.add_zero'] at hx350_3)
 (try rw [show ((0 : Int)).toNat = 0 from rfl] at hx350_4)
 (try rw [show 0 * 5 = 0 from rfl] at hx350_4)
 (try rw [Addr.add_zero'] at hx350_4)
 replace hx350_0 := cz HB.out hx350_0
 replace hx350_1 := cz HB.out hx350_1
 replace hx350_2 := cz HB.out hx350_2
 replace hx350_3 := cz HB.out hx350_3
 replace hx350_4 := cz HB.out hx350_4
 have HR350_0 := am hi350_0
 have HC350_0 := am hl350_0
 clear hi350_0 hl350_0
 have HR350_1 := am hi350_1
 have HC350_1 := am hl350_1
 clear hi350_1 hl350_1
 have HR350_2 := am hi350_2
 have HC350_2 := am hl350_2
 clear hi350_2 hl350_2
 have HR350_3 := am hi350_3
 have HC350_3 := am hl350_3
 clear hi350_3 hl350_3
 replace p350 := eq_true p350
 replace q350 := eq_true q350
 have ea_ := Option.some.inj (hx343_0.symm.trans hx350_0)
 injection ea_ with ea_ en_ ec_
 subst ea_
 subst ec_
 clear en_
 have ea_ := Option.some.inj (hx343_1.symm.trans hx350_1)
 injection ea_ with ea_ en_ ec_
 subst ea_
 subst ec_
 clear en_
 have ea_ := Option.some.inj (hx343_2.symm.trans hx350_2)
 injection ea_ with ea_ en_ ec_
 subst ea_
 subst ec_
 clear en_
 have ea_ := Option.some.inj (hx343_3.symm.trans hx350_3)
 injection ea_ with ea_ en_ ec_
 subst ea_
 subst ec_
 clear en_
 have p351 : 0 ≤ (0 : Int) := (by omega)
 have q351 : 0 < (l0.length : Int) := od
 obtain ⟨ad351, A351_0, c351_0, A351_1, c351_1, A351_2, c351_2, A351_3, c351_3, e351, hx351_0, hx351_1, hx351_2, hx351_3, hx351_4, hl351_0, hi351_0, hl351_1, hi351_1, hl351_2, hi351_2, hl351_3, hi351_3⟩ := Ak1 HR0.out 0 p351 q351
 have hw351_4 := hx351_4
 (try rw [show ((0 : Int)).toNat = 0 from rfl] at hw351_4)
 (try rw [show 0 * 5 = 0 from rfl] at hw351_4)
 (try rw [Addr.add_zero'] at hw351_4)
 have hw351_3 := hx351_3
 (try rw [show ((0 : Int)).toNat = 0 from rfl] at hw351_3)
 (try rw [show 0 * 5 = 0 from rfl] at hw351_3)
 (try rw [Addr.add_zero'] at hw351_3)
 have hw351_2 := hx351_2
 (try rw [show ((0 : Int)).toNat = 0 from rfl] at hw351_2)
 (try rw [show 0 * 5 = 0 from rfl] at hw351_2)
 (try rw [Addr.add_zero'] at hw351_2)
 have hw351_1 := hx351_1
 (try rw [show ((0 : Int)).toNat = 0 from rfl] at hw351_1)
 (try rw [show 0 * 5 = 0 from rfl] at hw351_1)
 (try rw [Addr.add_zero'] at hw351_1)
 have hw351_0 := hx351_0
 (try rw [show ((0 : Int)).toNat = 0 from rfl] at hw351_0)
 (try rw [show 0 * 5 = 0 from rfl] at hw351_0)
 (try rw [Addr.add_zero'] at hw351_0)
 obtain rfl : ad343 = ad351 := (by injection e351)
 have qi351 : (0 < l0.length) = True := eq_true (by omega)
 (try rw [show ((0 : Int)).toNat = 0 from rfl] at hx351_0)
 (try rw [show 0 * 5 = 0 from rfl] at hx351_0)
 (try rw [Addr.add_zero'] at hx351_0)
 (try rw [show ((0 : Int)).toNat = 0 from rfl] at hx351_1)
 (try rw [show 0 * 5 = 0 from rfl] at hx351_1)
 (try rw [Addr.add_zero'] at hx351_1)
 (try rw [show ((0 : Int)).toNat = 0 from rfl] at hx351_2)
 (try rw [show 0 * 5 = 0 from rfl] at hx351_2)
 (try rw [Addr.add_zero'] at hx351_2)
 (try rw [show ((0 : Int)).toNat = 0 from rfl] at hx351_3)
 (try rw [show 0 * 5 = 0 from rfl] at hx351_3)
 (try rw [Addr.add_zero'] at hx351_3)
 (try rw [show ((0 : Int)).toNat = 0 from rfl] at hx351_4)
 (try rw [show 0 * 5 = 0 from rfl] at hx351_4)
 (try rw [Addr.add_zero'] at hx351_4)
 replace hx351_0 := cz HB.out hx351_0
 replace hx351_1 := cz HB.out hx351_1
 replace hx351_2 := cz HB.out hx351_2
 replace hx351_3 := cz HB.out hx351_3
 replace hx351_4 := cz HB.out hx351_4
 have HR351_0 := am hi351_0
 have HC351_0 := am hl351_0
 clear hi351_0 hl351_0
 have HR351_1 := am hi351_1
 have HC351_1 := am hl351_1
 clear hi351_1 hl351_1
 have HR351_2 := am hi351_2
 have HC351_2 := am hl351_2
 clear hi351_2 hl351_2
 have HR351_3 := am hi351_3
 have HC351_3 := am hl351_3
 clear hi351_3 hl351_3
 replace p351 := eq_true p351
 replace q351 := eq_true q351
 have ea_ := Option.some.inj (hx343_0.symm.trans hx351_0)
 injection ea_ with ea_ en_ ec_
 subst ea_
 subst ec_
 clear en_
 have ea_ := Option.some.inj (hx343_1.symm.trans hx351_1)
 injection ea_ with ea_ en_ ec_
 subst ea_
 subst ec_
 clear en_
 have ea_ := Option.some.inj (hx343_2.symm.trans hx351_2)
 injection ea_ with ea_ en_ ec_
 subst ea_
 subst ec_
 clear en_
 have ea_ := Option.some.inj (hx343_3.symm.trans hx351_3)
 injection ea_ with ea_ en_ ec_
 subst ea_
 subst ec_
 clear en_
 have p352 : 0 ≤ (0 : Int) := (by omega)
 have q352 : 0 < (l0.length : Int) := od
 obtain ⟨ad352, A352_0, c352_0, A352_1, c352_1, A352_2, c352_2, A352_3, c352_3, e352, hx352_0, hx352_1, hx352_2, hx352_3, hx352_4, hl352_0, hi352_0, hl352_1, hi352_1, hl352_2, hi352_2, hl352_3, hi352_3⟩ := Ak1 HR0.out 0 p352 q352
 have hw352_4 := hx352_4
 (try rw [show ((0 : Int)).toNat = 0 from rfl] at hw352_4)
 (try rw [show 0 * 5 = 0 from rfl] at hw352_4)
 (try rw [Addr.add_zero'] at hw352_4)
 have hw352_3 := hx352_3
 (try rw [show ((0 : Int)).toNat = 0 from rfl] at hw352_3)
 (try rw [show 0 * 5 = 0 from rfl] at hw352_3)
 (try rw [Addr.add_zero'] at hw352_3)
 have hw352_2 := hx352_2
 (try rw [show ((0 : Int)).toNat = 0 from rfl] at hw352_2)
 (try rw [show 0 * 5 = 0 from rfl] at hw352_2)
 (try rw [Addr.add_zero'] at hw352_2)
 have hw352_1 := hx352_1
 (try rw [show ((0 : Int)).toNat = 0 from rfl] at hw352_1)
 (try rw [show 0 * 5 = 0 from rfl] at hw352_1)
 (try rw [Addr.add_zero'] at hw352_1)
 have hw352_0 := hx352_0
 (try rw [show ((0 : Int)).toNat = 0 from rfl] at hw352_0)
 (try rw [show 0 * 5 = 0 from rfl] at hw352_0)
 (try rw [Addr.add_zero'] at hw352_0)
 obtain rfl : ad343 = ad352 := (by injection e352)
 have qi352 : (0 < l0.length) = True := eq_true (by omega)
 (try rw [show ((0 : Int)).toNat = 0 from rfl] at hx352_0)
 (try rw [show 0 * 5 = 0 from rfl] at hx352_0)
 (try rw [Addr.add_zero'] at hx352_0)
 (try rw [show ((0 : Int)).toNat = 0 from rfl] at hx352_1)
 (try rw [show 0 * 5 = 0 from rfl] at hx352_1)
 (try rw [Addr.add_zero'] at hx352_1)
 (try rw [show ((0 : Int)).toNat = 0 from rfl] at hx352_2)
 (try rw [show 0 * 5 = 0 from rfl] at hx352_2)
 (try rw [Addr.add_zero'] at hx352_2)
 (try rw [show ((0 : Int)).toNat = 0 from rfl] at hx352_3)
 (try rw [show 0 * 5 = 0 from rfl] at hx352_3)
 (try rw [Addr.add_zero'] at hx352_3)
 (try rw [show ((0 : Int)).toNat = 0 from rfl] at hx352_4)
 (try rw [show 0 * 5 = 0 from rfl] at hx352_4)
 (try rw [Addr.add_zero'] at hx352_4)
 replace hx352_0 := cz HB.out hx352_0
 replace hx352_1 := cz HB.out hx352_1
 replace hx352_2 := cz HB.out hx352_2
 replace hx352_3 := cz HB.out hx352_3
 replace hx352_4 := cz HB.out hx352_4
 have HR352_0 := am hi352_0
 have HC352_0 := am hl352_0
 clear hi352_0 hl352_0
 have HR352_1 := am hi352_1
 have HC352_1 := am hl352_1
 clear hi352_1 hl352_1
 have HR352_2 := am hi352_2
 have HC352_2 := am hl352_2
 clear hi352_2 hl352_2
 have HR352_3 := am hi352_3
 have HC352_3 := am hl352_3
 clear hi352_3 hl352_3
 replace p352 := eq_true p352
 replace q352 := eq_true q352
 have ea_ := Option.some.inj (hx343_0.symm.trans hx352_0)
 injection ea_ with ea_ en_ ec_
 subst ea_
 subst ec_
 clear en_
 have ea_ := Option.some.inj (hx343_1.symm.trans hx352_1)
 injection ea_ with ea_ en_ ec_
 subst ea_
 subst ec_
 clear en_
 have ea_ := Option.some.inj (hx343_2.symm.trans hx352_2)
 injection ea_ with ea_ en_ ec_
 subst ea_
 subst ec_
 clear en_
 have ea_ := Option.some.inj (hx343_3.symm.trans hx352_3)
 injection ea_ with ea_ en_ ec_
 subst ea_
 subst ec_
 clear en_
 have p353 : 0 ≤ (0 : Int) := (by omega)
 have q353 : 0 < (l0.length : Int) := od
 obtain ⟨ad353, A353_0, c353_0, A353_1, c353_1, A353_2, c353_2, A353_3, c353_3, e353, hx353_0, hx353_1, hx353_2, hx353_3, hx353_4, hl353_0, hi353_0, hl353_1, hi353_1, hl353_2, hi353_2, hl353_3, hi353_3⟩ := Ak1 HR0.out 0 p353 q353
 have hw353_4 := hx353_4
 (try rw [show ((0 : Int)).toNat = 0 from rfl] at hw353_4)
 (try rw [show 0 * 5 = 0 from rfl] at hw353_4)
 (try rw [Addr.add_zero'] at hw353_4)
 have hw353_3 := hx353_3
 (try rw [show ((0 : Int)).toNat = 0 from rfl] at hw353_3)
 (try rw [show 0 * 5 = 0 from rfl] at hw353_3)
 (try rw [Addr.add_zero'] at hw353_3)
 have hw353_2 := hx353_2
 (try rw [show ((0 : Int)).toNat = 0 from rfl] at hw353_2)
 (try rw [show 0 * 5 = 0 from rfl] at hw353_2)
 (try rw [Addr.add_zero'] at hw353_2)
 have hw353_1 := hx353_1
 (try rw [show ((0 : Int)).toNat = 0 from rfl] at hw353_1)
 (try rw [show 0 * 5 = 0 from rfl] at hw353_1)
 (try rw [Addr.add_zero'] at hw353_1)
 have hw353_0 := hx353_0
 (try rw [show ((0 : Int)).toNat = 0 from rfl] at hw353_0)
 (try rw [show 0 * 5 = 0 from rfl] at hw353_0)
 (try rw [Addr.add_zero'] at hw353_0)
 obtain rfl : ad343 = ad353 := (by injection e353)
 have qi353 : (0 < l0.length) = True := eq_true (by omega)
 (try rw [show ((0 : Int)).toNat = 0 from rfl] at hx353_0)
 (try rw [show 0 * 5 = 0 from rfl] at hx353_0)
 (try rw [Addr.add_zero'] at hx353_0)
 (try rw [show ((0 : Int)).toNat = 0 from rfl] at hx353_1)
 (try rw [show 0 * 5 = 0 from rfl] at hx353_1)
 (try rw [Addr.add_zero'] at hx353_1)
 (try rw [show ((0 : Int)).toNat = 0 from rfl] at hx353_2)
 (try rw [show 0 * 5 = 0 from rfl] at hx353_2)
 (try rw [Addr.add_zero'] at hx353_2)
 (try rw [show ((0 : Int)).toNat = 0 from rfl] at hx353_3)
 (try rw [show 0 * 5 = 0 from rfl] at hx353_3)
 (try rw [Addr.add_zero'] at hx353_3)
 (try rw [show ((0 : Int)).toNat = 0 from rfl] at hx353_4)
 (try rw [show 0 * 5 = 0 from rfl] at hx353_4)
 (try rw [Addr.add_zero'] at hx353_4)
 replace hx353_0 := cz HB.out hx353_0
 replace hx353_1 := cz HB.out hx353_1
 replace hx353_2 := cz HB.out hx353_2
 replace hx353_3 := cz HB.out hx353_3
 replace hx353_4 := cz HB.out hx353_4
 have HR353_0 := am hi353_0
 have HC353_0 := am hl353_0
 clear hi353_0 hl353_0
 have HR353_1 := am hi353_1
 have HC353_1 := am hl353_1
 clear hi353_1 hl353_1
 have HR353_2 := am hi353_2
 have HC353_2 := am hl353_2
 clear hi353_2 hl353_2
 have HR353_3 := am hi353_3
 have HC353_3 := am hl353_3
 clear hi353_3 hl353_3
 replace p353 := eq_true p353
 replace q353 := eq_true q353
 have ea_ := Option.some.inj (hx343_0.symm.trans hx353_0)
 injection ea_ with ea_ en_ ec_
 subst ea_
 subst ec_
 clear en_
 have ea_ := Option.some.inj (hx343_1.symm.trans hx353_1)
 injection ea_ with ea_ en_ ec_
 subst ea_
 subst ec_
 clear en_
 have ea_ := Option.some.inj (hx343_2.symm.trans hx353_2)
 injection ea_ with ea_ en_ ec_
 subst ea_
 subst ec_
 clear en_
 have ea_ := Option.some.inj (hx343_3.symm.trans hx353_3)
 injection ea_ with ea_ en_ ec_
 subst ea_
 subst ec_
 clear en_
 refine Ad5 (n := 22) (S := fun w' => w'.cell? ad343 = some (.slice A343_0 ((Aa2 l0 0).f0.f0).length c343_0) ∧ w'.cell? ⟨ad343.block, ad343.off + 1, none⟩ = some (.slice A343_1 ((Aa2 l0 0).f1).length c343_1) ∧ w'.cell? ⟨ad343.block, ad343.off + 2, none⟩ = some (.slice A343_2 ((Aa2 l0 0).f2).length c343_2) ∧ w'.cell? ⟨ad343.block, ad343.off + 3, none⟩ = some (.slice A343_3 ((Aa2 l0 0).f3).length c343_3) ∧ w'.cell? ⟨ad343.block, ad343.off + 4, none⟩ = some (.map (some ((Aa2 l0 0).f4).toNat)) ∧ w'.cell? ad343 = some (.slice A343_0 ((Aa2 l0 0).f0.f0).length c343_0) ∧ w'.cell? ⟨ad343.block, ad343.off + 1, none⟩ = some (.slice A343_1 ((Aa2 l0 0).f1).length c343_1) ∧ w'.cell? ⟨ad343.block, ad343.off + 2, none⟩ = some (.slice A343_2 ((Aa2 l0 0).f2).length c343_2) ∧ w'.cell? ⟨ad343.block, ad343.off + 3, none⟩ = some (.slice A343_3 ((Aa2 l0 0).f3).length c343_3) ∧ w'.cell? ⟨ad343.block, ad343.off + 4, none⟩ = some (.map (some ((Aa2 l0 0).f4).toNat)) ∧ w'.cell? ad343 = some (.slice A343_0 ((Aa2 l0 0).f0.f0).length c343_0) ∧ w'.cell? ⟨ad343.block, ad343.off + 1, none⟩ = some (.slice A343_1 ((Aa2 l0 0).f1).length c343_1) ∧ w'.cell? ⟨ad343.block, ad343.off + 2, none⟩ = some (.slice A343_2 ((Aa2 l0 0).f2).length c343_2) ∧ w'.cell? ⟨ad343.block, ad343.off + 3, none⟩ = some (.slice A343_3 ((Aa2 l0 0).f3).length c343_3) ∧ w'.cell? ⟨ad343.block, ad343.off + 4, none⟩ = some (.map (some ((Aa2 l0 0).f4).toNat)) ∧ w'.cell? ad343 = some (.slice A343_0 ((Aa2 l0 0).f0.f0).length c343_0) ∧ w'.cell? ⟨ad343.block, ad343.off + 1, none⟩ = some (.slice A343_1 ((Aa2 l0 0).f1).length c343_1) ∧ w'.cell? ⟨ad343.block, ad343.off + 2, none⟩ = some (.slice A343_2 ((Aa2 l0 0).f2).length c343_2) ∧ w'.cell? ⟨ad343.block, ad343.off + 3, none⟩ = some (.slice A343_3 ((Aa2 l0 0).f3).length c343_3) ∧ w'.cell? ⟨ad343.block, ad343.off + 4, none⟩ = some (.map (some ((Aa2 l0 0).f4).toNat)) ∧ w'.cell? ad343 = some (.slice A343_0 ((Aa2 l0 0).f0.f0).length c343_0) ∧ w'.cell? ⟨ad343.block, ad343.off + 1, none⟩ = some (.slice A343_1 ((Aa2 l0 0).f1).length c343_1) ∧ w'.cell? ⟨ad343.block, ad343.off + 2, none⟩ = some (.slice A343_2 ((Aa2 l0 0).f2).length c343_2) ∧ w'.cell? ⟨ad343.block, ad343.off + 3, none⟩ = some (.slice A343_3 ((Aa2 l0 0).f3).length c343_3) ∧ w'.cell? ⟨ad343.block, ad343.off + 4, none⟩ = some (.map (some ((Aa2 l0 0).f4).toNat)) ∧ w'.cell? ad343 = some (.slice A343_0 ((Aa2 l0 0).f0.f0).length c343_0) ∧ w'.cell? ⟨ad343.block, ad343.off + 1, none⟩ = some (.slice A343_1 ((Aa2 l0 0).f1).length c343_1) ∧ w'.cell? ⟨ad343.block, ad343.off + 2, none⟩ = some (.slice A343_2 ((Aa2 l0 0).f2).length c343_2) ∧ w'.cell? ⟨ad343.block, ad343.off + 3, none⟩ = some (.slice A343_3 ((Aa2 l0 0).f3).length c343_3) ∧ w'.cell? ⟨ad343.block, ad343.off + 4, none⟩ = some (.map (some ((Aa2 l0 0).f4).toNat)) ∧ w'.cell? ad343 = some (.slice A343_0 ((Aa2 l0 0).f0.f0).length c343_0) ∧ w'.cell? ⟨ad343.block, ad343.off + 1, none⟩ = some (.slice A343_1 ((Aa2 l0 0).f1).length c343_1) ∧ w'.cell? ⟨ad343.block, ad343.off + 2, none⟩ = some (.slice A343_2 ((Aa2 l0 0).f2).length c343_2) ∧ w'.cell? ⟨ad343.block, ad343.off + 3, none⟩ = some (.slice A343_3 ((Aa2 l0 0).f3).length c343_3) ∧ w'.cell? ⟨ad343.block, ad343.off + 4, none⟩ = some (.map (some ((Aa2 l0 0).f4).toNat)) ∧ w'.cell? ad343 = some (.slice A343_0 ((Aa2 l0 0).f0.f0).length c343_0) ∧ w'.cell? ⟨ad343.block, ad343.off + 1, none⟩ = some (.slice A343_1 ((Aa2 l0 0).f1).length c343_1) ∧ w'.cell? ⟨ad343.block, ad343.off + 2, none⟩ = some (.slice A343_2 ((Aa2 l0 0).f2).length c343_2) ∧ w'.cell? ⟨ad343.block, ad343.off + 3, none⟩ = some (.slice A343_3 ((Aa2 l0 0).f3).length c343_3) ∧ w'.cell? ⟨ad343.block, ad343.off + 4, none⟩ = some (.map (some ((Aa2 l0 0).f4).toNat))) (ds := []) #[false, false, false, false, false, false, false, false, false, false, false, false, false, false, false, false, false, false, false, false, false, false] (by kernel_rfl) rfl rfl ⟨(cz HB.out hw343_0), (cz HB.out hw343_1), (cz HB.out hw343_2), (cz HB.out hw343_3), (cz HB.out hw343_4), (cz HB.out hw344_0), (cz HB.out hw344_1), (cz HB.out hw344_2), (cz HB.out hw344_3), (cz HB.out hw344_4), (cz HB.out hw345_0), (cz HB.out hw345_1), (cz HB.out hw345_2), (cz HB.out hw345_3), (cz HB.out hw345_4), (cz HB.out hw346_0), (cz HB.out hw346_1), (cz HB.out hw346_2), (cz HB.out hw346_3), (cz HB.out hw346_4), (cz HB.out hw350_0), (cz HB.out hw350_1), (cz HB.out hw350_2), (cz HB.out hw350_3), (cz HB.out hw350_4), (cz HB.out hw351_0), (cz HB.out hw351_1), (cz HB.out hw351_2), (cz HB.out hw351_3), (cz HB.out hw351_4), (cz HB.out hw352_0), (cz HB.out hw352_1), (cz HB.out hw352_2), (cz HB.out hw352_3), (cz HB.out hw352_4), (cz HB.out hw353_0), (cz HB.out hw353_1), (cz HB.out hw353_2), (cz HB.out hw353_3), (cz HB.out hw353_4)⟩ (fun hHeld => ?_); refine Ac1 impl_comparer_same.tab1 impl_comparer_same.bits1 (fun HT_ HW_ => ?_)
 generalize w.drew = w8 at HB HR343_0 HR343_1 HR343_2 HR343_3 HR344_0 HR344_1 HR344_2 HR344_3 HR345_0 HR345_1 HR345_2 HR345_3 HR346_0 HR346_1 HR346_2 HR346_3 HR350_0 HR350_1 HR350_2 HR350_3 HR351_0 HR351_1 HR351_2 HR351_3 HR352_0 HR352_1 HR352_2 HR352_3 HR353_0 HR353_1 HR353_2 HR353_3 hx343_0 hx343_1 hx343_2 hx343_3 hx343_4 hx344_0 hx344_1 hx344_2 hx344_3 hx344_4 hx345_0 hx345_1 hx345_2 hx345_3 hx345_4 hx346_0 hx346_1 hx346_2 hx346_3 hx346_4 hx350_0 hx350_1 hx350_2 hx350_3 hx350_4 hx351_0 hx351_1 hx351_2 hx351_3 hx351_4 hx352_0 hx352_1 hx352_2 hx352_3 hx352_4 hx353_0 hx353_1 hx353_2 hx353_3 hx353_4 hHeld ⊢
 refine pu 0 7 rfl rfl HT_ ?_
 refine pu 1 8 rfl rfl HT_ ?_
 refine pu 2 9 rfl rfl HT_ ?_
 refine pu 4 11 rfl rfl HT_ ?_
 refine pu 5 12 rfl rfl HT_ ?_
 refine pu 6 13 rfl rfl HT_ ?_
 refine pu 8 15 rfl rfl HT_ ?_
 refine pu 10 17 rfl rfl HT_ ?_
 refine pu 11 18 rfl rfl HT_ ?_
 refine pu 12 19 rfl rfl HT_ ?_
 refine pu 14 21 rfl rfl HT_ ?_
 refine pu 15 22 rfl rfl HT_ ?_
 refine pu 16 23 rfl rfl HT_ ?_
 refine pu 18 25 rfl rfl HT_ ?_
 refine tk 3 10 rfl rfl HT_ HW_ hHeld ?_
 refine tk 7 14 rfl rfl HT_ HW_ hHeld ?_
 refine tk 13 20 rfl rfl HT_ HW_ hHeld ?_
 refine tk 17 24 rfl rfl HT_ HW_ hHeld ?_
 refine on_ 9 (some 16) rfl rfl HT_ (fun K hK => ?_)
 refine gs Tryz.func114 #[.agg #[.slice A343_0 ((Aa2 l0 0).f0.f0).length c343_0], .slice A343_2 ((Aa2 l0 0).f2).length c343_2, .int .i64 a1] ?_
 refine (impl_subterm.calls k _ _ ((Aa2 l0 0).f0.f0) (fun k_ => k_ < w.heap.size) _ _ ((Aa2 l0 0).f2) a1 t347 _ (cq (Kd.C_below HR344_0.out HB.out)) HC344_0.out (Kd.V_mk HC346_2.out (Kd.F_below (Kd.C_F (Kd.heap_int .i64) HR346_2.out) (hq HB.out))) A5.out).mono ?_
 rintro e w9 ⟨v348, rfl, ho0, hb⟩
 refine ⟨_, rfl, ?_⟩
 have HO349 := am (Kd.V_lower (Kd.V_mono (ok' := fun k_ => True) ho0 (fun k_ hk_ => trivial)) (Aa6 (hq HB.out)))
 replace HB := sb HB hb
 (try clear hb)
 (try clear ho0)
 refine hK.out _ _ ⟨(cz HB.out hw343_0), (cz HB.out hw343_1), (cz HB.out hw343_2), (cz HB.out hw343_3), (cz HB.out hw343_4), (cz HB.out hw344_0), (cz HB.out hw344_1), (cz HB.out hw344_2), (cz HB.out hw344_3), (cz HB.out hw344_4), (cz HB.out hw345_0), (cz HB.out hw345_1), (cz HB.out hw345_2), (cz HB.out hw345_3), (cz HB.out hw345_4), (cz HB.out hw346_0), (cz HB.out hw346_1), (cz HB.out hw346_2), (cz HB.out hw346_3), (cz HB.out hw346_4), (cz HB.out hw350_0), (cz HB.out hw350_1), (cz HB.out hw350_2), (cz HB.out hw350_3), (cz HB.out hw350_4), (cz HB.out hw351_0), (cz HB.out hw351_1), (cz HB.out hw351_2), (cz HB.out hw351_3), (cz HB.out hw351_4), (cz HB.out hw352_0), (cz HB.out hw352_1), (cz HB.out hw352_2), (cz HB.out hw352_3), (cz HB.out hw352_4), (cz HB.out hw353_0), (cz HB.out hw353_1), (cz HB.out hw353_2), (cz HB.out hw353_3), (cz HB.out hw353_4)⟩ (fun hHeld => ?_)
 clear hK K
 refine nr (some 16) ?_
 refine on_ 19 (some 26) rfl rfl HT_ (fun K hK => ?_)
 refine gs Tryz.func114 #[.agg #[.slice A343_0 ((Aa2 l0 0).f0.f0).length c343_0], .slice A343_3 ((Aa2 l0 0).f3).length c343_3, .int .i64 a2] ?_
 refine (impl_subterm.calls k _ _ ((Aa2 l0 0).f0.f0) (fun k_ => k_ < w.heap.size) _ _ ((Aa2 l0 0).f3) a2 t354 _ (cq (Kd.C_below HR351_0.out HB.out)) HC351_0.out (Kd.V_mk HC353_3.out (Kd.F_below (Kd.C_F (Kd.heap_int .i64) HR353_3.out) (hq HB.out))) A6.out).mono ?_
 rintro e w10 ⟨v355, rfl, ho0, hb⟩
 refine ⟨_, rfl, ?_⟩
 replace HO349 := am (Kd.V_below (vq HO349.out) hb)
 have HO356 := am (Kd.V_lower (Kd.V_mono (ok' := fun k_ => True) ho0 (fun k_ hk_ => trivial)) (Aa6 (hq HB.out)))
 replace HB := sb HB hb
 (try clear hb)
 (try clear ho0)
 obtain ⟨Ao11, co11, eo11⟩ := Kd.V_slice HO349.out
 (first | subst eo11 | (injection eo11 with f1_ f2_ f3_; have f4_ := f1_.symm; have f5_ := f3_.symm; clear f1_ f2_ f3_; subst f4_; subst f5_))
 obtain ⟨Ao12, co12, eo12⟩ := Kd.V_slice HO356.out
 (first | subst eo12 | (injection eo12 with f1_ f2_ f3_; have f4_ := f1_.symm; have f5_ := f3_.symm; clear f1_ f2_ f3_; subst f4_; subst f5_))
 refine hK.out _ _ ⟨(cz HB.out hw343_0), (cz HB.out hw343_1), (cz HB.out hw343_2), (cz HB.out hw343_3), (cz HB.out hw343_4), (cz HB.out hw344_0), (cz HB.out hw344_1), (cz HB.out hw344_2), (cz HB.out hw344_3), (cz HB.out hw344_4), (cz HB.out hw345_0), (cz HB.out hw345_1), (cz HB.out hw345_2), (cz HB.out hw345_3), (cz HB.out hw345_4), (cz HB.out hw346_0), (cz HB.out hw346_1), (cz HB.out hw346_2), (cz HB.out hw346_3), (cz HB.out hw346_4), (cz HB.out hw350_0), (cz HB.out hw350_1), (cz HB.out hw350_2), (cz HB.out hw350_3), (cz HB.out hw350_4), (cz HB.out hw351_0), (cz HB.out hw351_1), (cz HB.out hw351_2), (cz HB.out hw351_3), (cz HB.out hw351_4), (cz HB.out hw352_0), (cz HB.out hw352_1), (cz HB.out hw352_2), (cz HB.out hw352_3), (cz HB.out hw352_4), (cz HB.out hw353_0), (cz HB.out hw353_1), (cz HB.out hw353_2), (cz HB.out hw353_3), (cz HB.out hw353_4)⟩ (fun hHeld => ?_)
 clear hK K
 refine nr (some 26) ?_
 refine on_ 20 (some 27) rfl rfl HT_ (fun K hK => ?_)
 refine gs Tryz.func61 #[.slice Ao11 t347.length co11, .slice Ao12 t354.length co12] ?_
 refine (slices_Equal_int64_int64.calls k _ _ t347 _ _ t354 t357 _ (cq (Kd.V_reads' HO349.out).2.2) ((Kd.V_reads' HO349.out).2.1) (cq (Kd.V_reads' HO356.out).2.2) ((Kd.V_reads' HO356.out).2.1) A7.out).mono ?_
 rintro e w' ⟨rfl, ⟨nd, rfl⟩⟩
 refine ⟨_, rfl, ?_⟩
 refine hK.out _ _ ⟨(cz HB.out hw343_0), (cz HB.out hw343_1), (cz HB.out hw343_2), (cz HB.out hw343_3), (cz HB.out hw343_4), (cz HB.out hw344_0), (cz HB.out hw344_1), (cz HB.out hw344_2), (cz HB.out hw344_3), (cz HB.out hw344_4), (cz HB.out hw345_0), (cz HB.out hw345_1), (cz HB.out hw345_2), (cz HB.out hw345_3), (cz HB.out hw345_4), (cz HB.out hw346_0), (cz HB.out hw346_1), (cz HB.out hw346_2), (cz HB.out hw346_3), (cz HB.out hw346_4), (cz HB.out hw350_0), (cz HB.out hw350_1), (cz HB.out hw350_2), (cz HB.out hw350_3), (cz HB.out hw350_4), (cz HB.out hw351_0), (cz HB.out hw351_1), (cz HB.out hw351_2), (cz HB.out hw351_3), (cz HB.out hw351_4), (cz HB.out hw352_0), (cz HB.out hw352_1), (cz HB.out hw352_2), (cz HB.out hw352_3), (cz HB.out hw352_4), (cz HB.out hw353_0), (cz HB.out hw353_1), (cz HB.out hw353_2), (cz HB.out hw353_3), (cz HB.out hw353_4)⟩ (fun hHeld => ?_)
 clear hK K
 refine nr (some 27) ?_
 refine pu 21 6 rfl rfl HT_ ?_
 refine Ag1 (Ac8 HT_.out (by kernel_rfl)) ?_
 try go_wp2
 go_ret
 exact ⟨er, hq HB.out⟩
end Go.Proofs.YtgichahebemmiaaGreatDoor.P
