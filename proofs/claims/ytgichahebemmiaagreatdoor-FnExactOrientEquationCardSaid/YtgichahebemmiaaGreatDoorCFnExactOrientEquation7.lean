/- A part of the proof of the law FnExactOrientEquation. -/
import Derived.Laws.StructEq
import Derived.Test.YtgichahebemmiaaGreatDoorCFnExactOrientEquation0
import Derived.Test.YtgichahebemmiaaGreatDoorCFnExactOrientEquation1
import Derived.Test.YtgichahebemmiaaGreatDoorCFnExactOrientEquation2
import Derived.Test.YtgichahebemmiaaGreatDoorCFnExactOrientEquation3
import Derived.Test.YtgichahebemmiaaGreatDoorCFnExactOrientEquation4
import Derived.Test.YtgichahebemmiaaGreatDoorCFnExactOrientEquation5
import Derived.Test.YtgichahebemmiaaGreatDoorCFnExactOrientEquation6
import Derived.Test.YtgichahebemmiaaGreatDoorCFnExactOrientEquation17
namespace Go.Proofs.YtgichahebemmiaaGreatDoor.P
open Go.RowKit Go.Proofs.YtgichahebemmiaaGreatDoorW.PrintWords Go.Proofs.YtgichahebemmiaaGreatDoorW.PrintLast Go.Proofs.YtgichahebemmiaaGreatDoorW.PrintMore
attribute [local go_sem] Ae7 Ae4 Af9 Ag0 Ad3 Ad2 Ae8 Ae5   -- for this text's walks alone
set_option linter.unusedVariables false
set_option linter.unusedSimpArgs false
def impl_within.f (a0 : Int) (a1 : Int) (a2 : Int) : Option (Bool) := if a0 ≥ a1 then (some (decide (a0 ≤ a2))) else (some false)
set_option maxHeartbeats 8000000 in
set_option maxRecDepth 100000 in
theorem impl_within.calls (a0 : Int) (a1 : Int) (a2 : Int) (r : Bool) (w : World) (h : impl_within.f a0 a1 a2 = some r) :
  Calls Tryz.prog 81 #[.int .i64 a0, .int .i64 a1, .int .i64 a2] w fun e w' => e = .returned (.bool r) ∧ Drawn0 w w' := by
 have H : (if a0 ≥ a1 then (some (decide (a0 ≤ a2))) else (some false)) = some r := h
 clear h
 by_cases c4 : a0 ≥ a1
 ·rw [if_pos c4] at H
  have c4b0 : decide (a1 ≤ a0) = true := decide_eq_true c4
  clear c4
  obtain rfl := Option.some.inj H
  go_enter Tryz.func81, Tryz.ntmps81
  go_wp2
  go_ret
  exact ⟨et, by repeat (first | exact Drawn0.refl _ | apply Drawn0.step)⟩
 ·rw [if_neg c4] at H
  have c4b0 : decide (a1 ≤ a0) = false := decide_eq_false c4
  clear c4
  obtain rfl := Option.some.inj H
  go_enter Tryz.func81, Tryz.ntmps81
  go_wp2
  go_ret
  exact ⟨et, by repeat (first | exact Drawn0.refl _ | apply Drawn0.step)⟩
def impl_symbolIndex_1_with.f (a0_0 : ByteArray) (a0_1 : Int) (l1 : List ByteArray) : Option (Bool) := if 0 < (l1.length : Int) then (some (a0_0.toList == (Ar0 ByteArray.empty l1 0).toList)) else (none)
set_option maxHeartbeats 8000000 in
set_option maxRecDepth 100000 in
theorem impl_symbolIndex_1_with.calls (a0_0 : ByteArray) (a0_1 : Int) (A1 : Option Addr) (l1 : List ByteArray) (r : Bool) (w : World) (hr1 : Kd.C Kd.string w A1 l1.length l1) (h : impl_symbolIndex_1_with.f a0_0 a0_1 l1 = some r) :
  Calls Tryz.prog 99 #[.agg #[.string a0_0, .int .i64 a0_1], .pointer A1] w fun e w' => e = .returned (.bool r) ∧ Below w.heap.size w w' := by
 have hu79 := Tryz.underlying79
 have HR1 := am hr1
 clear hr1
 have HB := am (Below.refl w.heap.size w)
 have H : (if 0 < (l1.length : Int) then (some (a0_0.toList == (Ar0 ByteArray.empty l1 0).toList)) else (none)) = some r := h
 clear h
 obtain ⟨c3, H⟩ := ifs H
 have c3b0 : decide (0 < (l1.length : Int)) = true := decide_eq_true c3
 have c3b1 : decide (0 < l1.length) = true := decide_eq_true (by omega)
 clear c3
 obtain rfl := Option.some.inj H
 go_enter Tryz.func99, Tryz.ntmps99
 go_wp2_with (first | (refine bx 2 rfl #[.string a0_0, .int .i64 a0_1] 79 ?_; intro gb272 hg w4 hbox hb; have BK272 := am (hbox); have GW272 := am (bz hg (hq HB.out)); replace HB := sb HB hb; have GE272 := GW272; clear hb hbox hg; have hcz5_0 : w4.cell? ⟨gb272, 0, none⟩ = some (.string a0_0) := (Aa0 BK272.out 0).trans rfl; have hcz5_1 : w4.cell? ⟨gb272, 1, none⟩ = some (.int .i64 a0_1) := (Aa0 BK272.out 1).trans rfl; have hfz5_0 := Aa1 BK272.out 0; have hfz5_1 := Aa1 BK272.out 1; have p273 : 0 ≤ (0 : Int) := (by omega); have q273 : 0 < (l1.length : Int) := od; obtain ⟨ad273, e273, hx273_0⟩ := Kd.at_string HR1.out 0 p273 q273; cases e273; have qi273 : (0 < l1.length) = True := eq_true (by omega); (try rw [show ((0 : Int)).toNat = 0 from rfl] at hx273_0); (try rw [Addr.add_zero'] at hx273_0); replace hx273_0 := cz HB.out hx273_0; replace p273 := eq_true p273; replace q273 := eq_true q273))
 go_ret
 exact ⟨er, hs HB.out⟩
def slices_IndexFunc_impl_Symbol_impl_Symbol_impl_symbolIndex_1.l0 : Nat → List (S79) → Int → Int → List ByteArray → Option (Int)
 | 0, _, _, _, _ => none
 | k + 1, x0, x7, x8, x910 => if x8 < x7 then (if 0 ≤ x8 then (if x8 < (x0.length : Int) then ((impl_symbolIndex_1_with.f ((Aa7 x0 x8).f0) ((Aa7 x0 x8).f1) x910).bind fun t275 => (if t275 = true then (some x8) else (slices_IndexFunc_impl_Symbol_impl_Symbol_impl_symbolIndex_1.l0 k x0 x7 (wrap64 (x8 + 1)) x910))) else (none)) else (none)) else (some (-1))
def slices_IndexFunc_impl_Symbol_impl_Symbol_impl_symbolIndex_1.f (k : Nat) (l0 : List (S79)) (l1_0 : List ByteArray) : Option (Int) := slices_IndexFunc_impl_Symbol_impl_Symbol_impl_symbolIndex_1.l0 k l0 (l0.length : Int) 0 l1_0
set_option maxHeartbeats 8000000 in
set_option maxRecDepth 100000 in
theorem slices_IndexFunc_impl_Symbol_impl_Symbol_impl_symbolIndex_1.calls (k : Nat) (A0 : Option Addr) (c0 : Nat) (l0 : List (S79)) (A1_0 : Option Addr) (l1_0 : List ByteArray) (r : Int) (w : World) (hr0 : Kd.C k79 w A0 l0.length l0) (hc0 : l0.length ≤ c0) (hr1_0 : Kd.C Kd.string w A1_0 l1_0.length l1_0) (h : slices_IndexFunc_impl_Symbol_impl_Symbol_impl_symbolIndex_1.f k l0 l1_0 = some r) :
  Calls Tryz.prog 98 #[.slice A0 l0.length c0, .func (.func 99) #[] #[.pointer A1_0]] w fun e w' => e = .returned (.int .i64 r) ∧ Below w.heap.size w w' := by
 have hu79 := Tryz.underlying79
 have HR0 := am hr0
 have HC0 := am hc0
 clear hr0 hc0
 have HR1_0 := am hr1_0
 clear hr1_0
 have HB := am (Below.refl w.heap.size w)
 have H : (slices_IndexFunc_impl_Symbol_impl_Symbol_impl_symbolIndex_1.l0 k l0 (l0.length : Int) 0 l1_0) = some r := h
 clear h
 have H' := am H
 clear H
 go_enter Tryz.func98, Tryz.ntmps98
 go_wp2
 go_loopg [8] k (fun kq v8 w' => ∃ (x8_1 : Int), v8 = .int .i64 x8_1 ∧ Aside0 (slices_IndexFunc_impl_Symbol_impl_Symbol_impl_symbolIndex_1.l0 kq l0 (l0.length : Int) x8_1 l1_0 = some r) ∧ Aside0 (kq ≤ k) ∧ Aside0 (Below w.heap.size w w'))
 case atStart => exact ⟨(0), et, H', ⟨Nat.le_refl _⟩, ⟨hq HB.out⟩⟩
 case round =>
  clear H'
  obtain ⟨x8_1, rfl, HA, HK1, HB⟩ := hrel
  cases gk with
  | zero => exact absurd HA.out (by simp [slices_IndexFunc_impl_Symbol_impl_Symbol_impl_symbolIndex_1.l0])
  | succ k1 =>
   have H := HA.out
   clear HA
   simp only [slices_IndexFunc_impl_Symbol_impl_Symbol_impl_symbolIndex_1.l0] at H
   by_cases c3 : x8_1 < (l0.length : Int)
   ·rw [if_pos c3] at H
    have c3b0 : decide (x8_1 < (l0.length : Int)) = true := decide_eq_true c3
    clear c3
    obtain ⟨c4b0, H⟩ := ife H
    obtain ⟨c5b0, H⟩ := ife H
    obtain ⟨t275, A6, H⟩ := ob H
    try dsimp only at H
    by_cases c7 : t275 = true
    ·subst c7
     rw [if_pos rfl] at H
     obtain rfl := Option.some.inj H
     have p274 : 0 ≤ (x8_1 : Int) := od
     have q274 : x8_1 < (l0.length : Int) := od
     obtain ⟨ad274, e274, hx274_0, hx274_1⟩ := Ae1 HR0.out x8_1 p274 q274
     cases e274
     replace hx274_0 := cz HB.out hx274_0
     replace hx274_1 := cz HB.out hx274_1
     replace p274 := eq_true p274
     replace q274 := eq_true q274
     go_wp2_with (first | ((first | (refine gl (some 16) Tryz.func99 rfl #[.agg #[.string ((Aa7 l0 x8_1).f0), .int .i64 ((Aa7 l0 x8_1).f1)], .pointer A1_0] ?_) | ((with_reducible refine Af4 _ rfl ?_); refine Ao0 (some 16) rfl rfl Tryz.func99 (by kernel_rfl) rfl #[.agg #[.string ((Aa7 l0 x8_1).f0), .int .i64 ((Aa7 l0 x8_1).f1)], .pointer A1_0] rfl rfl (by first | rfl | (simp <;> first | rfl | exact ⟨rfl, rfl⟩ | exact ⟨rfl, rfl, rfl⟩) | ((try simp only [List.map_toArray, List.map_cons, List.map_nil]); first | done | rfl | (simp only [List.length_drop, List.length_take]; rfl))) ?_)); refine (impl_symbolIndex_1_with.calls ((Aa7 l0 x8_1).f0) ((Aa7 l0 x8_1).f1) _ l1_0 true _ (cq (Kd.C_below HR1_0.out HB.out)) A6.out).mono ?_; rintro e w8 ⟨rfl, hb⟩; refine ⟨_, rfl, ?_⟩; replace HB := sb HB hb; (try clear hb)))
     go_ret
     exact ⟨er, hq HB.out⟩
    ·replace c7 := Bool.eq_false_iff.mpr c7
     subst c7
     rw [if_neg (show ¬ (false = true) by decide)] at H
     have H' := am H
     clear H
     have p274 : 0 ≤ (x8_1 : Int) := od
     have q274 : x8_1 < (l0.length : Int) := od
     obtain ⟨ad274, e274, hx274_0, hx274_1⟩ := Ae1 HR0.out x8_1 p274 q274
     cases e274
     replace hx274_0 := cz HB.out hx274_0
     replace hx274_1 := cz HB.out hx274_1
     replace p274 := eq_true p274
     replace q274 := eq_true q274
     go_wp2_with (first | ((first | (refine gl (some 16) Tryz.func99 rfl #[.agg #[.string ((Aa7 l0 x8_1).f0), .int .i64 ((Aa7 l0 x8_1).f1)], .pointer A1_0] ?_) | ((with_reducible refine Af4 _ rfl ?_); refine Ao0 (some 16) rfl rfl Tryz.func99 (by kernel_rfl) rfl #[.agg #[.string ((Aa7 l0 x8_1).f0), .int .i64 ((Aa7 l0 x8_1).f1)], .pointer A1_0] rfl rfl (by first | rfl | (simp <;> first | rfl | exact ⟨rfl, rfl⟩ | exact ⟨rfl, rfl, rfl⟩) | ((try simp only [List.map_toArray, List.map_cons, List.map_nil]); first | done | rfl | (simp only [List.length_drop, List.length_take]; rfl))) ?_)); refine (impl_symbolIndex_1_with.calls ((Aa7 l0 x8_1).f0) ((Aa7 l0 x8_1).f1) _ l1_0 false _ (cq (Kd.C_below HR1_0.out HB.out)) A6.out).mono ?_; rintro e w9 ⟨rfl, hb⟩; refine ⟨_, rfl, ?_⟩; replace HB := sb HB hb; (try clear hb)))
     go_roundg k1
     case measure => have := HK1.out; omega
     case rel => exact ⟨(wrap64 (x8_1 + 1)), et, H', ⟨by have := HK1.out; omega⟩, ⟨hq HB.out⟩⟩
   ·rw [if_neg c3] at H
    have c3b0 : decide (x8_1 < (l0.length : Int)) = false := decide_eq_false c3
    clear c3
    obtain rfl := Option.some.inj H
    go_wp2
    go_ret
    exact ⟨er, hq HB.out⟩
def impl_symbolIndex.f (k : Nat) (l0_0 : List (S79)) (a1 : ByteArray) : Option (Int) := (slices_IndexFunc_impl_Symbol_impl_Symbol_impl_symbolIndex_1.f k l0_0 [a1]).bind fun t278 => (some t278)
set_option maxHeartbeats 8000000 in
set_option maxRecDepth 100000 in
theorem impl_symbolIndex.calls (k : Nat) (A0_0 : Option Addr) (c0_0 : Nat) (l0_0 : List (S79)) (a1 : ByteArray) (r : Int) (w : World) (hr0_0 : Kd.C k79 w A0_0 l0_0.length l0_0) (hc0_0 : l0_0.length ≤ c0_0) (h : impl_symbolIndex.f k l0_0 a1 = some r) :
  Calls Tryz.prog 82 #[.agg #[.slice A0_0 l0_0.length c0_0], .string a1] w fun e w' => e = .returned (.int .i64 r) ∧ Below w.heap.size w w' := by
 have hu36 := Tryz.underlying36
 have HR0_0 := am hr0_0
 have HC0_0 := am hc0_0
 clear hr0_0 hc0_0
 have HB := am (Below.refl w.heap.size w)
 have H : ((slices_IndexFunc_impl_Symbol_impl_Symbol_impl_symbolIndex_1.f k l0_0 [a1]).bind fun t278 => (some t278)) = some r := h
 clear h
 obtain ⟨t278, A3, H⟩ := ob H
 try dsimp only at H
 obtain rfl := Option.some.inj H
 go_enter Tryz.func82, Tryz.ntmps82
 go_wp2_with (first | (refine bx 2 rfl #[.slice A0_0 l0_0.length c0_0] 36 ?_; intro gb276 hg w4 hbox hb; have BK276 := am (hbox); have GW276 := am (bz hg (hq HB.out)); replace HB := sb HB hb; have GE276 := GW276; clear hb hbox hg) | (refine bx 3 rfl #[.string a1] 9 ?_; intro gb277 hg w5 hbox hb; have BK277 := am (hbox); have GW277 := am (bz hg (hs HB.out)); replace HB := sb HB hb; have GE277 := GW277; have NB276_277 := nl hg BK276; have NB277_276 := ng hg BK276; replace BK276 := bb BK276 hb; clear hb hbox hg; have hnb6 := NB276_277.out; have hnc6 := NB277_276.out; have hcz7_0 : w5.cell? ⟨gb276, 0, none⟩ = some (.slice A0_0 l0_0.length c0_0) := (Aa0 BK276.out 0).trans rfl; have hfz7_0 := Aa1 BK276.out 0) | (refine gl (some 8) Tryz.func98 rfl #[.slice A0_0 l0_0.length c0_0, .func (.func 99) #[] #[.pointer (some ⟨gb277, 0, none⟩)]] ?_; refine (slices_IndexFunc_impl_Symbol_impl_Symbol_impl_symbolIndex_1.calls k _ _ l0_0 _ [a1] t278 _ (cq (Kd.C_below HR0_0.out HB.out)) HC0_0.out (k9_box (bq BK277.out)) A3.out).mono ?_; rintro e w8 ⟨rfl, hb⟩; refine ⟨_, rfl, ?_⟩; replace BK276 := bb BK276 hb; replace BK277 := bb BK277 hb; replace HB := sb HB hb; (try clear hb)))
 go_ret
 exact ⟨er, hs HB.out⟩
def impl_SignatureFault_1.f (a0_0 : ByteArray) (a0_1 : Int) : Option (Bool) := some (a0_1 == 0)
set_option maxHeartbeats 8000000 in
set_option maxRecDepth 100000 in
theorem impl_SignatureFault_1.calls (a0_0 : ByteArray) (a0_1 : Int) (r : Bool) (w : World) (h : impl_SignatureFault_1.f a0_0 a0_1 = some r) :
  Calls Tryz.prog 84 #[.agg #[.string a0_0, .int .i64 a0_1]] w fun e w' => e = .returned (.bool r) ∧ Below w.heap.size w w' := by
 have hu79 := Tryz.underlying79
 have HB := am (Below.refl w.heap.size w)
 have H : (some (a0_1 == 0)) = some r := h
 clear h
 obtain rfl := Option.some.inj H
 go_enter Tryz.func84, Tryz.ntmps84
 go_wp2_with (first | (refine bx 1 rfl #[.string a0_0, .int .i64 a0_1] 79 ?_; intro gb279 hg w2 hbox hb; have BK279 := am (hbox); have GW279 := am (bz hg (hq HB.out)); replace HB := sb HB hb; have GE279 := GW279; clear hb hbox hg; have hcz3_0 : w2.cell? ⟨gb279, 0, none⟩ = some (.string a0_0) := (Aa0 BK279.out 0).trans rfl; have hcz3_1 : w2.cell? ⟨gb279, 1, none⟩ = some (.int .i64 a0_1) := (Aa0 BK279.out 1).trans rfl; have hfz3_0 := Aa1 BK279.out 0; have hfz3_1 := Aa1 BK279.out 1))
 go_ret
 exact ⟨er, hs HB.out⟩
def slices_IndexFunc_impl_Symbol_impl_Symbol_impl_SignatureFault_1.l0 : Nat → List (S79) → Int → Int → Option (Int)
 | 0, _, _, _ => none
 | k + 1, x0, x7, x8 => if x8 < x7 then (if 0 ≤ x8 then (if x8 < (x0.length : Int) then ((impl_SignatureFault_1.f ((Aa7 x0 x8).f0) ((Aa7 x0 x8).f1)).bind fun t281 => (if t281 = true then (some x8) else (slices_IndexFunc_impl_Symbol_impl_Symbol_impl_SignatureFault_1.l0 k x0 x7 (wrap64 (x8 + 1))))) else (none)) else (none)) else (some (-1))
def slices_IndexFunc_impl_Symbol_impl_Symbol_impl_SignatureFault_1.f (k : Nat) (l0 : List (S79))  : Option (Int) := slices_IndexFunc_impl_Symbol_impl_Symbol_impl_SignatureFault_1.l0 k l0 (l0.length : Int) 0
set_option maxHeartbeats 8000000 in
set_option maxRecDepth 100000 in
theorem slices_IndexFunc_impl_Symbol_impl_Symbol_impl_SignatureFault_1.calls (k : Nat) (A0 : Option Addr) (c0 : Nat) (l0 : List (S79))  (r : Int) (w : World) (hr0 : Kd.C k79 w A0 l0.length l0) (hc0 : l0.length ≤ c0) (h : slices_IndexFunc_impl_Symbol_impl_Symbol_impl_SignatureFault_1.f k l0 = some r) :
  Calls Tryz.prog 98 #[.slice A0 l0.length c0, .func (.func 84) #[] #[]] w fun e w' => e = .returned (.int .i64 r) ∧ Below w.heap.size w w' := by
 have hu79 := Tryz.underlying79
 have HR0 := am hr0
 have HC0 := am hc0
 clear hr0 hc0
 have HB := am (Below.refl w.heap.size w)
 have H : (slices_IndexFunc_impl_Symbol_impl_Symbol_impl_SignatureFault_1.l0 k l0 (l0.length : Int) 0) = some r := h
 clear h
 have H' := am H
 clear H
 go_enter Tryz.func98, Tryz.ntmps98
 go_wp2
 go_loopg [8] k (fun kq v8 w' => ∃ (x8_1 : Int), v8 = .int .i64 x8_1 ∧ Aside0 (slices_IndexFunc_impl_Symbol_impl_Symbol_impl_SignatureFault_1.l0 kq l0 (l0.length : Int) x8_1 = some r) ∧ Aside0 (kq ≤ k) ∧ Aside0 (Below w.heap.size w w'))
 case atStart => exact ⟨(0), et, H', ⟨Nat.le_refl _⟩, ⟨hq HB.out⟩⟩
 case round =>
  clear H'
  obtain ⟨x8_1, rfl, HA, HK1, HB⟩ := hrel
  cases gk with
  | zero => exact absurd HA.out (by simp [slices_IndexFunc_impl_Symbol_impl_Symbol_impl_SignatureFault_1.l0])
  | succ k1 =>
   have H := HA.out
   clear HA
   simp only [slices_IndexFunc_impl_Symbol_impl_Symbol_impl_SignatureFault_1.l0] at H
   by_cases c3 : x8_1 < (l0.length : Int)
   ·rw [if_pos c3] at H
    have c3b0 : decide (x8_1 < (l0.length : Int)) = true := decide_eq_true c3
    clear c3
    obtain ⟨c4b0, H⟩ := ife H
    obtain ⟨c5b0, H⟩ := ife H
    obtain ⟨t281, A6, H⟩ := ob H
    try dsimp only at H
    by_cases c7 : t281 = true
    ·subst c7
     rw [if_pos rfl] at H
     obtain rfl := Option.some.inj H
     have p280 : 0 ≤ (x8_1 : Int) := od
     have q280 : x8_1 < (l0.length : Int) := od
     obtain ⟨ad280, e280, hx280_0, hx280_1⟩ := Ae1 HR0.out x8_1 p280 q280
     cases e280
     replace hx280_0 := cz HB.out hx280_0
     replace hx280_1 := cz HB.out hx280_1
     replace p280 := eq_true p280
     replace q280 := eq_true q280
     go_wp2_with (first | ((first | (refine gl (some 16) Tryz.func84 rfl #[.agg #[.string ((Aa7 l0 x8_1).f0), .int .i64 ((Aa7 l0 x8_1).f1)]] ?_) | ((with_reducible refine Af4 _ rfl ?_); refine Ao0 (some 16) rfl rfl Tryz.func84 (by kernel_rfl) rfl #[.agg #[.string ((Aa7 l0 x8_1).f0), .int .i64 ((Aa7 l0 x8_1).f1)]] rfl rfl (by first | rfl | (simp <;> first | rfl | exact ⟨rfl, rfl⟩ | exact ⟨rfl, rfl, rfl⟩) | ((try simp only [List.map_toArray, List.map_cons, List.map_nil]); first | done | rfl | (simp only [List.length_drop, List.length_take]; rfl))) ?_)); (with_reducible refine (impl_SignatureFault_1.calls ((Aa7 l0 x8_1).f0) ((Aa7 l0 x8_1).f1) true _ A6.out).mono ?_); rintro e w8 ⟨rfl, hb⟩; refine ⟨_, rfl, ?_⟩; replace HB := sb HB hb; (try clear hb)))
     go_ret
     exact ⟨er, hq HB.out⟩
    ·replace c7 := Bool.eq_false_iff.mpr c7
     subst c7
     rw [if_neg (show ¬ (false = true) by decide)] at H
     have H' := am H
     clear H
     have p280 : 0 ≤ (x8_1 : Int) := od
     have q280 : x8_1 < (l0.length : Int) := od
     obtain ⟨ad280, e280, hx280_0, hx280_1⟩ := Ae1 HR0.out x8_1 p280 q280
     cases e280
     replace hx280_0 := cz HB.out hx280_0
     replace hx280_1 := cz HB.out hx280_1
     replace p280 := eq_true p280
     replace q280 := eq_true q280
     go_wp2_with (first | ((first | (refine gl (some 16) Tryz.func84 rfl #[.agg #[.string ((Aa7 l0 x8_1).f0), .int .i64 ((Aa7 l0 x8_1).f1)]] ?_) | ((with_reducible refine Af4 _ rfl ?_); refine Ao0 (some 16) rfl rfl Tryz.func84 (by kernel_rfl) rfl #[.agg #[.string ((Aa7 l0 x8_1).f0), .int .i64 ((Aa7 l0 x8_1).f1)]] rfl rfl (by first | rfl | (simp <;> first | rfl | exact ⟨rfl, rfl⟩ | exact ⟨rfl, rfl, rfl⟩) | ((try simp only [List.map_toArray, List.map_cons, List.map_nil]); first | done | rfl | (simp only [List.length_drop, List.length_take]; rfl))) ?_)); (with_reducible refine (impl_SignatureFault_1.calls ((Aa7 l0 x8_1).f0) ((Aa7 l0 x8_1).f1) false _ A6.out).mono ?_); rintro e w9 ⟨rfl, hb⟩; refine ⟨_, rfl, ?_⟩; replace HB := sb HB hb; (try clear hb)))
     go_roundg k1
     case measure => have := HK1.out; omega
     case rel => exact ⟨(wrap64 (x8_1 + 1)), et, H', ⟨by have := HK1.out; omega⟩, ⟨hq HB.out⟩⟩
   ·rw [if_neg c3] at H
    have c3b0 : decide (x8_1 < (l0.length : Int)) = false := decide_eq_false c3
    clear c3
    obtain rfl := Option.some.inj H
    go_wp2
    go_ret
    exact ⟨er, hq HB.out⟩
def slices_ContainsFunc_impl_Symbol_impl_Symbol_impl_SignatureFault_1.f (k : Nat) (l0 : List (S79))  : Option (Bool) := (slices_IndexFunc_impl_Symbol_impl_Symbol_impl_SignatureFault_1.f k l0).bind fun t282 => (some (decide (t282 ≥ 0)))
set_option maxHeartbeats 8000000 in
set_option maxRecDepth 100000 in
theorem slices_ContainsFunc_impl_Symbol_impl_Symbol_impl_SignatureFault_1.calls (k : Nat) (A0 : Option Addr) (c0 : Nat) (l0 : List (S79))  (r : Bool) (w : World) (hr0 : Kd.C k79 w A0 l0.length l0) (hc0 : l0.length ≤ c0) (h : slices_ContainsFunc_impl_Symbol_impl_Symbol_impl_SignatureFault_1.f k l0 = some r) :
  Calls Tryz.prog 83 #[.slice A0 l0.length c0, .func (.func 84) #[] #[]] w fun e w' => e = .returned (.bool r) ∧ Below w.heap.size w w' := by
 have HR0 := am hr0
 have HC0 := am hc0
 clear hr0 hc0
 have HB := am (Below.refl w.heap.size w)
 have H : ((slices_IndexFunc_impl_Symbol_impl_Symbol_impl_SignatureFault_1.f k l0).bind fun t282 => (some (decide (t282 ≥ 0)))) = some r := h
 clear h
 obtain ⟨t282, A3, H⟩ := ob H
 try dsimp only at H
 obtain rfl := Option.some.inj H
 go_enter Tryz.func83, Tryz.ntmps83
 go_wp2_with (first | (refine gl (some 7) Tryz.func98 rfl #[.slice A0 l0.length c0, .func (.func 84) #[] #[]] ?_; refine (slices_IndexFunc_impl_Symbol_impl_Symbol_impl_SignatureFault_1.calls k _ _ l0  t282 _ (cq HR0.out) HC0.out A3.out).mono ?_; rintro e w4 ⟨rfl, hb⟩; refine ⟨_, rfl, ?_⟩; replace HB := sb HB hb; (try clear hb)))
 go_ret
 exact ⟨er, hq HB.out⟩
mutual
def impl_SignatureFault.j0 : Nat → Bool → List (S79) → Option (Int)
 | 0, _, _ => none
 | k + 1, x16, x284000 => if x16 = true then (some 2) else (impl_SignatureFault.l0 k x284000 (x284000.length : Int) 0 x284000)
def impl_SignatureFault.l0 : Nat → List (S79) → Int → Int → List (S79) → Option (Int)
 | 0, _, _, _, _ => none
 | k + 1, x18, x19, x20, x284000 => if x20 < x19 then (if 0 ≤ x20 then (if x20 < (x18.length : Int) then ((impl_isName.f ((Aa7 x18 x20).f0)).bind fun t286 => (if t286 = true then ((impl_within.f ((Aa7 x18 x20).f1) 0 2).bind fun t287 => (if t287 = true then (impl_SignatureFault.l0 k x18 x19 (wrap64 (x20 + 1)) x284000) else (some 3))) else (some 5))) else (none)) else (none)) else (impl_SignatureFault.l1 k x284000 (x284000.length : Int) 0 x284000)
def impl_SignatureFault.l1 : Nat → List (S79) → Int → Int → List (S79) → Option (Int)
 | 0, _, _, _, _ => none
 | k + 1, x34, x35, x36, x284000 => if x36 < x35 then (if 0 ≤ x36 then (if x36 < (x34.length : Int) then ((impl_symbolIndex.f k x284000 ((Aa7 x34 x36).f0)).bind fun t290 => (if t290 = x36 then (impl_SignatureFault.l1 k x34 x35 (wrap64 (x36 + 1)) x284000) else (some 6))) else (none)) else (none)) else ((slices_ContainsFunc_impl_Symbol_impl_Symbol_impl_SignatureFault_1.f k x284000).bind fun t291 => (if t291 = true then (some 0) else (some 4)))
end
def impl_SignatureFault.f (k : Nat) (l0_0 : List (S79)) : Option (Int) := if (l0_0.length : Int) < 1 then (impl_SignatureFault.j0 k true l0_0) else (impl_SignatureFault.j0 k (decide ((l0_0.length : Int) > 6)) l0_0)
set_option maxHeartbeats 8000000 in
set_option maxRecDepth 100000 in
theorem impl_SignatureFault.calls (k : Nat) (A0_0 : Option Addr) (c0_0 : Nat) (l0_0 : List (S79)) (r : Int) (w : World) (hr0_0 : Kd.C k79 w A0_0 l0_0.length l0_0) (hc0_0 : l0_0.length ≤ c0_0) (h : impl_SignatureFault.f k l0_0 = some r) :
  Calls Tryz.prog 53 #[.agg #[.slice A0_0 l0_0.length c0_0]] w fun e w' => e = .returned (.int .i64 r) ∧ Below w.heap.size w w' := by
 have hu36 := Tryz.underlying36
 have hu79 := Tryz.underlying79
 have HR0_0 := am hr0_0
 have HC0_0 := am hc0_0
 clear hr0_0 hc0_0
 have HB := am (Below.refl w.heap.size w)
 have H : (if (l0_0.length : Int) < 1 then (impl_SignatureFault.j0 k true l0_0) else (impl_SignatureFault.j0 k (decide ((l0_0.length : Int) > 6)) l0_0)) = some r := h
 clear h
 have HC2 := am H
 clear H
 go_enter Tryz.func53, Tryz.ntmps53
 go_upto_region 1 with (first | ((with_reducible refine Ae9 (N := 1) rfl ?_); (try (refine Ah4 (by rfl) ?_; dsimp only)); refine Ah6 ?hg (N := 1) ?hd (cs := #[.slice A0_0 l0_0.length c0_0]) (t := 36) ?hr ?_; (case hd => rfl); (case hg => rfl); (case hr => first | (go_simp; done) | (go_simp; rfl)); intro gb283 hg w3 hbox hb; have BK283 := am (hbox); have GW283 := am (bz hg (hq HB.out)); replace HB := sb HB hb; have GE283 := GW283; clear hb hbox hg))
 (try simp only [Act.put, lsp])
 go_cut [16] (fun v16 wc => ∃ (kq : Nat) (x16_1 : Bool), v16 = .bool x16_1 ∧ Aside0 (impl_SignatureFault.j0 kq x16_1 l0_0 = some r) ∧ Aside0 (kq ≤ k) ∧ Aside0 (wc.heap[gb283]? = some (.cells #[(.slice A0_0 l0_0.length c0_0)] 36 (0, 0))) ∧ Aside0 (Below w.heap.size w wc))
 case first =>
  have H := HC2.out
  clear HC2
  by_cases c4 : (l0_0.length : Int) < 1
  ·rw [if_pos c4] at H
   have c4b0 : decide ((l0_0.length : Int) < 1) = true := decide_eq_true c4
   have c4b1 : decide (l0_0.length < 1) = true := decide_eq_true (by omega)
   clear c4
   (first | rw [c4b0] | (simp only [Ac9, Ad4]; rw [c4b0]) | skip)
   have H' := am H
   clear H
   have hcz5_0 : w3.cell? ⟨gb283, 0, none⟩ = some (.slice A0_0 l0_0.length c0_0) := (Aa0 BK283.out 0).trans rfl
   have hfz5_0 := Aa1 BK283.out 0
   go_wp2
   go_meet
   case rel => exact ⟨_, (true), et, H', ⟨by first | omega | exact Nat.le_refl _⟩, ⟨by refine bq ?_; exact BK283.out⟩, ⟨hs HB.out⟩⟩
  ·rw [if_neg c4] at H
   have c4b0 : decide ((l0_0.length : Int) < 1) = false := decide_eq_false c4
   have c4b1 : decide (l0_0.length < 1) = false := decide_eq_false (by omega)
   clear c4
   (first | rw [c4b0] | (simp only [Ac9, Ad4]; rw [c4b0]) | skip)
   have H' := am H
   clear H
   have hcz6_0 : w3.cell? ⟨gb283, 0, none⟩ = some (.slice A0_0 l0_0.length c0_0) := (Aa0 BK283.out 0).trans rfl
   have hfz6_0 := Aa1 BK283.out 0
   go_wp2
   go_meet
   case rel => exact ⟨_, (decide ((l0_0.length : Int) > 6)), et, H', ⟨by first | omega | exact Nat.le_refl _⟩, ⟨by refine bq ?_; exact BK283.out⟩, ⟨hs HB.out⟩⟩
 case rest =>
  clear HC2
  try clear c4; try clear c4b0; try clear c4b1; try clear hcz5_0; try clear hcz6_0; try clear hfz5_0; try clear hfz6_0
  obtain ⟨kq, x16_1, rfl, HA, HJ1, BK283, HB⟩ := hcut
  cases kq with
  | zero => exact absurd HA.out (by simp [impl_SignatureFault.j0])
  | succ kj1 =>
   have H := HA.out
   clear HA
   simp only [impl_SignatureFault.j0] at H
   by_cases c7 : x16_1 = true
   ·subst c7
    rw [if_pos rfl] at H
    obtain rfl := Option.some.inj H
    go_wp2
    go_ret
    exact ⟨er, hs HB.out⟩
   ·replace c7 := Bool.eq_false_iff.mpr c7
    subst c7
    rw [if_neg (show ¬ (false = true) by decide)] at H
    have H' := am H
    clear H
    have hcz8_0 : wc.cell? ⟨gb283, 0, none⟩ = some (.slice A0_0 l0_0.length c0_0) := (Aa0 BK283.out 0).trans rfl
    have hfz8_0 := Aa1 BK283.out 0
    go_wp2
    go_loopg [20] kj1 (fun kq v20 w' => ∃ (x20_2 : Int), v20 = .int .i64 x20_2 ∧ Aside0 (impl_SignatureFault.l0 kq l0_0 (l0_0.length : Int) x20_2 l0_0 = some r) ∧ Aside0 (kq ≤ kj1) ∧ Aside0 (w'.heap[gb283]? = some (.cells #[(.slice A0_0 l0_0.length c0_0)] 36 (0, 0))) ∧ Aside0 (Below w.heap.size w w'))
    case atStart => exact ⟨(0), et, H', ⟨Nat.le_refl _⟩, ⟨by refine bq ?_; exact BK283.out⟩, ⟨hs HB.out⟩⟩
    case round =>
     clear H'
     try clear c4; try clear c4b0; try clear c4b1; try clear c7; try clear hcz5_0; try clear hcz6_0; try clear hcz8_0; try clear hfz5_0; try clear hfz6_0; try clear hfz8_0
     obtain ⟨x20_2, rfl, HA, HK2, BK283, HB⟩ := hrel
     cases gk with
     | zero => exact absurd HA.out (by simp [impl_SignatureFault.l0])
     | succ k2 =>
      have H := HA.out
      clear HA
      simp only [impl_SignatureFault.l0] at H
      by_cases c9 : x20_2 < (l0_0.length : Int)
      ·rw [if_pos c9] at H
       have c9b0 : decide (x20_2 < (l0_0.length : Int)) = true := decide_eq_true c9
       clear c9
       obtain ⟨c10b0, H⟩ := ife H
       obtain ⟨c11b0, H⟩ := ife H
       obtain ⟨t286, A12, H⟩ := ob H
       try dsimp only at H
       by_cases c13 : t286 = true
       ·subst c13
        rw [if_pos rfl] at H
        obtain ⟨t287, A14, H⟩ := ob H
        try dsimp only at H
        by_cases c15 : t287 = true
        ·subst c15
         rw [if_pos rfl] at H
         have H' := am H
         clear H
         have p284 : 0 ≤ (x20_2 : Int) := od
         have q284 : x20_2 < (l0_0.length : Int) := od
         obtain ⟨ad284, e284, hx284_0, hx284_1⟩ := Ae1 HR0_0.out x20_2 p284 q284
         cases e284
         replace hx284_0 := cz HB.out hx284_0
         replace hx284_1 := cz HB.out hx284_1
         replace p284 := eq_true p284
         replace q284 := eq_true q284
         go_wp2_with (first | ((with_reducible refine Ae9 (N := 4) rfl ?_); (try (refine Ah4 (by rfl) ?_; dsimp only)); refine Ah6 ?hg (N := 4) ?hd (cs := #[.string (⟨#[]⟩ : ByteArray), .int .i64 0]) (t := 79) ?hr ?_; (case hd => rfl); (case hg => rfl); (case hr => first | (go_simp; done) | (go_simp; rfl)); intro gb285 hg w16 hbox hb; have BK285 := am (hbox); have GW285 := am (bz hg (hs HB.out)); replace HB := sb HB hb; have GE285 := GW285; have NB283_285 := nl hg BK283; have NB285_283 := ng hg BK283; replace BK283 := bb BK283 hb; clear hb hbox hg; have hnb17 := NB285_283.out; have hnc17 := NB283_285.out; have hcz18_0 : w16.cell? ⟨gb285, 0, none⟩ = some (.string (⟨#[]⟩ : ByteArray)) := (Aa0 BK285.out 0).trans rfl; have hcz18_1 : w16.cell? ⟨gb285, 1, none⟩ = some (.int .i64 0) := (Aa0 BK285.out 1).trans rfl; have hfz18_0 := Aa1 BK285.out 0; have hfz18_1 := Aa1 BK285.out 1) | (refine gl (some 26) Tryz.func80 rfl #[.string ((Aa7 l0_0 x20_2).f0)] ?_; (with_reducible refine (impl_isName.calls ((Aa7 l0_0 x20_2).f0) true _ A12.out).mono ?_); rintro e w19 ⟨rfl, hb⟩; refine ⟨_, rfl, ?_⟩; replace BK283 := am (Ab5 (g := gb283) (o := .cells #[.slice (some ad284) l0_0.length c0_0] 36 (0, 0)) (by refine bq ?_; refine Ab3 ?_ NB283_285.out _; refine bq ?_; refine Ab3 ?_ NB283_285.out _; refine bq ?_; exact BK283.out) hb); replace BK285 := am (Ab5 (g := gb285) (o := .cells #[.string ((Aa7 l0_0 x20_2).f0), .int .i64 ((Aa7 l0_0 x20_2).f1)] 79 (0, 0)) (by refine bq ?_; refine Ab4 (cs := #[.string ((Aa7 l0_0 x20_2).f0), .int .i64 0]) ?_ 1 _ rfl; refine bq ?_; refine Ab4 (cs := #[.string (⟨#[]⟩ : ByteArray), .int .i64 0]) ?_ 0 _ rfl; refine bq ?_; exact BK285.out) hb); replace HB := sb HB hb; (try clear hb); have hcz20_0 : w19.cell? ⟨gb285, 0, none⟩ = some (.string ((Aa7 l0_0 x20_2).f0)) := (Aa0 BK285.out 0).trans rfl; have hcz20_1 : w19.cell? ⟨gb285, 1, none⟩ = some (.int .i64 ((Aa7 l0_0 x20_2).f1)) := (Aa0 BK285.out 1).trans rfl; have hfz20_0 := Aa1 BK285.out 0; have hfz20_1 := Aa1 BK285.out 1) | (refine gl (some 30) Tryz.func81 rfl #[.int .i64 ((Aa7 l0_0 x20_2).f1), .int .i64 0, .int .i64 2] ?_; (with_reducible refine (impl_within.calls ((Aa7 l0_0 x20_2).f1) 0 2 true _ A14.out).mono ?_); rintro e w' ⟨rfl, ⟨nd, rfl⟩⟩; refine ⟨_, rfl, ?_⟩))
         go_roundg k2
         case measure => have := HJ1.out; have := HK2.out; omega
         case rel => exact ⟨(wrap64 (x20_2 + 1)), et, H', ⟨by have := HJ1.out; have := HK2.out; omega⟩, ⟨by refine bq ?_; exact BK283.out⟩, ⟨hs HB.out⟩⟩
        ·replace c15 := Bool.eq_false_iff.mpr c15
         subst c15
         rw [if_neg (show ¬ (false = true) by decide)] at H
         obtain rfl := Option.some.inj H
         have p284 : 0 ≤ (x20_2 : Int) := od
         have q284 : x20_2 < (l0_0.length : Int) := od
         obtain ⟨ad284, e284, hx284_0, hx284_1⟩ := Ae1 HR0_0.out x20_2 p284 q284
         cases e284
         replace hx284_0 := cz HB.out hx284_0
         replace hx284_1 := cz HB.out hx284_1
         replace p284 := eq_true p284
         replace q284 := eq_true q284
         go_wp2_with (first | ((with_reducible refine Ae9 (N := 4) rfl ?_); (try (refine Ah4 (by rfl) ?_; dsimp only)); refine Ah6 ?hg (N := 4) ?hd (cs := #[.string (⟨#[]⟩ : ByteArray), .int .i64 0]) (t := 79) ?hr ?_; (case hd => rfl); (case hg => rfl); (case hr => first | (go_simp; done) | (go_simp; rfl)); intro gb285 hg w21 hbox hb; have BK285 := am (hbox); have GW285 := am (bz hg (hs HB.out)); replace HB := sb HB hb; have GE285 := GW285; have NB283_285 := nl hg BK283; have NB285_283 := ng hg BK283; replace BK283 := bb BK283 hb; clear hb hbox hg; have hnb22 := NB285_283.out; have hnc22 := NB283_285.out; have hcz23_0 : w21.cell? ⟨gb285, 0, none⟩ = some (.string (⟨#[]⟩ : ByteArray)) := (Aa0 BK285.out 0).trans rfl; have hcz23_1 : w21.cell? ⟨gb285, 1, none⟩ = some (.int .i64 0) := (Aa0 BK285.out 1).trans rfl; have hfz23_0 := Aa1 BK285.out 0; have hfz23_1 := Aa1 BK285.out 1) | (refine gl (some 26) Tryz.func80 rfl #[.string ((Aa7 l0_0 x20_2).f0)] ?_; (with_reducible refine (impl_isName.calls ((Aa7 l0_0 x20_2).f0) true _ A12.out).mono ?_); rintro e w24 ⟨rfl, hb⟩; refine ⟨_, rfl, ?_⟩; replace BK283 := am (Ab5 (g := gb283) (o := .cells #[.slice (some ad284) l0_0.length c0_0] 36 (0, 0)) (by refine bq ?_; refine Ab3 ?_ NB283_285.out _; refine bq ?_; refine Ab3 ?_ NB283_285.out _; refine bq ?_; exact BK283.out) hb); replace BK285 := am (Ab5 (g := gb285) (o := .cells #[.string ((Aa7 l0_0 x20_2).f0), .int .i64 ((Aa7 l0_0 x20_2).f1)] 79 (0, 0)) (by refine bq ?_; refine Ab4 (cs := #[.string ((Aa7 l0_0 x20_2).f0), .int .i64 0]) ?_ 1 _ rfl; refine bq ?_; refine Ab4 (cs := #[.string (⟨#[]⟩ : ByteArray), .int .i64 0]) ?_ 0 _ rfl; refine bq ?_; exact BK285.out) hb); replace HB := sb HB hb; (try clear hb); have hcz25_0 : w24.cell? ⟨gb285, 0, none⟩ = some (.string ((Aa7 l0_0 x20_2).f0)) := (Aa0 BK285.out 0).trans rfl; have hcz25_1 : w24.cell? ⟨gb285, 1, none⟩ = some (.int .i64 ((Aa7 l0_0 x20_2).f1)) := (Aa0 BK285.out 1).trans rfl; have hfz25_0 := Aa1 BK285.out 0; have hfz25_1 := Aa1 BK285.out 1) | (refine gl (some 30) Tryz.func81 rfl #[.int .i64 ((Aa7 l0_0 x20_2).f1), .int .i64 0, .int .i64 2] ?_; (with_reducible refine (impl_within.calls ((Aa7 l0_0 x20_2).f1) 0 2 false _ A14.out).mono ?_); rintro e w' ⟨rfl, ⟨nd, rfl⟩⟩; refine ⟨_, rfl, ?_⟩))
         go_ret
         exact ⟨er, hs HB.out⟩
       ·replace c13 := Bool.eq_false_iff.mpr c13
        subst c13
        rw [if_neg (show ¬ (false = true) by decide)] at H
        obtain rfl := Option.some.inj H
        have p284 : 0 ≤ (x20_2 : Int) := od
        have q284 : x20_2 < (l0_0.length : Int) := od
        obtain ⟨ad284, e284, hx284_0, hx284_1⟩ := Ae1 HR0_0.out x20_2 p284 q284
        cases e284
        replace hx284_0 := cz HB.out hx284_0
        replace hx284_1 := cz HB.out hx284_1
        replace p284 := eq_true p284
        replace q284 := eq_true q284
        go_wp2_with (first | ((with_reducible refine Ae9 (N := 4) rfl ?_); (try (refine Ah4 (by rfl) ?_; dsimp only)); refine Ah6 ?hg (N := 4) ?hd (cs := #[.string (⟨#[]⟩ : ByteArray), .int .i64 0]) (t := 79) ?hr ?_; (case hd => rfl); (case hg => rfl); (case hr => first | (go_simp; done) | (go_simp; rfl)); intro gb285 hg w26 hbox hb; have BK285 := am (hbox); have GW285 := am (bz hg (hs HB.out)); replace HB := sb HB hb; have GE285 := GW285; have NB283_285 := nl hg BK283; have NB285_283 := ng hg BK283; replace BK283 := bb BK283 hb; clear hb hbox hg; have hnb27 := NB285_283.out; have hnc27 := NB283_285.out; have hcz28_0 : w26.cell? ⟨gb285, 0, none⟩ = some (.string (⟨#[]⟩ : ByteArray)) := (Aa0 BK285.out 0).trans rfl; have hcz28_1 : w26.cell? ⟨gb285, 1, none⟩ = some (.int .i64 0) := (Aa0 BK285.out 1).trans rfl; have hfz28_0 := Aa1 BK285.out 0; have hfz28_1 := Aa1 BK285.out 1) | (refine gl (some 26) Tryz.func80 rfl #[.string ((Aa7 l0_0 x20_2).f0)] ?_; (with_reducible refine (impl_isName.calls ((Aa7 l0_0 x20_2).f0) false _ A12.out).mono ?_); rintro e w29 ⟨rfl, hb⟩; refine ⟨_, rfl, ?_⟩; replace BK283 := am (Ab5 (g := gb283) (o := .cells #[.slice (some ad284) l0_0.length c0_0] 36 (0, 0)) (by refine bq ?_; refine Ab3 ?_ NB283_285.out _; refine bq ?_; refine Ab3 ?_ NB283_285.out _; refine bq ?_; exact BK283.out) hb); replace BK285 := am (Ab5 (g := gb285) (o := .cells #[.string ((Aa7 l0_0 x20_2).f0), .int .i64 ((Aa7 l0_0 x20_2).f1)] 79 (0, 0)) (by refine bq ?_; refine Ab4 (cs := #[.string ((Aa7 l0_0 x20_2).f0), .int .i64 0]) ?_ 1 _ rfl; refine bq ?_; refine Ab4 (cs := #[.string (⟨#[]⟩ : ByteArray), .int .i64 0]) ?_ 0 _ rfl; refine bq ?_; exact BK285.out) hb); replace HB := sb HB hb; (try clear hb)))
        go_ret
        exact ⟨er, hs HB.out⟩
      ·rw [if_neg c9] at H
       have c9b0 : decide (x20_2 < (l0_0.length : Int)) = false := decide_eq_false c9
       clear c9
       have H' := am H
       clear H
       have hcz30_0 : wr.cell? ⟨gb283, 0, none⟩ = some (.slice A0_0 l0_0.length c0_0) := (Aa0 BK283.out 0).trans rfl
       have hfz30_0 := Aa1 BK283.out 0
       go_wp2
       go_loopg [36] k2 (fun kq v36 w' => ∃ (x36_3 : Int), v36 = .int .i64 x36_3 ∧ Aside0 (impl_SignatureFault.l1 kq l0_0 (l0_0.length : Int) x36_3 l0_0 = some r) ∧ Aside0 (kq ≤ k2) ∧ Aside0 (w'.heap[gb283]? = some (.cells #[(.slice A0_0 l0_0.length c0_0)] 36 (0, 0))) ∧ Aside0 (Below w.heap.size w w'))
       case atStart => exact ⟨(0), et, H', ⟨Nat.le_refl _⟩, ⟨by refine bq ?_; exact BK283.out⟩, ⟨hs HB.out⟩⟩
       case round =>
        clear H'
        try clear c4; try clear c4b0; try clear c4b1; try clear c7; try clear c9; try clear c9b0; try clear c10b0; try clear c11b0; try clear c13; try clear c15; try clear hcz18_0; try clear hcz18_1; try clear hcz20_0; try clear hcz20_1; try clear hcz23_0; try clear hcz23_1; try clear hcz25_0; try clear hcz25_1; try clear hcz28_0; try clear hcz28_1; try clear hcz30_0; try clear hcz5_0; try clear hcz6_0; try clear hcz8_0; try clear hfz18_0; try clear hfz18_1; try clear hfz20_0; try clear hfz20_1; try clear hfz23_0; try clear hfz23_1; try clear hfz25_0; try clear hfz25_1; try clear hfz28_0; try clear hfz28_1; try clear hfz30_0; try clear hfz5_0; try clear hfz6_0; try clear hfz8_0; try clear hx284_0; try clear hx284_1; try clear p284; try clear q284
        obtain ⟨x36_3, rfl, HA, HK3, BK283, HB⟩ := hrel
        cases gk with
        | zero => exact absurd HA.out (by simp [impl_SignatureFault.l1])
        | succ k3 =>
         have H := HA.out
         clear HA
         simp only [impl_SignatureFault.l1] at H
         by_cases c31 : x36_3 < (l0_0.length : Int)
         ·rw [if_pos c31] at H
          have c31b0 : decide (x36_3 < (l0_0.length : Int)) = true := decide_eq_true c31
          clear c31
          obtain ⟨c32b0, H⟩ := ife H
          obtain ⟨c33b0, H⟩ := ife H
          obtain ⟨t290, A34, H⟩ := ob H
          try dsimp only at H
          by_cases c35 : t290 = x36_3
          ·rw [if_pos c35] at H
           obtain ⟨c35b0, c35b1⟩ := bqt c35; clear c35
           have H' := am H
           clear H
           have p288 : 0 ≤ (x36_3 : Int) := od
           have q288 : x36_3 < (l0_0.length : Int) := od
           obtain ⟨ad288, e288, hx288_0, hx288_1⟩ := Ae1 HR0_0.out x36_3 p288 q288
           cases e288
           replace hx288_0 := cz HB.out hx288_0
           replace hx288_1 := cz HB.out hx288_1
           replace p288 := eq_true p288
           replace q288 := eq_true q288
           go_wp2_with (first | ((with_reducible refine Ae9 (N := 6) rfl ?_); (try (refine Ah4 (by rfl) ?_; dsimp only)); refine Ah6 ?hg (N := 6) ?hd (cs := #[.string (⟨#[]⟩ : ByteArray), .int .i64 0]) (t := 79) ?hr ?_; (case hd => rfl); (case hg => rfl); (case hr => first | (go_simp; done) | (go_simp; rfl)); intro gb289 hg w36 hbox hb; have BK289 := am (hbox); have GW289 := am (bz hg (hs HB.out)); replace HB := sb HB hb; have GE289 := GW289; have NB283_289 := nl hg BK283; have NB289_283 := ng hg BK283; replace BK283 := bb BK283 hb; clear hb hbox hg; have hnb37 := NB289_283.out; have hnc37 := NB283_289.out; have hcz38_0 : w36.cell? ⟨gb289, 0, none⟩ = some (.string (⟨#[]⟩ : ByteArray)) := (Aa0 BK289.out 0).trans rfl; have hcz38_1 : w36.cell? ⟨gb289, 1, none⟩ = some (.int .i64 0) := (Aa0 BK289.out 1).trans rfl; have hfz38_0 := Aa1 BK289.out 0; have hfz38_1 := Aa1 BK289.out 1; have hcz39_0 : w36.cell? ⟨gb283, 0, none⟩ = some (.slice (some ad288) l0_0.length c0_0) := (Aa0 BK283.out 0).trans rfl; have hfz39_0 := Aa1 BK283.out 0) | (refine gl (some 44) Tryz.func82 rfl #[.agg #[.slice (some ad288) l0_0.length c0_0], .string ((Aa7 l0_0 x36_3).f0)] ?_; refine (impl_symbolIndex.calls k3 _ _ l0_0 ((Aa7 l0_0 x36_3).f0) t290 _ (Kd.C_below HR0_0.out (hs HB.out)) HC0_0.out A34.out).mono ?_; rintro e w40 ⟨rfl, hb⟩; refine ⟨_, rfl, ?_⟩; replace BK283 := am (Ab5 (g := gb283) (o := .cells #[.slice (some ad288) l0_0.length c0_0] 36 (0, 0)) (by refine bq ?_; refine Ab3 ?_ NB283_289.out _; refine bq ?_; refine Ab3 ?_ NB283_289.out _; refine bq ?_; exact BK283.out) hb); replace BK289 := am (Ab5 (g := gb289) (o := .cells #[.string ((Aa7 l0_0 x36_3).f0), .int .i64 ((Aa7 l0_0 x36_3).f1)] 79 (0, 0)) (by refine bq ?_; refine Ab4 (cs := #[.string ((Aa7 l0_0 x36_3).f0), .int .i64 0]) ?_ 1 _ rfl; refine bq ?_; refine Ab4 (cs := #[.string (⟨#[]⟩ : ByteArray), .int .i64 0]) ?_ 0 _ rfl; refine bq ?_; exact BK289.out) hb); replace HB := sb HB hb; (try clear hb)))
           go_roundg k3
           case measure => have := HJ1.out; have := HK2.out; have := HK3.out; omega
           case rel => exact ⟨(wrap64 (x36_3 + 1)), et, H', ⟨by have := HJ1.out; have := HK2.out; have := HK3.out; omega⟩, ⟨by refine bq ?_; exact BK283.out⟩, ⟨hs HB.out⟩⟩
          ·rw [if_neg c35] at H
           obtain ⟨c35b0, c35b1⟩ := bqf c35
           obtain rfl := Option.some.inj H
           have p288 : 0 ≤ (x36_3 : Int) := od
           have q288 : x36_3 < (l0_0.length : Int) := od
           obtain ⟨ad288, e288, hx288_0, hx288_1⟩ := Ae1 HR0_0.out x36_3 p288 q288
           cases e288
           replace hx288_0 := cz HB.out hx288_0
           replace hx288_1 := cz HB.out hx288_1
           replace p288 := eq_true p288
           replace q288 := eq_true q288
           go_wp2_with (first | ((with_reducible refine Ae9 (N := 6) rfl ?_); (try (refine Ah4 (by rfl) ?_; dsimp only)); refine Ah6 ?hg (N := 6) ?hd (cs := #[.string (⟨#[]⟩ : ByteArray), .int .i64 0]) (t := 79) ?hr ?_; (case hd => rfl); (case hg => rfl); (case hr => first | (go_simp; done) | (go_simp; rfl)); intro gb289 hg w41 hbox hb; have BK289 := am (hbox); have GW289 := am (bz hg (hs HB.out)); replace HB := sb HB hb; have GE289 := GW289; have NB283_289 := nl hg BK283; have NB289_283 := ng hg BK283; replace BK283 := bb BK283 hb; clear hb hbox hg; have hnb42 := NB289_283.out; have hnc42 := NB283_289.out; have hcz43_0 : w41.cell? ⟨gb289, 0, none⟩ = some (.string (⟨#[]⟩ : ByteArray)) := (Aa0 BK289.out 0).trans rfl; have hcz43_1 : w41.cell? ⟨gb289, 1, none⟩ = some (.int .i64 0) := (Aa0 BK289.out 1).trans rfl; have hfz43_0 := Aa1 BK289.out 0; have hfz43_1 := Aa1 BK289.out 1; have hcz44_0 : w41.cell? ⟨gb283, 0, none⟩ = some (.slice (some ad288) l0_0.length c0_0) := (Aa0 BK283.out 0).trans rfl; have hfz44_0 := Aa1 BK283.out 0) | (refine gl (some 44) Tryz.func82 rfl #[.agg #[.slice (some ad288) l0_0.length c0_0], .string ((Aa7 l0_0 x36_3).f0)] ?_; refine (impl_symbolIndex.calls k3 _ _ l0_0 ((Aa7 l0_0 x36_3).f0) t290 _ (Kd.C_below HR0_0.out (hs HB.out)) HC0_0.out A34.out).mono ?_; rintro e w45 ⟨rfl, hb⟩; refine ⟨_, rfl, ?_⟩; replace BK283 := am (Ab5 (g := gb283) (o := .cells #[.slice (some ad288) l0_0.length c0_0] 36 (0, 0)) (by refine bq ?_; refine Ab3 ?_ NB283_289.out _; refine bq ?_; refine Ab3 ?_ NB283_289.out _; refine bq ?_; exact BK283.out) hb); replace BK289 := am (Ab5 (g := gb289) (o := .cells #[.string ((Aa7 l0_0 x36_3).f0), .int .i64 ((Aa7 l0_0 x36_3).f1)] 79 (0, 0)) (by refine bq ?_; refine Ab4 (cs := #[.string ((Aa7 l0_0 x36_3).f0), .int .i64 0]) ?_ 1 _ rfl; refine bq ?_; refine Ab4 (cs := #[.string (⟨#[]⟩ : ByteArray), .int .i64 0]) ?_ 0 _ rfl; refine bq ?_; exact BK289.out) hb); replace HB := sb HB hb; (try clear hb)))
           go_ret
           exact ⟨er, hs HB.out⟩
         ·rw [if_neg c31] at H
          have c31b0 : decide (x36_3 < (l0_0.length : Int)) = false := decide_eq_false c31
          clear c31
          obtain ⟨t291, A46, H⟩ := ob H
          try dsimp only at H
          by_cases c47 : t291 = true
          ·subst c47
           rw [if_pos rfl] at H
           obtain rfl := Option.some.inj H
           have hcz48_0 : wr.cell? ⟨gb283, 0, none⟩ = some (.slice A0_0 l0_0.length c0_0) := (Aa0 BK283.out 0).trans rfl
           have hfz48_0 := Aa1 BK283.out 0
           go_wp2_with (first | (refine gl (some 50) Tryz.func83 rfl #[.slice A0_0 l0_0.length c0_0, .func (.func 84) #[] #[]] ?_; refine (slices_ContainsFunc_impl_Symbol_impl_Symbol_impl_SignatureFault_1.calls k3 _ _ l0_0  true _ (cq (Kd.C_below HR0_0.out HB.out)) HC0_0.out A46.out).mono ?_; rintro e w49 ⟨rfl, hb⟩; refine ⟨_, rfl, ?_⟩; replace BK283 := bb BK283 hb; replace HB := sb HB hb; (try clear hb)))
           go_ret
           exact ⟨er, hs HB.out⟩
          ·replace c47 := Bool.eq_false_iff.mpr c47
           subst c47
           rw [if_neg (show ¬ (false = true) by decide)] at H
           obtain rfl := Option.some.inj H
           have hcz50_0 : wr.cell? ⟨gb283, 0, none⟩ = some (.slice A0_0 l0_0.length c0_0) := (Aa0 BK283.out 0).trans rfl
           have hfz50_0 := Aa1 BK283.out 0
           go_wp2_with (first | (refine gl (some 50) Tryz.func83 rfl #[.slice A0_0 l0_0.length c0_0, .func (.func 84) #[] #[]] ?_; refine (slices_ContainsFunc_impl_Symbol_impl_Symbol_impl_SignatureFault_1.calls k3 _ _ l0_0  false _ (cq (Kd.C_below HR0_0.out HB.out)) HC0_0.out A46.out).mono ?_; rintro e w51 ⟨rfl, hb⟩; refine ⟨_, rfl, ?_⟩; replace BK283 := bb BK283 hb; replace HB := sb HB hb; (try clear hb)))
           go_ret
           exact ⟨er, hs HB.out⟩
end Go.Proofs.YtgichahebemmiaaGreatDoor.P
namespace Go.Proofs.YtgichahebemmiaaGreatDoor.P
open Go.RowKit Go.Proofs.YtgichahebemmiaaGreatDoorW.PrintWords Go.Proofs.YtgichahebemmiaaGreatDoorW.PrintLast Go.Proofs.YtgichahebemmiaaGreatDoorW.PrintMore
attribute [local go_sem] Ae7 Ae4 Af9 Ag0 Ad3 Ad2 Ae8 Ae5   -- for this text's walks alone
set_option linter.unusedVariables false
set_option linter.unusedSimpArgs false
def slices_Index_int64_int64.l0 : Nat → List Int → Int → Int → Int → Option (Int)
 | 0, _, _, _, _ => none
 | k + 1, x0, x1, x7, x8 => if x8 < x7 then (if 0 ≤ x8 then (if x8 < (x0.length : Int) then (if x1 = (rd x0 x8) then (some x8) else (slices_Index_int64_int64.l0 k x0 x1 x7 (wrap64 (x8 + 1)))) else (none)) else (none)) else (some (-1))
def slices_Index_int64_int64.f (k : Nat) (l0 : List Int) (a1 : Int) : Option (Int) := slices_Index_int64_int64.l0 k l0 a1 (l0.length : Int) 0
theorem slices_Index_int64_int64.mono_l : ∀ k, (∀ y0 y1 y2 y3, LeO (slices_Index_int64_int64.l0 k y0 y1 y2 y3) (slices_Index_int64_int64.l0 (k + 1) y0 y1 y2 y3))
 | 0 => fun _ _ _ _ r h => by simp [slices_Index_int64_int64.l0] at h
 | k + 1 => by
  have ih0 := slices_Index_int64_int64.mono_l k
  ·intro y0 y1 y2 y3
   unfold slices_Index_int64_int64.l0
   repeat' first | (with_reducible first | apply ih0 | exact LeO.refl _ | exact LeO.none _ | refine LeO.ite ?_ ?_ | refine LeO.bind ?_ (fun _ => ?_)) | apply ih0 | exact LeO.none _ | refine LeO.ite ?_ ?_ | refine LeO.bind ?_ (fun _ => ?_)
theorem slices_Index_int64_int64.mono : ∀ a0 a1 k, LeO (slices_Index_int64_int64.f k a0 a1) (slices_Index_int64_int64.f (k + 1) a0 a1) := by
 intro a0 a1 k
 have ih0 := slices_Index_int64_int64.mono_l k
 unfold slices_Index_int64_int64.f
 repeat' first | (with_reducible first | apply ih0 | exact LeO.refl _ | exact LeO.none _ | refine LeO.ite ?_ ?_ | refine LeO.bind ?_ (fun _ => ?_)) | apply ih0 | exact LeO.none _ | refine LeO.ite ?_ ?_ | refine LeO.bind ?_ (fun _ => ?_)
set_option maxHeartbeats 8000000 in
set_option maxRecDepth 100000 in
theorem slices_Index_int64_int64.calls (k : Nat) (A0 : Option Addr) (c0 : Nat) (l0 : List Int) (a1 : Int) (r : Int) (w : World) (hr0 : Kd.C (Kd.int .i64) w A0 l0.length l0) (hc0 : l0.length ≤ c0) (h : slices_Index_int64_int64.f k l0 a1 = some r) :
  Calls Tryz.prog 86 #[.slice A0 l0.length c0, .int .i64 a1] w fun e w' => e = .returned (.int .i64 r) ∧ Drawn0 w w' := by
 have HR0 := am hr0
 have HC0 := am hc0
 clear hr0 hc0
 have H : (slices_Index_int64_int64.l0 k l0 a1 (l0.length : Int) 0) = some r := h
 clear h
 have H' := am H
 clear H
 go_enter Tryz.func86, Tryz.ntmps86
 go_wp2
 go_loopg [8] k (fun kq v8 w' => ∃ (x8_1 : Int), v8 = .int .i64 x8_1 ∧ Aside0 (slices_Index_int64_int64.l0 kq l0 a1 (l0.length : Int) x8_1 = some r) ∧ Aside0 (kq ≤ k) ∧ Drawn0 w w')
 case atStart => exact ⟨(0), et, H', ⟨Nat.le_refl _⟩, by repeat (first | exact Drawn0.refl _ | apply Drawn0.step)⟩
 case round =>
  clear H'
  obtain ⟨x8_1, rfl, HA, HK1, ⟨m1, rfl⟩⟩ := hrel
  cases gk with
  | zero => exact absurd HA.out (by simp [slices_Index_int64_int64.l0])
  | succ k1 =>
   have H := HA.out
   clear HA
   simp only [slices_Index_int64_int64.l0] at H
   by_cases c3 : x8_1 < (l0.length : Int)
   ·rw [if_pos c3] at H
    have c3b0 : decide (x8_1 < (l0.length : Int)) = true := decide_eq_true c3
    clear c3
    obtain ⟨c4b0, H⟩ := ife H
    obtain ⟨c5b0, H⟩ := ife H
    by_cases c6 : a1 = (rd l0 x8_1)
    ·rw [if_pos c6] at H
     obtain ⟨c6b0, c6b1⟩ := bqt c6; clear c6
     obtain rfl := Option.some.inj H
     have p292 : 0 ≤ (x8_1 : Int) := od
     have q292 : x8_1 < (l0.length : Int) := od
     obtain ⟨ad292, e292, hx292_0⟩ := Kd.at_int HR0.out x8_1 p292 q292
     cases e292
     replace p292 := eq_true p292
     replace q292 := eq_true q292
     go_wp2
     go_ret
     exact ⟨et, by repeat (first | exact Drawn0.refl _ | apply Drawn0.step)⟩
    ·rw [if_neg c6] at H
     obtain ⟨c6b0, c6b1⟩ := bqf c6
     have H' := am H
     clear H
     have p292 : 0 ≤ (x8_1 : Int) := od
     have q292 : x8_1 < (l0.length : Int) := od
     obtain ⟨ad292, e292, hx292_0⟩ := Kd.at_int HR0.out x8_1 p292 q292
     cases e292
     replace p292 := eq_true p292
     replace q292 := eq_true q292
     go_wp2
     go_roundg k1
     case measure => have := HK1.out; omega
     case rel => exact ⟨(wrap64 (x8_1 + 1)), et, H', ⟨by have := HK1.out; omega⟩, by repeat (first | exact Drawn0.refl _ | apply Drawn0.step)⟩
   ·rw [if_neg c3] at H
    have c3b0 : decide (x8_1 < (l0.length : Int)) = false := decide_eq_false c3
    clear c3
    obtain rfl := Option.some.inj H
    go_wp2
    go_ret
    exact ⟨et, by repeat (first | exact Drawn0.refl _ | apply Drawn0.step)⟩
def slices_Contains_int64_int64.f (k : Nat) (l0 : List Int) (a1 : Int) : Option (Bool) := (slices_Index_int64_int64.f k l0 a1).bind fun t293 => (some (decide (t293 ≥ 0)))
theorem slices_Contains_int64_int64.mono : ∀ a0 a1 k, LeO (slices_Contains_int64_int64.f k a0 a1) (slices_Contains_int64_int64.f (k + 1) a0 a1) := by
 intro a0 a1 k
 unfold slices_Contains_int64_int64.f
 repeat' first | (with_reducible first | apply slices_Index_int64_int64.mono | exact LeO.refl _ | exact LeO.none _ | refine LeO.ite ?_ ?_ | refine LeO.bind ?_ (fun _ => ?_)) | apply slices_Index_int64_int64.mono | exact LeO.none _ | refine LeO.ite ?_ ?_ | refine LeO.bind ?_ (fun _ => ?_)
set_option maxHeartbeats 8000000 in
set_option maxRecDepth 100000 in
theorem slices_Contains_int64_int64.calls (k : Nat) (A0 : Option Addr) (c0 : Nat) (l0 : List Int) (a1 : Int) (r : Bool) (w : World) (hr0 : Kd.C (Kd.int .i64) w A0 l0.length l0) (hc0 : l0.length ≤ c0) (h : slices_Contains_int64_int64.f k l0 a1 = some r) :
  Calls Tryz.prog 57 #[.slice A0 l0.length c0, .int .i64 a1] w fun e w' => e = .returned (.bool r) ∧ Drawn0 w w' := by
 have HR0 := am hr0
 have HC0 := am hc0
 clear hr0 hc0
 have H : ((slices_Index_int64_int64.f k l0 a1).bind fun t293 => (some (decide (t293 ≥ 0)))) = some r := h
 clear h
 obtain ⟨t293, A3, H⟩ := ob H
 try dsimp only at H
 obtain rfl := Option.some.inj H
 go_enter Tryz.func57, Tryz.ntmps57
 go_wp2_with (first | (refine gl (some 7) Tryz.func86 rfl #[.slice A0 l0.length c0, .int .i64 a1] ?_; refine (slices_Index_int64_int64.calls k _ _ l0 a1 t293 _ (cq HR0.out) HC0.out A3.out).mono ?_; rintro e w' ⟨rfl, ⟨nd, rfl⟩⟩; refine ⟨_, rfl, ?_⟩))
 go_ret
 exact ⟨et, by repeat (first | exact Drawn0.refl _ | apply Drawn0.step)⟩
def impl_isSymbol.f (l0_0 : List (S79)) (a1 : Int) : Option (Bool) := (impl_within.f a1 0 (wrap64 ((l0_0.length : Int) - 1))).bind fun t295 => (some t295)
set_option maxHeartbeats 8000000 in
set_option maxRecDepth 100000 in
theorem impl_isSymbol.calls (A0_0 : Option Addr) (c0_0 : Nat) (l0_0 : List (S79)) (a1 : Int) (r : Bool) (w : World) (hr0_0 : Kd.C k79 w A0_0 l0_0.length l0_0) (hc0_0 : l0_0.length ≤ c0_0) (h : impl_isSymbol.f l0_0 a1 = some r) :
  Calls Tryz.prog 56 #[.agg #[.slice A0_0 l0_0.length c0_0], .int .i64 a1] w fun e w' => e = .returned (.bool r) ∧ Below w.heap.size w w' := by
 have hu36 := Tryz.underlying36
 have HR0_0 := am hr0_0
 have HC0_0 := am hc0_0
 clear hr0_0 hc0_0
 have HB := am (Below.refl w.heap.size w)
 have H : ((impl_within.f a1 0 (wrap64 ((l0_0.length : Int) - 1))).bind fun t295 => (some t295)) = some r := h
 clear h
 obtain ⟨t295, A3, H⟩ := ob H
 try dsimp only at H
 obtain rfl := Option.some.inj H
 go_enter Tryz.func56, Tryz.ntmps56
 go_wp2_with (first | (refine bx 2 rfl #[.slice A0_0 l0_0.length c0_0] 36 ?_; intro gb294 hg w4 hbox hb; have BK294 := am (hbox); have GW294 := am (bz hg (hq HB.out)); replace HB := sb HB hb; have GE294 := GW294; clear hb hbox hg; have hcz5_0 : w4.cell? ⟨gb294, 0, none⟩ = some (.slice A0_0 l0_0.length c0_0) := (Aa0 BK294.out 0).trans rfl; have hfz5_0 := Aa1 BK294.out 0) | (refine gl (some 10) Tryz.func81 rfl #[.int .i64 a1, .int .i64 0, .int .i64 (wrap64 ((l0_0.length : Int) - 1))] ?_; (with_reducible refine (impl_within.calls a1 0 (wrap64 ((l0_0.length : Int) - 1)) t295 _ A3.out).mono ?_); rintro e w' ⟨rfl, ⟨nd, rfl⟩⟩; refine ⟨_, rfl, ?_⟩))
 go_ret
 exact ⟨er, hs HB.out⟩
def impl_OrderFault_1_with.f (a0 : Int) (l1 : List (S36)) : Option (Bool) := if 0 < (l1.length : Int) then ((impl_isSymbol.f ((Ad0 l1 0).f0) a0).bind fun t297 => (some (!t297))) else (none)
set_option maxHeartbeats 8000000 in
set_option maxRecDepth 100000 in
theorem impl_OrderFault_1_with.calls (a0 : Int) (A1 : Option Addr) (l1 : List (S36)) (r : Bool) (w : World) (hr1 : Kd.C k36 w A1 l1.length l1) (h : impl_OrderFault_1_with.f a0 l1 = some r) :
  Calls Tryz.prog 55 #[.int .i64 a0, .pointer A1] w fun e w' => e = .returned (.bool r) ∧ Below w.heap.size w w' := by
 have hu36 := Tryz.underlying36
 have HR1 := am hr1
 clear hr1
 have HB := am (Below.refl w.heap.size w)
 have H : (if 0 < (l1.length : Int) then ((impl_isSymbol.f ((Ad0 l1 0).f0) a0).bind fun t297 => (some (!t297))) else (none)) = some r := h
 clear h
 obtain ⟨c3, H⟩ := ifs H
 have c3b0 : decide (0 < (l1.length : Int)) = true := decide_eq_true c3
 have c3b1 : decide (0 < l1.length) = true := decide_eq_true (by omega)
 clear c3
 obtain ⟨t297, A4, H⟩ := ob H
 try dsimp only at H
 obtain rfl := Option.some.inj H
 have p296 : 0 ≤ (0 : Int) := (by omega)
 have q296 : 0 < (l1.length : Int) := od
 obtain ⟨ad296, A296_0, c296_0, e296, hx296_0, hl296_0, hi296_0⟩ := Ah9 HR1.out 0 p296 q296
 cases e296
 have qi296 : (0 < l1.length) = True := eq_true (by omega)
 (try rw [show ((0 : Int)).toNat = 0 from rfl] at hx296_0)
 (try rw [Addr.add_zero'] at hx296_0)
 have HR296_0 := am hi296_0
 have HC296_0 := am hl296_0
 clear hi296_0 hl296_0
 replace p296 := eq_true p296
 replace q296 := eq_true q296
 go_enter Tryz.func55, Tryz.ntmps55
 go_wp2_with (first | (refine gl (some 6) Tryz.func56 rfl #[.agg #[.slice A296_0 ((Ad0 l1 0).f0).length c296_0], .int .i64 a0] ?_; refine (impl_isSymbol.calls _ _ ((Ad0 l1 0).f0) a0 t297 _ (cq HR296_0.out) HC296_0.out A4.out).mono ?_; rintro e w5 ⟨rfl, hb⟩; refine ⟨_, rfl, ?_⟩; replace HB := sb HB hb; (try clear hb)))
 go_ret
 exact ⟨er, hq HB.out⟩
def slices_IndexFunc_int64_int64_impl_OrderFault_1.l0 : Nat → List Int → Int → Int → List (S36) → Option (Int)
 | 0, _, _, _, _ => none
 | k + 1, x0, x7, x8, x910 => if x8 < x7 then (if 0 ≤ x8 then (if x8 < (x0.length : Int) then ((impl_OrderFault_1_with.f (rd x0 x8) x910).bind fun t299 => (if t299 = true then (some x8) else (slices_IndexFunc_int64_int64_impl_OrderFault_1.l0 k x0 x7 (wrap64 (x8 + 1)) x910))) else (none)) else (none)) else (some (-1))
def slices_IndexFunc_int64_int64_impl_OrderFault_1.f (k : Nat) (l0 : List Int) (l1_0 : List (S36)) : Option (Int) := slices_IndexFunc_int64_int64_impl_OrderFault_1.l0 k l0 (l0.length : Int) 0 l1_0
set_option maxHeartbeats 8000000 in
set_option maxRecDepth 100000 in
theorem slices_IndexFunc_int64_int64_impl_OrderFault_1.calls (k : Nat) (A0 : Option Addr) (c0 : Nat) (l0 : List Int) (A1_0 : Option Addr) (l1_0 : List (S36)) (r : Int) (w : World) (hr0 : Kd.C (Kd.int .i64) w A0 l0.length l0) (hc0 : l0.length ≤ c0) (hr1_0 : Kd.C k36 w A1_0 l1_0.length l1_0) (h : slices_IndexFunc_int64_int64_impl_OrderFault_1.f k l0 l1_0 = some r) :
  Calls Tryz.prog 85 #[.slice A0 l0.length c0, .func (.func 55) #[] #[.pointer A1_0]] w fun e w' => e = .returned (.int .i64 r) ∧ Below w.heap.size w w' := by
 have HR0 := am hr0
 have HC0 := am hc0
 clear hr0 hc0
 have HR1_0 := am hr1_0
 clear hr1_0
 have HB := am (Below.refl w.heap.size w)
 have H : (slices_IndexFunc_int64_int64_impl_OrderFault_1.l0 k l0 (l0.length : Int) 0 l1_0) = some r := h
 clear h
 have H' := am H
 clear H
 go_enter Tryz.func85, Tryz.ntmps85
 go_wp2
 go_loopg [8] k (fun kq v8 w' => ∃ (x8_1 : Int), v8 = .int .i64 x8_1 ∧ Aside0 (slices_IndexFunc_int64_int64_impl_OrderFault_1.l0 kq l0 (l0.length : Int) x8_1 l1_0 = some r) ∧ Aside0 (kq ≤ k) ∧ Aside0 (Below w.heap.size w w'))
 case atStart => exact ⟨(0), et, H', ⟨Nat.le_refl _⟩, ⟨hq HB.out⟩⟩
 case round =>
  clear H'
  obtain ⟨x8_1, rfl, HA, HK1, HB⟩ := hrel
  cases gk with
  | zero => exact absurd HA.out (by simp [slices_IndexFunc_int64_int64_impl_OrderFault_1.l0])
  | succ k1 =>
   have H := HA.out
   clear HA
   simp only [slices_IndexFunc_int64_int64_impl_OrderFault_1.l0] at H
   by_cases c3 : x8_1 < (l0.length : Int)
   ·rw [if_pos c3] at H
    have c3b0 : decide (x8_1 < (l0.length : Int)) = true := decide_eq_true c3
    clear c3
    obtain ⟨c4b0, H⟩ := ife H
    obtain ⟨c5b0, H⟩ := ife H
    obtain ⟨t299, A6, H⟩ := ob H
    try dsimp only at H
    by_cases c7 : t299 = true
    ·subst c7
     rw [if_pos rfl] at H
     obtain rfl := Option.some.inj H
     have p298 : 0 ≤ (x8_1 : Int) := od
     have q298 : x8_1 < (l0.length : Int) := od
     obtain ⟨ad298, e298, hx298_0⟩ := Kd.at_int HR0.out x8_1 p298 q298
     cases e298
     replace hx298_0 := cz HB.out hx298_0
     replace p298 := eq_true p298
     replace q298 := eq_true q298
     go_wp2_with (first | ((first | (refine gl (some 16) Tryz.func55 rfl #[.int .i64 (rd l0 x8_1), .pointer A1_0] ?_) | ((with_reducible refine Af4 _ rfl ?_); refine Ao0 (some 16) rfl rfl Tryz.func55 (by kernel_rfl) rfl #[.int .i64 (rd l0 x8_1), .pointer A1_0] rfl rfl (by first | rfl | (simp <;> first | rfl | exact ⟨rfl, rfl⟩ | exact ⟨rfl, rfl, rfl⟩) | ((try simp only [List.map_toArray, List.map_cons, List.map_nil]); first | done | rfl | (simp only [List.length_drop, List.length_take]; rfl))) ?_)); refine (impl_OrderFault_1_with.calls (rd l0 x8_1) _ l1_0 true _ (cq (Kd.C_below HR1_0.out HB.out)) A6.out).mono ?_; rintro e w8 ⟨rfl, hb⟩; refine ⟨_, rfl, ?_⟩; replace HB := sb HB hb; (try clear hb)))
     go_ret
     exact ⟨er, hq HB.out⟩
    ·replace c7 := Bool.eq_false_iff.mpr c7
     subst c7
     rw [if_neg (show ¬ (false = true) by decide)] at H
     have H' := am H
     clear H
     have p298 : 0 ≤ (x8_1 : Int) := od
     have q298 : x8_1 < (l0.length : Int) := od
     obtain ⟨ad298, e298, hx298_0⟩ := Kd.at_int HR0.out x8_1 p298 q298
     cases e298
     replace hx298_0 := cz HB.out hx298_0
     replace p298 := eq_true p298
     replace q298 := eq_true q298
     go_wp2_with (first | ((first | (refine gl (some 16) Tryz.func55 rfl #[.int .i64 (rd l0 x8_1), .pointer A1_0] ?_) | ((with_reducible refine Af4 _ rfl ?_); refine Ao0 (some 16) rfl rfl Tryz.func55 (by kernel_rfl) rfl #[.int .i64 (rd l0 x8_1), .pointer A1_0] rfl rfl (by first | rfl | (simp <;> first | rfl | exact ⟨rfl, rfl⟩ | exact ⟨rfl, rfl, rfl⟩) | ((try simp only [List.map_toArray, List.map_cons, List.map_nil]); first | done | rfl | (simp only [List.length_drop, List.length_take]; rfl))) ?_)); refine (impl_OrderFault_1_with.calls (rd l0 x8_1) _ l1_0 false _ (cq (Kd.C_below HR1_0.out HB.out)) A6.out).mono ?_; rintro e w9 ⟨rfl, hb⟩; refine ⟨_, rfl, ?_⟩; replace HB := sb HB hb; (try clear hb)))
     go_roundg k1
     case measure => have := HK1.out; omega
     case rel => exact ⟨(wrap64 (x8_1 + 1)), et, H', ⟨by have := HK1.out; omega⟩, ⟨hq HB.out⟩⟩
   ·rw [if_neg c3] at H
    have c3b0 : decide (x8_1 < (l0.length : Int)) = false := decide_eq_false c3
    clear c3
    obtain rfl := Option.some.inj H
    go_wp2
    go_ret
    exact ⟨er, hq HB.out⟩
def slices_ContainsFunc_int64_int64_impl_OrderFault_1.f (k : Nat) (l0 : List Int) (l1_0 : List (S36)) : Option (Bool) := (slices_IndexFunc_int64_int64_impl_OrderFault_1.f k l0 l1_0).bind fun t300 => (some (decide (t300 ≥ 0)))
set_option maxHeartbeats 8000000 in
set_option maxRecDepth 100000 in
theorem slices_ContainsFunc_int64_int64_impl_OrderFault_1.calls (k : Nat) (A0 : Option Addr) (c0 : Nat) (l0 : List Int) (A1_0 : Option Addr) (l1_0 : List (S36)) (r : Bool) (w : World) (hr0 : Kd.C (Kd.int .i64) w A0 l0.length l0) (hc0 : l0.length ≤ c0) (hr1_0 : Kd.C k36 w A1_0 l1_0.length l1_0) (h : slices_ContainsFunc_int64_int64_impl_OrderFault_1.f k l0 l1_0 = some r) :
  Calls Tryz.prog 54 #[.slice A0 l0.length c0, .func (.func 55) #[] #[.pointer A1_0]] w fun e w' => e = .returned (.bool r) ∧ Below w.heap.size w w' := by
 have HR0 := am hr0
 have HC0 := am hc0
 clear hr0 hc0
 have HR1_0 := am hr1_0
 clear hr1_0
 have HB := am (Below.refl w.heap.size w)
 have H : ((slices_IndexFunc_int64_int64_impl_OrderFault_1.f k l0 l1_0).bind fun t300 => (some (decide (t300 ≥ 0)))) = some r := h
 clear h
 obtain ⟨t300, A3, H⟩ := ob H
 try dsimp only at H
 obtain rfl := Option.some.inj H
 go_enter Tryz.func54, Tryz.ntmps54
 go_wp2_with (first | (refine gl (some 7) Tryz.func85 rfl #[.slice A0 l0.length c0, .func (.func 55) #[] #[.pointer A1_0]] ?_; refine (slices_IndexFunc_int64_int64_impl_OrderFault_1.calls k _ _ l0 _ l1_0 t300 _ (cq HR0.out) HC0.out (cq HR1_0.out) A3.out).mono ?_; rintro e w4 ⟨rfl, hb⟩; refine ⟨_, rfl, ?_⟩; replace HB := sb HB hb; (try clear hb)))
 go_ret
 exact ⟨er, hq HB.out⟩
def impl_OrderFault.l0 : Nat → List Int → List Int → Int → Int → Option (Int)
 | 0, _, _, _, _ => none
 | k + 1, x1, x22, x23, x24 => if x24 < x23 then (if 0 ≤ x24 then (if x24 < (x22.length : Int) then (if x24 ≤ (x1.length : Int) then ((slices_Contains_int64_int64.f k (x1.take (x24 : Int).toNat) (rd x22 x24)).bind fun t306 => (if t306 = true then (some 6) else (impl_OrderFault.l0 k x1 x22 x23 (wrap64 (x24 + 1))))) else (none)) else (none)) else (none)) else (some 0)
def impl_OrderFault.f (k : Nat) (l0_0 : List (S79)) (l1 : List Int) : Option (Int) := (impl_SignatureFault.f k l0_0).bind fun t302 => (if t302 = 0 then (if (l1.length : Int) = (l0_0.length : Int) then ((slices_ContainsFunc_int64_int64_impl_OrderFault_1.f k l1 [(⟨l0_0⟩ : S36)]).bind fun t303 => (if t303 = true then (some 3) else (impl_OrderFault.l0 k l1 l1 (l1.length : Int) 0))) else (some 2)) else (some t302))
set_option maxHeartbeats 8000000 in
set_option maxRecDepth 100000 in
theorem impl_OrderFault.calls (k : Nat) (A0_0 : Option Addr) (c0_0 : Nat) (l0_0 : List (S79)) (A1 : Option Addr) (c1 : Nat) (l1 : List Int) (r : Int) (w : World) (hr0_0 : Kd.C k79 w A0_0 l0_0.length l0_0) (hc0_0 : l0_0.length ≤ c0_0) (hr1 : Kd.C (Kd.int .i64) w A1 l1.length l1) (hc1 : l1.length ≤ c1) (h : impl_OrderFault.f k l0_0 l1 = some r) :
  Calls Tryz.prog 35 #[.agg #[.slice A0_0 l0_0.length c0_0], .slice A1 l1.length c1] w fun e w' => e = .returned (.int .i64 r) ∧ Below w.heap.size w w' := by
 have hu36 := Tryz.underlying36
 have HR0_0 := am hr0_0
 have HC0_0 := am hc0_0
 clear hr0_0 hc0_0
 have HR1 := am hr1
 have HC1 := am hc1
 clear hr1 hc1
 have HB := am (Below.refl w.heap.size w)
 have H : ((impl_SignatureFault.f k l0_0).bind fun t302 => (if t302 = 0 then (if (l1.length : Int) = (l0_0.length : Int) then ((slices_ContainsFunc_int64_int64_impl_OrderFault_1.f k l1 [(⟨l0_0⟩ : S36)]).bind fun t303 => (if t303 = true then (some 3) else (impl_OrderFault.l0 k l1 l1 (l1.length : Int) 0))) else (some 2)) else (some t302))) = some r := h
 clear h
 obtain ⟨t302, A3, H⟩ := ob H
 try dsimp only at H
 by_cases c4 : t302 = 0
 ·rw [if_pos c4] at H
  obtain ⟨c4b0, c4b1⟩ := bqt c4; clear c4
  by_cases c5 : (l1.length : Int) = (l0_0.length : Int)
  ·rw [if_pos c5] at H
   have c5b0 : ((l1.length : Int) == (l0_0.length : Int)) = true := beq_iff_eq.mpr c5
   have c5b1 : ((l1.length : Int) != (l0_0.length : Int)) = false := bne_eq_false_iff_eq.mpr c5
   have c5b2 : (l1.length == l0_0.length) = true := by first | simpa using c5 | (simp at c5 ⊢; omega)
   clear c5
   obtain ⟨t303, A6, H⟩ := ob H
   try dsimp only at H
   by_cases c7 : t303 = true
   ·subst c7
    rw [if_pos rfl] at H
    obtain rfl := Option.some.inj H
    go_enter Tryz.func35, Tryz.ntmps35
    go_wp2_with (first | (refine bx 2 rfl #[.slice A0_0 l0_0.length c0_0] 36 ?_; intro gb301 hg w8 hbox hb; have BK301 := am (hbox); have GW301 := am (bz hg (hq HB.out)); replace HB := sb HB hb; have GE301 := GW301; clear hb hbox hg; have hcz9_0 : w8.cell? ⟨gb301, 0, none⟩ = some (.slice A0_0 l0_0.length c0_0) := (Aa0 BK301.out 0).trans rfl; have hfz9_0 := Aa1 BK301.out 0) | (refine gl (some 9) Tryz.func53 rfl #[.agg #[.slice A0_0 l0_0.length c0_0]] ?_; refine (impl_SignatureFault.calls k _ _ l0_0 t302 _ (cq (Kd.C_below HR0_0.out HB.out)) HC0_0.out A3.out).mono ?_; rintro e w10 ⟨rfl, hb⟩; refine ⟨_, rfl, ?_⟩; replace BK301 := bb BK301 hb; replace HB := sb HB hb; (try clear hb); have hcz11_0 : w10.cell? ⟨gb301, 0, none⟩ = some (.slice A0_0 l0_0.length c0_0) := (Aa0 BK301.out 0).trans rfl; have hfz11_0 := Aa1 BK301.out 0) | (refine gl (some 21) Tryz.func54 rfl #[.slice A1 l1.length c1, .func (.func 55) #[] #[.pointer (some ⟨gb301, 0, none⟩)]] ?_; refine (slices_ContainsFunc_int64_int64_impl_OrderFault_1.calls k _ _ l1 _ [(⟨l0_0⟩ : S36)] true _ (cq (Kd.C_below HR1.out HB.out)) HC1.out (Ag4 (bq BK301.out) (cq (Kd.C_below HR0_0.out HB.out)) (by exact HC0_0.out)) A6.out).mono ?_; rintro e w12 ⟨rfl, hb⟩; refine ⟨_, rfl, ?_⟩; replace BK301 := bb BK301 hb; replace HB := sb HB hb; (try clear hb)))
    go_ret
    exact ⟨er, hs HB.out⟩
   ·replace c7 := Bool.eq_false_iff.mpr c7
    subst c7
    rw [if_neg (show ¬ (false = true) by decide)] at H
    have H' := am H
    clear H
    go_enter Tryz.func35, Tryz.ntmps35
    go_wp2_with (first | (refine bx 2 rfl #[.slice A0_0 l0_0.length c0_0] 36 ?_; intro gb301 hg w13 hbox hb; have BK301 := am (hbox); have GW301 := am (bz hg (hq HB.out)); replace HB := sb HB hb; have GE301 := GW301; clear hb hbox hg; have hcz14_0 : w13.cell? ⟨gb301, 0, none⟩ = some (.slice A0_0 l0_0.length c0_0) := (Aa0 BK301.out 0).trans rfl; have hfz14_0 := Aa1 BK301.out 0) | (refine gl (some 9) Tryz.func53 rfl #[.agg #[.slice A0_0 l0_0.length c0_0]] ?_; refine (impl_SignatureFault.calls k _ _ l0_0 t302 _ (cq (Kd.C_below HR0_0.out HB.out)) HC0_0.out A3.out).mono ?_; rintro e w15 ⟨rfl, hb⟩; refine ⟨_, rfl, ?_⟩; replace BK301 := bb BK301 hb; replace HB := sb HB hb; (try clear hb); have hcz16_0 : w15.cell? ⟨gb301, 0, none⟩ = some (.slice A0_0 l0_0.length c0_0) := (Aa0 BK301.out 0).trans rfl; have hfz16_0 := Aa1 BK301.out 0) | (refine gl (some 21) Tryz.func54 rfl #[.slice A1 l1.length c1, .func (.func 55) #[] #[.pointer (some ⟨gb301, 0, none⟩)]] ?_; refine (slices_ContainsFunc_int64_int64_impl_OrderFault_1.calls k _ _ l1 _ [(⟨l0_0⟩ : S36)] false _ (cq (Kd.C_below HR1.out HB.out)) HC1.out (Ag4 (bq BK301.out) (cq (Kd.C_below HR0_0.out HB.out)) (by exact HC0_0.out)) A6.out).mono ?_; rintro e w17 ⟨rfl, hb⟩; refine ⟨_, rfl, ?_⟩; replace BK301 := bb BK301 hb; replace HB := sb HB hb; (try clear hb)))
    go_loopg [24] k (fun kq v24 w' => ∃ (x24_1 : Int), v24 = .int .i64 x24_1 ∧ Aside0 (impl_OrderFault.l0 kq l1 l1 (l1.length : Int) x24_1 = some r) ∧ Aside0 (kq ≤ k) ∧ Aside0 (w'.heap[gb301]? = some (.cells #[(.slice A0_0 l0_0.length c0_0)] 36 (0, 0))) ∧ Aside0 (Below w.heap.size w w'))
    case atStart => exact ⟨(0), et, H', ⟨Nat.le_refl _⟩, ⟨by refine bq ?_; exact BK301.out⟩, ⟨hs HB.out⟩⟩
    case round =>
     clear H'
     try clear c1; try clear c4; try clear c4b0; try clear c4b1; try clear c5; try clear c5b0; try clear c5b1; try clear c5b2; try clear c7; try clear hcz11_0; try clear hcz14_0; try clear hcz16_0; try clear hcz9_0; try clear hfz11_0; try clear hfz14_0; try clear hfz16_0; try clear hfz9_0
     obtain ⟨x24_1, rfl, HA, HK1, BK301, HB⟩ := hrel
     cases gk with
     | zero => exact absurd HA.out (by simp [impl_OrderFault.l0])
     | succ k1 =>
      have H := HA.out
      clear HA
      simp only [impl_OrderFault.l0] at H
      by_cases c18 : x24_1 < (l1.length : Int)
      ·rw [if_pos c18] at H
       have c18b0 : decide (x24_1 < (l1.length : Int)) = true := decide_eq_true c18
       clear c18
       obtain ⟨c19b0, H⟩ := ife H
       obtain ⟨c20b0, H⟩ := ife H
       have c21b0 := eq_true (of_decide_eq_true (by first | (with_reducible assumption) | assumption) : 0 ≤ x24_1)
       obtain ⟨c22b0, c22b1, H⟩ := ifd H
       obtain ⟨t306, A23, H⟩ := ob H
       try dsimp only at H
       by_cases c24 : t306 = true
       ·subst c24
        rw [if_pos rfl] at H
        obtain rfl := Option.some.inj H
        have p304 : 0 ≤ (x24_1 : Int) := od
        have q304 : x24_1 < (l1.length : Int) := od
        obtain ⟨ad304, e304, hx304_0⟩ := Kd.at_int HR1.out x24_1 p304 q304
        cases e304
        replace hx304_0 := cz HB.out hx304_0
        replace p304 := eq_true p304
        replace q304 := eq_true q304
        obtain ⟨i025, hi025, _, hsz25, _⟩ := info_parts Ap0
        obtain ⟨hcut25, hA25, hC25⟩ := print_take_of (P := Tryz.prog) (Value.int .i64) 0 25 2 .i64 Tryz.underlying25 hi025 hsz25 (some ad304) c1 l1 x24_1 od od HC1.out
        have HR305 := am (Kd.C_of_reads (h1 := fun _ => rfl) (hA25 _ (Kd.reads_of_C HR1.out)))
        have HC305 := am hC25
        clear hA25 hC25 hi025 hsz25
        go_wp2_with (first | ((with_reducible refine Ai2 (f := 57) rfl ?_); refine Aq2 (some 33) rfl rfl Tryz.func57 (by kernel_rfl) rfl #[.slice (some ad304) (l1.take (x24_1 : Int).toNat).length c1, .int .i64 (rd l1 x24_1)] rfl (by (try simp only [List.map_toArray, List.map_cons, List.map_nil]); first | done | (rw [show (l1.take (x24_1 : Int).toNat).length = x24_1.toNat from (by rw [List.length_take]; have h_ : (x24_1 : Int) ≤ (l1.length : Int) := od; omega)] <;> rfl) | rfl | (simp only [List.length_drop, List.length_take]; rfl)) ?_; refine (slices_Contains_int64_int64.calls k1 _ _ (l1.take (x24_1 : Int).toNat) (rd l1 x24_1) true _ (cq (Kd.C_below HR305.out HB.out)) HC305.out A23.out).mono ?_; rintro e w' ⟨rfl, ⟨nd, rfl⟩⟩; refine ⟨_, rfl, ?_⟩))
        go_ret
        exact ⟨er, hs HB.out⟩
       ·replace c24 := Bool.eq_false_iff.mpr c24
        subst c24
        rw [if_neg (show ¬ (false = true) by decide)] at H
        have H' := am H
        clear H
        have p304 : 0 ≤ (x24_1 : Int) := od
        have q304 : x24_1 < (l1.length : Int) := od
        obtain ⟨ad304, e304, hx304_0⟩ := Kd.at_int HR1.out x24_1 p304 q304
        cases e304
        replace hx304_0 := cz HB.out hx304_0
        replace p304 := eq_true p304
        replace q304 := eq_true q304
        obtain ⟨i026, hi026, _, hsz26, _⟩ := info_parts Ap0
        obtain ⟨hcut26, hA26, hC26⟩ := print_take_of (P := Tryz.prog) (Value.int .i64) 0 25 2 .i64 Tryz.underlying25 hi026 hsz26 (some ad304) c1 l1 x24_1 od od HC1.out
        have HR305 := am (Kd.C_of_reads (h1 := fun _ => rfl) (hA26 _ (Kd.reads_of_C HR1.out)))
        have HC305 := am hC26
        clear hA26 hC26 hi026 hsz26
        go_wp2_with (first | ((with_reducible refine Ai2 (f := 57) rfl ?_); refine Aq2 (some 33) rfl rfl Tryz.func57 (by kernel_rfl) rfl #[.slice (some ad304) (l1.take (x24_1 : Int).toNat).length c1, .int .i64 (rd l1 x24_1)] rfl (by (try simp only [List.map_toArray, List.map_cons, List.map_nil]); first | done | (rw [show (l1.take (x24_1 : Int).toNat).length = x24_1.toNat from (by rw [List.length_take]; have h_ : (x24_1 : Int) ≤ (l1.length : Int) := od; omega)] <;> rfl) | rfl | (simp only [List.length_drop, List.length_take]; rfl)) ?_; refine (slices_Contains_int64_int64.calls k1 _ _ (l1.take (x24_1 : Int).toNat) (rd l1 x24_1) false _ (cq (Kd.C_below HR305.out HB.out)) HC305.out A23.out).mono ?_; rintro e w' ⟨rfl, ⟨nd, rfl⟩⟩; refine ⟨_, rfl, ?_⟩))
        go_roundg k1
        case measure => have := HK1.out; omega
        case rel => exact ⟨(wrap64 (x24_1 + 1)), et, H', ⟨by have := HK1.out; omega⟩, ⟨by refine bq ?_; exact BK301.out⟩, ⟨hs HB.out⟩⟩
      ·rw [if_neg c18] at H
       have c18b0 : decide (x24_1 < (l1.length : Int)) = false := decide_eq_false c18
       clear c18
       obtain rfl := Option.some.inj H
       go_wp2
       go_ret
       exact ⟨er, hs HB.out⟩
  ·rw [if_neg c5] at H
   obtain ⟨c5b0, c5b1⟩ := bqf c5
   have c5b2 : (l1.length == l0_0.length) = false := by first | simpa using c5 | (simp at c5 ⊢; omega)
   obtain rfl := Option.some.inj H
   go_enter Tryz.func35, Tryz.ntmps35
   go_wp2_with (first | (refine bx 2 rfl #[.slice A0_0 l0_0.length c0_0] 36 ?_; intro gb301 hg w27 hbox hb; have BK301 := am (hbox); have GW301 := am (bz hg (hq HB.out)); replace HB := sb HB hb; have GE301 := GW301; clear hb hbox hg; have hcz28_0 : w27.cell? ⟨gb301, 0, none⟩ = some (.slice A0_0 l0_0.length c0_0) := (Aa0 BK301.out 0).trans rfl; have hfz28_0 := Aa1 BK301.out 0) | (refine gl (some 9) Tryz.func53 rfl #[.agg #[.slice A0_0 l0_0.length c0_0]] ?_; refine (impl_SignatureFault.calls k _ _ l0_0 t302 _ (cq (Kd.C_below HR0_0.out HB.out)) HC0_0.out A3.out).mono ?_; rintro e w29 ⟨rfl, hb⟩; refine ⟨_, rfl, ?_⟩; replace BK301 := bb BK301 hb; replace HB := sb HB hb; (try clear hb); have hcz30_0 : w29.cell? ⟨gb301, 0, none⟩ = some (.slice A0_0 l0_0.length c0_0) := (Aa0 BK301.out 0).trans rfl; have hfz30_0 := Aa1 BK301.out 0))
   go_ret
   exact ⟨er, hs HB.out⟩
 ·rw [if_neg c4] at H
  obtain ⟨c4b0, c4b1⟩ := bqf c4
  obtain rfl := Option.some.inj H
  go_enter Tryz.func35, Tryz.ntmps35
  go_wp2_with (first | (refine bx 2 rfl #[.slice A0_0 l0_0.length c0_0] 36 ?_; intro gb301 hg w31 hbox hb; have BK301 := am (hbox); have GW301 := am (bz hg (hq HB.out)); replace HB := sb HB hb; have GE301 := GW301; clear hb hbox hg; have hcz32_0 : w31.cell? ⟨gb301, 0, none⟩ = some (.slice A0_0 l0_0.length c0_0) := (Aa0 BK301.out 0).trans rfl; have hfz32_0 := Aa1 BK301.out 0) | (refine gl (some 9) Tryz.func53 rfl #[.agg #[.slice A0_0 l0_0.length c0_0]] ?_; refine (impl_SignatureFault.calls k _ _ l0_0 t302 _ (cq (Kd.C_below HR0_0.out HB.out)) HC0_0.out A3.out).mono ?_; rintro e w33 ⟨rfl, hb⟩; refine ⟨_, rfl, ?_⟩; replace BK301 := bb BK301 hb; replace HB := sb HB hb; (try clear hb)))
  go_ret
  exact ⟨er, hs HB.out⟩
def impl_arityOf.f (l0_0 : List (S79)) (a1 : Int) : Option (Int) := if a1 < 0 then (some 0) else (if 0 ≤ a1 then (if a1 < (l0_0.length : Int) then (some ((Aa7 l0_0 a1).f1)) else (none)) else (none))
set_option maxHeartbeats 8000000 in
set_option maxRecDepth 100000 in
theorem impl_arityOf.calls (A0_0 : Option Addr) (c0_0 : Nat) (l0_0 : List (S79)) (a1 : Int) (r : Int) (w : World) (hr0_0 : Kd.C k79 w A0_0 l0_0.length l0_0) (hc0_0 : l0_0.length ≤ c0_0) (h : impl_arityOf.f l0_0 a1 = some r) :
  Calls Tryz.prog 87 #[.agg #[.slice A0_0 l0_0.length c0_0], .int .i64 a1] w fun e w' => e = .returned (.int .i64 r) ∧ Below w.heap.size w w' := by
 have hu36 := Tryz.underlying36
 have HR0_0 := am hr0_0
 have HC0_0 := am hc0_0
 clear hr0_0 hc0_0
 have HB := am (Below.refl w.heap.size w)
 have H : (if a1 < 0 then (some 0) else (if 0 ≤ a1 then (if a1 < (l0_0.length : Int) then (some ((Aa7 l0_0 a1).f1)) else (none)) else (none))) = some r := h
 clear h
 by_cases c3 : a1 < 0
 ·rw [if_pos c3] at H
  have c3b0 : decide (a1 < 0) = true := decide_eq_true c3
  clear c3
  obtain rfl := Option.some.inj H
  go_enter Tryz.func87, Tryz.ntmps87
  go_wp2_with (first | (refine bx 2 rfl #[.slice A0_0 l0_0.length c0_0] 36 ?_; intro gb307 hg w4 hbox hb; have BK307 := am (hbox); have GW307 := am (bz hg (hq HB.out)); replace HB := sb HB hb; have GE307 := GW307; clear hb hbox hg))
  go_ret
  exact ⟨er, hs HB.out⟩
 ·rw [if_neg c3] at H
  have c3b0 : decide (a1 < 0) = false := decide_eq_false c3
  clear c3
  obtain ⟨c5b0, H⟩ := ife H
  obtain ⟨c6b0, H⟩ := ife H
  obtain rfl := Option.some.inj H
  go_enter Tryz.func87, Tryz.ntmps87
  go_wp2_with (first | (refine bx 2 rfl #[.slice A0_0 l0_0.length c0_0] 36 ?_; intro gb307 hg w7 hbox hb; have BK307 := am (hbox); have GW307 := am (bz hg (hq HB.out)); replace HB := sb HB hb; have GE307 := GW307; clear hb hbox hg; have hcz8_0 : w7.cell? ⟨gb307, 0, none⟩ = some (.slice A0_0 l0_0.length c0_0) := (Aa0 BK307.out 0).trans rfl; have hfz8_0 := Aa1 BK307.out 0; have p308 : 0 ≤ (a1 : Int) := od; have q308 : a1 < (l0_0.length : Int) := od; obtain ⟨ad308, e308, hx308_0, hx308_1⟩ := Ae1 HR0_0.out a1 p308 q308; cases e308; replace hx308_0 := cz HB.out hx308_0; replace hx308_1 := cz HB.out hx308_1; replace p308 := eq_true p308; replace q308 := eq_true q308))
  go_ret
  exact ⟨er, hs HB.out⟩
def impl_endOf.l0 : Nat → List Int → Int → Int → List (S79) → Option (Int)
 | 0, _, _, _, _ => none
 | k + 1, x1, x2, x7, x310000 => if x7 > 0 then (if x2 ≥ (x1.length : Int) then (some (wrap64 ((x1.length : Int) + 1))) else (if 0 ≤ x2 then (if x2 < (x1.length : Int) then ((impl_arityOf.f x310000 (rd x1 x2)).bind fun t311 => (impl_endOf.l0 k x1 (wrap64 (x2 + 1)) (wrap64 (x7 + (wrap64 (t311 - 1)))) x310000)) else (none)) else (none))) else (some x2)
def impl_endOf.f (k : Nat) (l0_0 : List (S79)) (l1 : List Int) (a2 : Int) : Option (Int) := impl_endOf.l0 k l1 a2 1 l0_0
theorem impl_endOf.mono_l : ∀ k, (∀ y0 y1 y2 y3, LeO (impl_endOf.l0 k y0 y1 y2 y3) (impl_endOf.l0 (k + 1) y0 y1 y2 y3))
 | 0 => fun _ _ _ _ r h => by simp [impl_endOf.l0] at h
 | k + 1 => by
  have ih0 := impl_endOf.mono_l k
  ·intro y0 y1 y2 y3
   unfold impl_endOf.l0
   repeat' first | (with_reducible first | apply ih0 | exact LeO.refl _ | exact LeO.none _ | refine LeO.ite ?_ ?_ | refine LeO.bind ?_ (fun _ => ?_)) | apply ih0 | exact LeO.none _ | refine LeO.ite ?_ ?_ | refine LeO.bind ?_ (fun _ => ?_)
theorem impl_endOf.mono : ∀ a0 a1 a2 k, LeO (impl_endOf.f k a0 a1 a2) (impl_endOf.f (k + 1) a0 a1 a2) := by
 intro a0 a1 a2 k
 have ih0 := impl_endOf.mono_l k
 unfold impl_endOf.f
 repeat' first | (with_reducible first | apply ih0 | exact LeO.refl _ | exact LeO.none _ | refine LeO.ite ?_ ?_ | refine LeO.bind ?_ (fun _ => ?_)) | apply ih0 | exact LeO.none _ | refine LeO.ite ?_ ?_ | refine LeO.bind ?_ (fun _ => ?_)
def impl_endOf.T6 : Bool × List (List Nat × List Nat) := (true, [([], []), ([], []), ([], []), ([], []), ([2, 3], [2, 3]), ([4], [4]), ([1, 5], [1, 5]), ([6], [6]), ([0, 7], [0, 7]), ([8, 6, 0, 1, 2, 3, 4, 5, 6, 7, 8], [0, 8])])
def impl_endOf.B6 : List Nat := [0, 0, 0, 0, 12, 28, 62, 126, 255, 511]
theorem impl_endOf.tab6 : Aj9 .any (Ak7 Tryz.f60 6) = impl_endOf.T6 := by kernel_rfl
theorem impl_endOf.bits6 : Ae6 impl_endOf.T6.2 impl_endOf.B6 = true := by kernel_rfl
set_option maxHeartbeats 8000000 in
set_option maxRecDepth 100000 in
theorem impl_endOf.calls (k : Nat) (A0_0 : Option Addr) (c0_0 : Nat) (l0_0 : List (S79)) (A1 : Option Addr) (c1 : Nat) (l1 : List Int) (a2 : Int) (r : Int) (w : World) (hr0_0 : Kd.C k79 w A0_0 l0_0.length l0_0) (hc0_0 : l0_0.length ≤ c0_0) (hr1 : Kd.C (Kd.int .i64) w A1 l1.length l1) (hc1 : l1.length ≤ c1) (h : impl_endOf.f k l0_0 l1 a2 = some r) :
  Calls Tryz.prog 60 #[.agg #[.slice A0_0 l0_0.length c0_0], .slice A1 l1.length c1, .int .i64 a2] w fun e w' => e = .returned (.int .i64 r) ∧ Below w.heap.size w w' := by
 have hu36 := Tryz.underlying36
 have HR0_0 := am hr0_0
 have HC0_0 := am hc0_0
 clear hr0_0 hc0_0
 have HR1 := am hr1
 have HC1 := am hc1
 clear hr1 hc1
 have HB := am (Below.refl w.heap.size w)
 have H : (impl_endOf.l0 k l1 a2 1 l0_0) = some r := h
 clear h
 have H' := am H
 clear H
 go_enter Tryz.func60, Tryz.ntmps60
 go_wp2_with (first | (refine bx 3 rfl #[.slice A0_0 l0_0.length c0_0] 36 ?_; intro gb309 hg w4 hbox hb; have BK309 := am (hbox); have GW309 := am (bz hg (hq HB.out)); replace HB := sb HB hb; have GE309 := GW309; clear hb hbox hg))
 go_loopg [2, 7] k (fun kq v2 v7 w' => ∃ (x2_1 : Int) (x7_1 : Int), v2 = .int .i64 x2_1 ∧ v7 = .int .i64 x7_1 ∧ Aside0 (impl_endOf.l0 kq l1 x2_1 x7_1 l0_0 = some r) ∧ Aside0 (kq ≤ k) ∧ Aside0 (w'.heap[gb309]? = some (.cells #[(.slice A0_0 l0_0.length c0_0)] 36 (0, 0))) ∧ Aside0 (Below w.heap.size w w'))
 case atStart => exact ⟨(a2), (1), et, et, H', ⟨Nat.le_refl _⟩, ⟨by refine bq ?_; exact BK309.out⟩, ⟨hs HB.out⟩⟩
 case round =>
  clear H'
  try clear c1
  obtain ⟨x2_1, x7_1, rfl, rfl, HA, HK1, BK309, HB⟩ := hrel
  cases gk with
  | zero => exact absurd HA.out (by simp [impl_endOf.l0])
  | succ k1 =>
   have H := HA.out
   clear HA
   simp only [impl_endOf.l0] at H
   by_cases c5 : x7_1 > 0
   ·rw [if_pos c5] at H
    have c5b0 : decide (0 < x7_1) = true := decide_eq_true c5
    clear c5
    by_cases c6 : x2_1 ≥ (l1.length : Int)
    ·rw [if_pos c6] at H
     have c6b0 : decide ((l1.length : Int) ≤ x2_1) = true := decide_eq_true c6
     clear c6
     obtain rfl := Option.some.inj H
     go_wp2
     go_ret
     exact ⟨er, hs HB.out⟩
    ·rw [if_neg c6] at H
     have c6b0 : decide ((l1.length : Int) ≤ x2_1) = false := decide_eq_false c6
     clear c6
     obtain ⟨c7b0, H⟩ := ife H
     obtain ⟨c8b0, H⟩ := ife H
     obtain ⟨t311, A9, H⟩ := ob H
     try dsimp only at H
     have H' := am H
     clear H
     try go_wp2
     replace BK309 := am (Ab7 BK309.out)
     replace HB := am (Ab0 HB.out)
     have p310 : 0 ≤ (x2_1 : Int) := od
     have q310 : x2_1 < (l1.length : Int) := od
     obtain ⟨ad310, e310, hx310_0⟩ := Kd.at_int HR1.out x2_1 p310 q310
     have hw310_0 := hx310_0
     cases e310
     replace hx310_0 := cz HB.out hx310_0
     replace p310 := eq_true p310
     replace q310 := eq_true q310
     refine Ad5 (n := 10) (S := fun w' => w'.cell? ⟨gb309, 0, none⟩ = some (.slice A0_0 l0_0.length c0_0) ∧ w'.cell? (ad310.add (x2_1).toNat) = some (.int .i64 (rd l1 x2_1))) (ds := []) #[false, false, false, false, false, false, false, false, false, false] (by kernel_rfl) rfl rfl ⟨(Aa0 BK309.out 0).trans rfl, (cz HB.out hw310_0)⟩ (fun hHeld => ?_); refine Ac1 impl_endOf.tab6 impl_endOf.bits6 (fun HT_ HW_ => ?_)
     generalize wr.drew = w10 at BK309 HB hx310_0 hHeld ⊢
     refine pu 0 19 rfl rfl HT_ ?_
     refine pu 2 21 rfl rfl HT_ ?_
     refine pu 3 22 rfl rfl HT_ ?_
     refine pu 4 23 rfl rfl HT_ ?_
     refine tk 1 20 rfl rfl HT_ HW_ hHeld ?_
     refine tk 5 24 rfl rfl HT_ HW_ hHeld ?_
     refine on_ 6 (some 25) rfl rfl HT_ (fun K hK => ?_)
     refine gs Tryz.func87 #[.agg #[.slice A0_0 l0_0.length c0_0], .int .i64 (rd l1 x2_1)] ?_
     refine (impl_arityOf.calls _ _ l0_0 (rd l1 x2_1) t311 _ (cq (Kd.C_below HR0_0.out HB.out)) HC0_0.out A9.out).mono ?_
     rintro e w11 ⟨rfl, hb⟩
     refine ⟨_, rfl, ?_⟩
     replace BK309 := bb BK309 hb
     replace HB := sb HB hb
     (try clear hb)
     refine hK.out _ _ ⟨(Aa0 BK309.out 0).trans rfl, (cz HB.out hw310_0)⟩ (fun hHeld => ?_)
     clear hK K
     refine nr (some 25) ?_
     refine pu 7 26 rfl rfl HT_ ?_
     refine pu 8 27 rfl rfl HT_ ?_
     refine pu 9 7 rfl rfl HT_ ?_
     refine Ag1 (Ac8 HT_.out (by kernel_rfl)) ?_
     try go_wp2
     go_roundg k1
     case measure => have := HK1.out; omega
     case rel => exact ⟨(wrap64 (x2_1 + 1)), (wrap64 (x7_1 + (wrap64 (t311 - 1)))), et, et, H', ⟨by have := HK1.out; omega⟩, ⟨by refine bq ?_; exact BK309.out⟩, ⟨hs HB.out⟩⟩
   ·rw [if_neg c5] at H
    have c5b0 : decide (0 < x7_1) = false := decide_eq_false c5
    clear c5
    obtain rfl := Option.some.inj H
    go_wp2
    go_ret
    exact ⟨er, hs HB.out⟩
end Go.Proofs.YtgichahebemmiaaGreatDoor.P
