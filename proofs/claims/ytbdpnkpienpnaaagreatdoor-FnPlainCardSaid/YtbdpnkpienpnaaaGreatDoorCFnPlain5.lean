/- A part of the proof of the law FnPlain. -/
import Derived.Laws.StructEq
import Derived.Test.YtbdpnkpienpnaaaGreatDoorCFnPlain0
import Derived.Test.YtbdpnkpienpnaaaGreatDoorCFnPlain1
import Derived.Test.YtbdpnkpienpnaaaGreatDoorCFnPlain2
import Derived.Test.YtbdpnkpienpnaaaGreatDoorCFnPlain3
import Derived.Test.YtbdpnkpienpnaaaGreatDoorCFnPlain20
namespace Go.Proofs.YtbdpnkpienpnaaaGreatDoor.P
open Go.RowKit Go.Proofs.YtbdpnkpienpnaaaGreatDoorW.PrintWords Go.Proofs.YtbdpnkpienpnaaaGreatDoorW.PrintLast Go.Proofs.YtbdpnkpienpnaaaGreatDoorW.PrintMore
attribute [local go_sem] Ae7 Ae6 Af7 Af8 Ad8 Ad9 Ae2 Ae4   -- for this text's walks alone
set_option linter.unusedVariables false
set_option linter.unusedSimpArgs false
mutual
def spec_SignatureFault.j0 : Nat → Int → Bool → List (S90) → Option (Int)
 | 0, _, _, _ => none
 | k + 1, x3, x16, x164000 => if x16 = true then (some 2) else (spec_SignatureFault.l0 k x3 0 x164000)
def spec_SignatureFault.l0 : Nat → Int → Int → List (S90) → Option (Int)
 | 0, _, _, _ => none
 | k + 1, x3, x4, x164000 => if x4 < x3 then (if 0 ≤ x4 then (if x4 < (x164000.length : Int) then ((spec_l2Name.f k ((Aa7 x164000 x4).f0)).bind fun t165 => (if t165 = true then ((spec_l1In.f ((Aa7 x164000 x4).f1) 0 2).bind fun t167 => (if t167 = true then (spec_SignatureFault.l0 k x3 (wrap64 (x4 + 1)) x164000) else (some 3))) else (some 5))) else (none)) else (none)) else (spec_SignatureFault.l1 k x3 0 x164000)
def spec_SignatureFault.l1 : Nat → Int → Int → List (S90) → Option (Int)
 | 0, _, _, _ => none
 | k + 1, x3, x5, x164000 => if x5 < x3 then (spec_SignatureFault.l2 k x3 x5 0 x164000) else (spec_SignatureFault.l3 k x3 0 x164000)
def spec_SignatureFault.l2 : Nat → Int → Int → Int → List (S90) → Option (Int)
 | 0, _, _, _, _ => none
 | k + 1, x3, x5, x6, x164000 => if x6 < x5 then (if 0 ≤ x5 then (if x5 < (x164000.length : Int) then (if 0 ≤ x6 then (if x6 < (x164000.length : Int) then (if ((Aa7 x164000 x5).f0).toList = ((Aa7 x164000 x6).f0).toList then (some 6) else (spec_SignatureFault.l2 k x3 x5 (wrap64 (x6 + 1)) x164000)) else (none)) else (none)) else (none)) else (none)) else (spec_SignatureFault.l1 k x3 (wrap64 (x5 + 1)) x164000)
def spec_SignatureFault.l3 : Nat → Int → Int → List (S90) → Option (Int)
 | 0, _, _, _ => none
 | k + 1, x3, x7, x164000 => if x7 < x3 then (if 0 ≤ x7 then (if x7 < (x164000.length : Int) then (if ((Aa7 x164000 x7).f1) = 0 then (some 0) else (spec_SignatureFault.l3 k x3 (wrap64 (x7 + 1)) x164000)) else (none)) else (none)) else (some 4)
end
def spec_SignatureFault.f (k : Nat) (l0_0 : List (S90)) : Option (Int) := if (l0_0.length : Int) < 1 then (spec_SignatureFault.j0 k (l0_0.length : Int) true l0_0) else (spec_SignatureFault.j0 k (l0_0.length : Int) (decide ((l0_0.length : Int) > 6)) l0_0)
set_option maxHeartbeats 8000000 in
set_option maxRecDepth 100000 in
theorem spec_SignatureFault.calls (k : Nat) (A0_0 : Option Addr) (c0_0 : Nat) (l0_0 : List (S90)) (r : Int) (w : World) (hr0_0 : Kd.C k90 w A0_0 l0_0.length l0_0) (hc0_0 : l0_0.length ≤ c0_0) (h : spec_SignatureFault.f k l0_0 = some r) :
  Calls Tryz.prog 49 #[.agg #[.slice A0_0 l0_0.length c0_0]] w fun e w' => e = .returned (.int .i64 r) ∧ Below w.heap.size w w' := by
 have hu26 := Tryz.underlying26
 have HR0_0 := am hr0_0
 have HC0_0 := am hc0_0
 clear hr0_0 hc0_0
 have HB := am (Below.refl w.heap.size w)
 have H : (if (l0_0.length : Int) < 1 then (spec_SignatureFault.j0 k (l0_0.length : Int) true l0_0) else (spec_SignatureFault.j0 k (l0_0.length : Int) (decide ((l0_0.length : Int) > 6)) l0_0)) = some r := h
 clear h
 have HC2 := am H
 clear H
 go_enter Tryz.func49, Tryz.ntmps49
 go_upto_region 2 with (first | (refine bx 1 rfl #[.slice A0_0 l0_0.length c0_0] 26 ?_; intro gb163 hg w3 hbox hb; have BK163 := am (hbox); have GW163 := am (bz hg (hq HB.out)); replace HB := sb HB hb; have GE163 := GW163; clear hb hbox hg; have hcz4_0 : w3.cell? ⟨gb163, 0, none⟩ = some (.slice A0_0 l0_0.length c0_0) := (Aa0 BK163.out 0).trans rfl; have hfz4_0 := Aa1 BK163.out 0))
 repeat (go_quiet (first | (refine bx 1 rfl #[.slice A0_0 l0_0.length c0_0] 26 ?_; intro gb163 hg w3 hbox hb; have BK163 := am (hbox); have GW163 := am (bz hg (hq HB.out)); replace HB := sb HB hb; have GE163 := GW163; clear hb hbox hg; have hcz4_0 : w3.cell? ⟨gb163, 0, none⟩ = some (.slice A0_0 l0_0.length c0_0) := (Aa0 BK163.out 0).trans rfl; have hfz4_0 := Aa1 BK163.out 0)); go_upto_region 2 with (first | (refine bx 1 rfl #[.slice A0_0 l0_0.length c0_0] 26 ?_; intro gb163 hg w3 hbox hb; have BK163 := am (hbox); have GW163 := am (bz hg (hq HB.out)); replace HB := sb HB hb; have GE163 := GW163; clear hb hbox hg; have hcz4_0 : w3.cell? ⟨gb163, 0, none⟩ = some (.slice A0_0 l0_0.length c0_0) := (Aa0 BK163.out 0).trans rfl; have hfz4_0 := Aa1 BK163.out 0)))
 (try simp only [Act.put, lsp])
 go_cut [16] (fun v16 wc => ∃ (kq : Nat) (x16_1 : Bool), v16 = .bool x16_1 ∧ Aside0 (spec_SignatureFault.j0 kq (l0_0.length : Int) x16_1 l0_0 = some r) ∧ Aside0 (kq ≤ k) ∧ Aside0 (wc.heap[gb163]? = some (.cells #[(.slice A0_0 l0_0.length c0_0)] 26 (0, 0))) ∧ Aside0 (Below w.heap.size w wc))
 case first =>
  have H := HC2.out
  clear HC2
  by_cases c5 : (l0_0.length : Int) < 1
  ·rw [if_pos c5] at H
   have c5b0 : decide ((l0_0.length : Int) < 1) = true := decide_eq_true c5
   have c5b1 : decide (l0_0.length < 1) = true := decide_eq_true (by omega)
   clear c5
   (first | rw [c5b0] | (simp only [Ag7, Ah2]; rw [c5b0]) | skip)
   have H' := am H
   clear H
   go_wp2
   repeat (go_quiet (fail); try go_wp2)
   go_meet
   case rel => exact ⟨_, (true), et, H', ⟨by first | omega | exact Nat.le_refl _⟩, ⟨by refine bq ?_; exact BK163.out⟩, ⟨hs HB.out⟩⟩
  ·rw [if_neg c5] at H
   have c5b0 : decide ((l0_0.length : Int) < 1) = false := decide_eq_false c5
   have c5b1 : decide (l0_0.length < 1) = false := decide_eq_false (by omega)
   clear c5
   (first | rw [c5b0] | (simp only [Ag7, Ah2]; rw [c5b0]) | skip)
   have H' := am H
   clear H
   go_wp2
   repeat (go_quiet (fail); try go_wp2)
   go_meet
   case rel => exact ⟨_, (decide ((l0_0.length : Int) > 6)), et, H', ⟨by first | omega | exact Nat.le_refl _⟩, ⟨by refine bq ?_; exact BK163.out⟩, ⟨hs HB.out⟩⟩
 case rest =>
  clear HC2
  try clear c5; try clear c5b0; try clear c5b1; try clear hcz4_0; try clear hfz4_0
  obtain ⟨kq, x16_1, rfl, HA, HJ1, BK163, HB⟩ := hcut
  cases kq with
  | zero => exact absurd HA.out (by simp [spec_SignatureFault.j0])
  | succ kj1 =>
   have H := HA.out
   clear HA
   simp only [spec_SignatureFault.j0] at H
   by_cases c6 : x16_1 = true
   ·subst c6
    rw [if_pos rfl] at H
    obtain rfl := Option.some.inj H
    go_wp2
    repeat (go_quiet (fail); try go_wp2)
    go_ret
    exact ⟨er, hs HB.out⟩
   ·replace c6 := Bool.eq_false_iff.mpr c6
    subst c6
    rw [if_neg (show ¬ (false = true) by decide)] at H
    have H' := am H
    clear H
    go_wp2
    repeat (go_quiet (fail); try go_wp2)
    go_loopg [4] kj1 (fun kq v4 w' => ∃ (x4_2 : Int), v4 = .int .i64 x4_2 ∧ Aside0 (spec_SignatureFault.l0 kq (l0_0.length : Int) x4_2 l0_0 = some r) ∧ Aside0 (kq ≤ kj1) ∧ Aside0 (w'.heap[gb163]? = some (.cells #[(.slice A0_0 l0_0.length c0_0)] 26 (0, 0))) ∧ Aside0 (Below w.heap.size w w'))
    case atStart => exact ⟨(0), et, H', ⟨Nat.le_refl _⟩, ⟨by refine bq ?_; exact BK163.out⟩, ⟨hs HB.out⟩⟩
    case round =>
     clear H'
     try clear c5; try clear c5b0; try clear c5b1; try clear c6; try clear hcz4_0; try clear hfz4_0
     obtain ⟨x4_2, rfl, HA, HK2, BK163, HB⟩ := hrel
     cases gk with
     | zero => exact absurd HA.out (by simp [spec_SignatureFault.l0])
     | succ k2 =>
      have H := HA.out
      clear HA
      simp only [spec_SignatureFault.l0] at H
      by_cases c7 : x4_2 < (l0_0.length : Int)
      ·rw [if_pos c7] at H
       have c7b0 : decide (x4_2 < (l0_0.length : Int)) = true := decide_eq_true c7
       clear c7
       obtain ⟨c8b0, H⟩ := ife H
       obtain ⟨c9b0, H⟩ := ife H
       obtain ⟨t165, A10, H⟩ := ob H
       try dsimp only at H
       by_cases c11 : t165 = true
       ·subst c11
        rw [if_pos rfl] at H
        obtain ⟨t167, A12, H⟩ := ob H
        try dsimp only at H
        by_cases c13 : t167 = true
        ·subst c13
         rw [if_pos rfl] at H
         have H' := am H
         clear H
         have hcz14_0 : wr.cell? ⟨gb163, 0, none⟩ = some (.slice A0_0 l0_0.length c0_0) := (Aa0 BK163.out 0).trans rfl
         have hfz14_0 := Aa1 BK163.out 0
         have p164 : 0 ≤ (x4_2 : Int) := od
         have q164 : x4_2 < (l0_0.length : Int) := od
         obtain ⟨ad164, e164, hx164_0, hx164_1⟩ := Ae9 HR0_0.out x4_2 p164 q164
         cases e164
         replace hx164_0 := cz HB.out hx164_0
         replace hx164_1 := cz HB.out hx164_1
         replace p164 := eq_true p164
         replace q164 := eq_true q164
         go_wp2_with (first | (go_at_call 83; (with_reducible refine (spec_l2Name.calls k2 ((Aa7 l0_0 x4_2).f0) true _ A10.out).mono ?_); rintro e w' ⟨rfl, ⟨nd, rfl⟩⟩; (try first | exact ⟨rfl, _, World.drewN_drewN _ _ _⟩ | exact ⟨rfl, _, Eq.trans (World.drewN_drewN _ _ _) (congrArg (World.drewN _) (Nat.add_assoc _ _ _))⟩); have p166 : 0 ≤ (x4_2 : Int) := od; have q166 : x4_2 < (l0_0.length : Int) := od; obtain ⟨ad166, e166, hx166_0, hx166_1⟩ := Ae9 HR0_0.out x4_2 p166 q166; obtain rfl : ad164 = ad166 := (by injection e166); replace hx166_0 := cz HB.out hx166_0; replace hx166_1 := cz HB.out hx166_1; replace p166 := eq_true p166; replace q166 := eq_true q166) | (go_at_call 84; (with_reducible refine (spec_l1In.calls ((Aa7 l0_0 x4_2).f1) 0 2 true _ A12.out).mono ?_); rintro e w' ⟨rfl, ⟨nd, rfl⟩⟩; (try first | exact ⟨rfl, _, World.drewN_drewN _ _ _⟩ | exact ⟨rfl, _, Eq.trans (World.drewN_drewN _ _ _) (congrArg (World.drewN _) (Nat.add_assoc _ _ _))⟩)))
         repeat (go_quiet (first | (go_at_call 83; (with_reducible refine (spec_l2Name.calls k2 ((Aa7 l0_0 x4_2).f0) true _ A10.out).mono ?_); rintro e w' ⟨rfl, ⟨nd, rfl⟩⟩; (try first | exact ⟨rfl, _, World.drewN_drewN _ _ _⟩ | exact ⟨rfl, _, Eq.trans (World.drewN_drewN _ _ _) (congrArg (World.drewN _) (Nat.add_assoc _ _ _))⟩); have p166 : 0 ≤ (x4_2 : Int) := od; have q166 : x4_2 < (l0_0.length : Int) := od; obtain ⟨ad166, e166, hx166_0, hx166_1⟩ := Ae9 HR0_0.out x4_2 p166 q166; obtain rfl : ad164 = ad166 := (by injection e166); replace hx166_0 := cz HB.out hx166_0; replace hx166_1 := cz HB.out hx166_1; replace p166 := eq_true p166; replace q166 := eq_true q166) | (go_at_call 84; (with_reducible refine (spec_l1In.calls ((Aa7 l0_0 x4_2).f1) 0 2 true _ A12.out).mono ?_); rintro e w' ⟨rfl, ⟨nd, rfl⟩⟩; (try first | exact ⟨rfl, _, World.drewN_drewN _ _ _⟩ | exact ⟨rfl, _, Eq.trans (World.drewN_drewN _ _ _) (congrArg (World.drewN _) (Nat.add_assoc _ _ _))⟩))); try go_wp2_with (first | (go_at_call 83; (with_reducible refine (spec_l2Name.calls k2 ((Aa7 l0_0 x4_2).f0) true _ A10.out).mono ?_); rintro e w' ⟨rfl, ⟨nd, rfl⟩⟩; (try first | exact ⟨rfl, _, World.drewN_drewN _ _ _⟩ | exact ⟨rfl, _, Eq.trans (World.drewN_drewN _ _ _) (congrArg (World.drewN _) (Nat.add_assoc _ _ _))⟩); have p166 : 0 ≤ (x4_2 : Int) := od; have q166 : x4_2 < (l0_0.length : Int) := od; obtain ⟨ad166, e166, hx166_0, hx166_1⟩ := Ae9 HR0_0.out x4_2 p166 q166; obtain rfl : ad164 = ad166 := (by injection e166); replace hx166_0 := cz HB.out hx166_0; replace hx166_1 := cz HB.out hx166_1; replace p166 := eq_true p166; replace q166 := eq_true q166) | (go_at_call 84; (with_reducible refine (spec_l1In.calls ((Aa7 l0_0 x4_2).f1) 0 2 true _ A12.out).mono ?_); rintro e w' ⟨rfl, ⟨nd, rfl⟩⟩; (try first | exact ⟨rfl, _, World.drewN_drewN _ _ _⟩ | exact ⟨rfl, _, Eq.trans (World.drewN_drewN _ _ _) (congrArg (World.drewN _) (Nat.add_assoc _ _ _))⟩))))
         go_roundg k2
         case measure => have := HJ1.out; have := HK2.out; omega
         case rel => exact ⟨(wrap64 (x4_2 + 1)), et, H', ⟨by have := HJ1.out; have := HK2.out; omega⟩, ⟨by refine bq ?_; exact BK163.out⟩, ⟨hs HB.out⟩⟩
        ·replace c13 := Bool.eq_false_iff.mpr c13
         subst c13
         rw [if_neg (show ¬ (false = true) by decide)] at H
         obtain rfl := Option.some.inj H
         have hcz15_0 : wr.cell? ⟨gb163, 0, none⟩ = some (.slice A0_0 l0_0.length c0_0) := (Aa0 BK163.out 0).trans rfl
         have hfz15_0 := Aa1 BK163.out 0
         have p164 : 0 ≤ (x4_2 : Int) := od
         have q164 : x4_2 < (l0_0.length : Int) := od
         obtain ⟨ad164, e164, hx164_0, hx164_1⟩ := Ae9 HR0_0.out x4_2 p164 q164
         cases e164
         replace hx164_0 := cz HB.out hx164_0
         replace hx164_1 := cz HB.out hx164_1
         replace p164 := eq_true p164
         replace q164 := eq_true q164
         go_wp2_with (first | (go_at_call 83; (with_reducible refine (spec_l2Name.calls k2 ((Aa7 l0_0 x4_2).f0) true _ A10.out).mono ?_); rintro e w' ⟨rfl, ⟨nd, rfl⟩⟩; (try first | exact ⟨rfl, _, World.drewN_drewN _ _ _⟩ | exact ⟨rfl, _, Eq.trans (World.drewN_drewN _ _ _) (congrArg (World.drewN _) (Nat.add_assoc _ _ _))⟩); have p166 : 0 ≤ (x4_2 : Int) := od; have q166 : x4_2 < (l0_0.length : Int) := od; obtain ⟨ad166, e166, hx166_0, hx166_1⟩ := Ae9 HR0_0.out x4_2 p166 q166; obtain rfl : ad164 = ad166 := (by injection e166); replace hx166_0 := cz HB.out hx166_0; replace hx166_1 := cz HB.out hx166_1; replace p166 := eq_true p166; replace q166 := eq_true q166) | (go_at_call 84; (with_reducible refine (spec_l1In.calls ((Aa7 l0_0 x4_2).f1) 0 2 false _ A12.out).mono ?_); rintro e w' ⟨rfl, ⟨nd, rfl⟩⟩; (try first | exact ⟨rfl, _, World.drewN_drewN _ _ _⟩ | exact ⟨rfl, _, Eq.trans (World.drewN_drewN _ _ _) (congrArg (World.drewN _) (Nat.add_assoc _ _ _))⟩)))
         repeat (go_quiet (first | (go_at_call 83; (with_reducible refine (spec_l2Name.calls k2 ((Aa7 l0_0 x4_2).f0) true _ A10.out).mono ?_); rintro e w' ⟨rfl, ⟨nd, rfl⟩⟩; (try first | exact ⟨rfl, _, World.drewN_drewN _ _ _⟩ | exact ⟨rfl, _, Eq.trans (World.drewN_drewN _ _ _) (congrArg (World.drewN _) (Nat.add_assoc _ _ _))⟩); have p166 : 0 ≤ (x4_2 : Int) := od; have q166 : x4_2 < (l0_0.length : Int) := od; obtain ⟨ad166, e166, hx166_0, hx166_1⟩ := Ae9 HR0_0.out x4_2 p166 q166; obtain rfl : ad164 = ad166 := (by injection e166); replace hx166_0 := cz HB.out hx166_0; replace hx166_1 := cz HB.out hx166_1; replace p166 := eq_true p166; replace q166 := eq_true q166) | (go_at_call 84; (with_reducible refine (spec_l1In.calls ((Aa7 l0_0 x4_2).f1) 0 2 false _ A12.out).mono ?_); rintro e w' ⟨rfl, ⟨nd, rfl⟩⟩; (try first | exact ⟨rfl, _, World.drewN_drewN _ _ _⟩ | exact ⟨rfl, _, Eq.trans (World.drewN_drewN _ _ _) (congrArg (World.drewN _) (Nat.add_assoc _ _ _))⟩))); try go_wp2_with (first | (go_at_call 83; (with_reducible refine (spec_l2Name.calls k2 ((Aa7 l0_0 x4_2).f0) true _ A10.out).mono ?_); rintro e w' ⟨rfl, ⟨nd, rfl⟩⟩; (try first | exact ⟨rfl, _, World.drewN_drewN _ _ _⟩ | exact ⟨rfl, _, Eq.trans (World.drewN_drewN _ _ _) (congrArg (World.drewN _) (Nat.add_assoc _ _ _))⟩); have p166 : 0 ≤ (x4_2 : Int) := od; have q166 : x4_2 < (l0_0.length : Int) := od; obtain ⟨ad166, e166, hx166_0, hx166_1⟩ := Ae9 HR0_0.out x4_2 p166 q166; obtain rfl : ad164 = ad166 := (by injection e166); replace hx166_0 := cz HB.out hx166_0; replace hx166_1 := cz HB.out hx166_1; replace p166 := eq_true p166; replace q166 := eq_true q166) | (go_at_call 84; (with_reducible refine (spec_l1In.calls ((Aa7 l0_0 x4_2).f1) 0 2 false _ A12.out).mono ?_); rintro e w' ⟨rfl, ⟨nd, rfl⟩⟩; (try first | exact ⟨rfl, _, World.drewN_drewN _ _ _⟩ | exact ⟨rfl, _, Eq.trans (World.drewN_drewN _ _ _) (congrArg (World.drewN _) (Nat.add_assoc _ _ _))⟩))))
         go_ret
         exact ⟨er, hs HB.out⟩
       ·replace c11 := Bool.eq_false_iff.mpr c11
        subst c11
        rw [if_neg (show ¬ (false = true) by decide)] at H
        obtain rfl := Option.some.inj H
        have hcz16_0 : wr.cell? ⟨gb163, 0, none⟩ = some (.slice A0_0 l0_0.length c0_0) := (Aa0 BK163.out 0).trans rfl
        have hfz16_0 := Aa1 BK163.out 0
        have p164 : 0 ≤ (x4_2 : Int) := od
        have q164 : x4_2 < (l0_0.length : Int) := od
        obtain ⟨ad164, e164, hx164_0, hx164_1⟩ := Ae9 HR0_0.out x4_2 p164 q164
        cases e164
        replace hx164_0 := cz HB.out hx164_0
        replace hx164_1 := cz HB.out hx164_1
        replace p164 := eq_true p164
        replace q164 := eq_true q164
        go_wp2_with (first | (go_at_call 83; (with_reducible refine (spec_l2Name.calls k2 ((Aa7 l0_0 x4_2).f0) false _ A10.out).mono ?_); rintro e w' ⟨rfl, ⟨nd, rfl⟩⟩; (try first | exact ⟨rfl, _, World.drewN_drewN _ _ _⟩ | exact ⟨rfl, _, Eq.trans (World.drewN_drewN _ _ _) (congrArg (World.drewN _) (Nat.add_assoc _ _ _))⟩)))
        repeat (go_quiet (first | (go_at_call 83; (with_reducible refine (spec_l2Name.calls k2 ((Aa7 l0_0 x4_2).f0) false _ A10.out).mono ?_); rintro e w' ⟨rfl, ⟨nd, rfl⟩⟩; (try first | exact ⟨rfl, _, World.drewN_drewN _ _ _⟩ | exact ⟨rfl, _, Eq.trans (World.drewN_drewN _ _ _) (congrArg (World.drewN _) (Nat.add_assoc _ _ _))⟩))); try go_wp2_with (first | (go_at_call 83; (with_reducible refine (spec_l2Name.calls k2 ((Aa7 l0_0 x4_2).f0) false _ A10.out).mono ?_); rintro e w' ⟨rfl, ⟨nd, rfl⟩⟩; (try first | exact ⟨rfl, _, World.drewN_drewN _ _ _⟩ | exact ⟨rfl, _, Eq.trans (World.drewN_drewN _ _ _) (congrArg (World.drewN _) (Nat.add_assoc _ _ _))⟩))))
        go_ret
        exact ⟨er, hs HB.out⟩
      ·rw [if_neg c7] at H
       have c7b0 : decide (x4_2 < (l0_0.length : Int)) = false := decide_eq_false c7
       clear c7
       have H' := am H
       clear H
       go_wp2
       repeat (go_quiet (fail); try go_wp2)
       go_loopg [5] k2 (fun kq v5 w' => ∃ (x5_3 : Int), v5 = .int .i64 x5_3 ∧ Aside0 (spec_SignatureFault.l1 kq (l0_0.length : Int) x5_3 l0_0 = some r) ∧ Aside0 (kq ≤ k2) ∧ Aside0 (w'.heap[gb163]? = some (.cells #[(.slice A0_0 l0_0.length c0_0)] 26 (0, 0))) ∧ Aside0 (Below w.heap.size w w'))
       case atStart => exact ⟨(0), et, H', ⟨Nat.le_refl _⟩, ⟨by refine bq ?_; exact BK163.out⟩, ⟨hs HB.out⟩⟩
       case round =>
        clear H'
        try clear c5; try clear c5b0; try clear c5b1; try clear c6; try clear c7; try clear c7b0; try clear c8b0; try clear c9b0; try clear c11; try clear c13; try clear hcz14_0; try clear hcz15_0; try clear hcz16_0; try clear hcz4_0; try clear hfz14_0; try clear hfz15_0; try clear hfz16_0; try clear hfz4_0; try clear hx164_0; try clear hx164_1; try clear hx166_0; try clear hx166_1; try clear p164; try clear p166; try clear q164; try clear q166
        obtain ⟨x5_3, rfl, HA, HK3, BK163, HB⟩ := hrel
        cases gk with
        | zero => exact absurd HA.out (by simp [spec_SignatureFault.l1])
        | succ k3 =>
         have H := HA.out
         clear HA
         simp only [spec_SignatureFault.l1] at H
         by_cases c17 : x5_3 < (l0_0.length : Int)
         ·rw [if_pos c17] at H
          have c17b0 : decide (x5_3 < (l0_0.length : Int)) = true := decide_eq_true c17
          clear c17
          have H' := am H
          clear H
          go_wp2
          repeat (go_quiet (fail); try go_wp2)
          go_loopg [6] k3 (fun kq v6 w' => ∃ (x6_4 : Int), v6 = .int .i64 x6_4 ∧ Aside0 (spec_SignatureFault.l2 kq (l0_0.length : Int) x5_3 x6_4 l0_0 = some r) ∧ Aside0 (kq ≤ k3) ∧ Aside0 (w'.heap[gb163]? = some (.cells #[(.slice A0_0 l0_0.length c0_0)] 26 (0, 0))) ∧ Aside0 (Below w.heap.size w w'))
          case atStart => exact ⟨(0), et, H', ⟨Nat.le_refl _⟩, ⟨by refine bq ?_; exact BK163.out⟩, ⟨hs HB.out⟩⟩
          case round =>
           clear H'
           try clear c5; try clear c5b0; try clear c5b1; try clear c6; try clear c7; try clear c7b0; try clear c8b0; try clear c9b0; try clear c11; try clear c13; try clear c17; try clear c17b0; try clear hcz14_0; try clear hcz15_0; try clear hcz16_0; try clear hcz4_0; try clear hfz14_0; try clear hfz15_0; try clear hfz16_0; try clear hfz4_0; try clear hx164_0; try clear hx164_1; try clear hx166_0; try clear hx166_1; try clear p164; try clear p166; try clear q164; try clear q166
           obtain ⟨x6_4, rfl, HA, HK4, BK163, HB⟩ := hrel
           cases gk with
           | zero => exact absurd HA.out (by simp [spec_SignatureFault.l2])
           | succ k4 =>
            have H := HA.out
            clear HA
            simp only [spec_SignatureFault.l2] at H
            by_cases c18 : x6_4 < x5_3
            ·rw [if_pos c18] at H
             have c18b0 : decide (x6_4 < x5_3) = true := decide_eq_true c18
             clear c18
             obtain ⟨c19b0, H⟩ := ife H
             obtain ⟨c20b0, H⟩ := ife H
             obtain ⟨c21b0, H⟩ := ife H
             obtain ⟨c22b0, H⟩ := ife H
             by_cases c23 : ((Aa7 l0_0 x5_3).f0).toList = ((Aa7 l0_0 x6_4).f0).toList
             ·rw [if_pos c23] at H
              obtain ⟨c23b0, c23b1⟩ := bqt c23; clear c23
              obtain rfl := Option.some.inj H
              have hcz24_0 : wr.cell? ⟨gb163, 0, none⟩ = some (.slice A0_0 l0_0.length c0_0) := (Aa0 BK163.out 0).trans rfl
              have hfz24_0 := Aa1 BK163.out 0
              have p168 : 0 ≤ (x5_3 : Int) := od
              have q168 : x5_3 < (l0_0.length : Int) := od
              obtain ⟨ad168, e168, hx168_0, hx168_1⟩ := Ae9 HR0_0.out x5_3 p168 q168
              cases e168
              replace hx168_0 := cz HB.out hx168_0
              replace hx168_1 := cz HB.out hx168_1
              replace p168 := eq_true p168
              replace q168 := eq_true q168
              have p169 : 0 ≤ (x6_4 : Int) := od
              have q169 : x6_4 < (l0_0.length : Int) := od
              obtain ⟨ad169, e169, hx169_0, hx169_1⟩ := Ae9 HR0_0.out x6_4 p169 q169
              obtain rfl : ad168 = ad169 := (by injection e169)
              replace hx169_0 := cz HB.out hx169_0
              replace hx169_1 := cz HB.out hx169_1
              replace p169 := eq_true p169
              replace q169 := eq_true q169
              go_wp2
              repeat (go_quiet (fail); try go_wp2)
              go_ret
              exact ⟨er, hs HB.out⟩
             ·rw [if_neg c23] at H
              obtain ⟨c23b0, c23b1⟩ := bqf c23
              have H' := am H
              clear H
              have hcz25_0 : wr.cell? ⟨gb163, 0, none⟩ = some (.slice A0_0 l0_0.length c0_0) := (Aa0 BK163.out 0).trans rfl
              have hfz25_0 := Aa1 BK163.out 0
              have p168 : 0 ≤ (x5_3 : Int) := od
              have q168 : x5_3 < (l0_0.length : Int) := od
              obtain ⟨ad168, e168, hx168_0, hx168_1⟩ := Ae9 HR0_0.out x5_3 p168 q168
              cases e168
              replace hx168_0 := cz HB.out hx168_0
              replace hx168_1 := cz HB.out hx168_1
              replace p168 := eq_true p168
              replace q168 := eq_true q168
              have p169 : 0 ≤ (x6_4 : Int) := od
              have q169 : x6_4 < (l0_0.length : Int) := od
              obtain ⟨ad169, e169, hx169_0, hx169_1⟩ := Ae9 HR0_0.out x6_4 p169 q169
              obtain rfl : ad168 = ad169 := (by injection e169)
              replace hx169_0 := cz HB.out hx169_0
              replace hx169_1 := cz HB.out hx169_1
              replace p169 := eq_true p169
              replace q169 := eq_true q169
              go_wp2
              repeat (go_quiet (fail); try go_wp2)
              go_roundg k4
              case measure => have := HJ1.out; have := HK2.out; have := HK3.out; have := HK4.out; omega
              case rel => exact ⟨(wrap64 (x6_4 + 1)), et, H', ⟨by have := HJ1.out; have := HK2.out; have := HK3.out; have := HK4.out; omega⟩, ⟨by refine bq ?_; exact BK163.out⟩, ⟨hs HB.out⟩⟩
            ·rw [if_neg c18] at H
             have c18b0 : decide (x6_4 < x5_3) = false := decide_eq_false c18
             clear c18
             have H' := am H
             clear H
             go_wp2
             repeat (go_quiet (fail); try go_wp2)
             go_roundg k4
             case measure => have := HJ1.out; have := HK2.out; have := HK3.out; have := HK4.out; omega
             case rel => exact ⟨(wrap64 (x5_3 + 1)), et, H', ⟨by have := HJ1.out; have := HK2.out; have := HK3.out; have := HK4.out; omega⟩, ⟨by refine bq ?_; exact BK163.out⟩, ⟨hs HB.out⟩⟩
         ·rw [if_neg c17] at H
          have c17b0 : decide (x5_3 < (l0_0.length : Int)) = false := decide_eq_false c17
          clear c17
          have H' := am H
          clear H
          go_wp2
          repeat (go_quiet (fail); try go_wp2)
          go_loopg [7] k3 (fun kq v7 w' => ∃ (x7_4 : Int), v7 = .int .i64 x7_4 ∧ Aside0 (spec_SignatureFault.l3 kq (l0_0.length : Int) x7_4 l0_0 = some r) ∧ Aside0 (kq ≤ k3) ∧ Aside0 (w'.heap[gb163]? = some (.cells #[(.slice A0_0 l0_0.length c0_0)] 26 (0, 0))) ∧ Aside0 (Below w.heap.size w w'))
          case atStart => exact ⟨(0), et, H', ⟨Nat.le_refl _⟩, ⟨by refine bq ?_; exact BK163.out⟩, ⟨hs HB.out⟩⟩
          case round =>
           clear H'
           try clear c5; try clear c5b0; try clear c5b1; try clear c6; try clear c7; try clear c7b0; try clear c8b0; try clear c9b0; try clear c11; try clear c13; try clear c17; try clear c17b0; try clear c18; try clear c18b0; try clear c19b0; try clear c20b0; try clear c21b0; try clear c22b0; try clear c23; try clear c23b0; try clear c23b1; try clear hcz14_0; try clear hcz15_0; try clear hcz16_0; try clear hcz24_0; try clear hcz25_0; try clear hcz4_0; try clear hfz14_0; try clear hfz15_0; try clear hfz16_0; try clear hfz24_0; try clear hfz25_0; try clear hfz4_0; try clear hx164_0; try clear hx164_1; try clear hx166_0; try clear hx166_1; try clear hx168_0; try clear hx168_1; try clear hx169_0; try clear hx169_1; try clear p164; try clear p166; try clear p168; try clear p169; try clear q164; try clear q166; try clear q168; try clear q169
           obtain ⟨x7_4, rfl, HA, HK4, BK163, HB⟩ := hrel
           cases gk with
           | zero => exact absurd HA.out (by simp [spec_SignatureFault.l3])
           | succ k4 =>
            have H := HA.out
            clear HA
            simp only [spec_SignatureFault.l3] at H
            by_cases c26 : x7_4 < (l0_0.length : Int)
            ·rw [if_pos c26] at H
             have c26b0 : decide (x7_4 < (l0_0.length : Int)) = true := decide_eq_true c26
             clear c26
             obtain ⟨c27b0, H⟩ := ife H
             obtain ⟨c28b0, H⟩ := ife H
             by_cases c29 : ((Aa7 l0_0 x7_4).f1) = 0
             ·rw [if_pos c29] at H
              obtain ⟨c29b0, c29b1⟩ := bqt c29; clear c29
              obtain rfl := Option.some.inj H
              have hcz30_0 : wr.cell? ⟨gb163, 0, none⟩ = some (.slice A0_0 l0_0.length c0_0) := (Aa0 BK163.out 0).trans rfl
              have hfz30_0 := Aa1 BK163.out 0
              have p170 : 0 ≤ (x7_4 : Int) := od
              have q170 : x7_4 < (l0_0.length : Int) := od
              obtain ⟨ad170, e170, hx170_0, hx170_1⟩ := Ae9 HR0_0.out x7_4 p170 q170
              cases e170
              replace hx170_0 := cz HB.out hx170_0
              replace hx170_1 := cz HB.out hx170_1
              replace p170 := eq_true p170
              replace q170 := eq_true q170
              go_wp2
              repeat (go_quiet (fail); try go_wp2)
              go_ret
              exact ⟨er, hs HB.out⟩
             ·rw [if_neg c29] at H
              obtain ⟨c29b0, c29b1⟩ := bqf c29
              have H' := am H
              clear H
              have hcz31_0 : wr.cell? ⟨gb163, 0, none⟩ = some (.slice A0_0 l0_0.length c0_0) := (Aa0 BK163.out 0).trans rfl
              have hfz31_0 := Aa1 BK163.out 0
              have p170 : 0 ≤ (x7_4 : Int) := od
              have q170 : x7_4 < (l0_0.length : Int) := od
              obtain ⟨ad170, e170, hx170_0, hx170_1⟩ := Ae9 HR0_0.out x7_4 p170 q170
              cases e170
              replace hx170_0 := cz HB.out hx170_0
              replace hx170_1 := cz HB.out hx170_1
              replace p170 := eq_true p170
              replace q170 := eq_true q170
              go_wp2
              repeat (go_quiet (fail); try go_wp2)
              go_roundg k4
              case measure => have := HJ1.out; have := HK2.out; have := HK3.out; have := HK4.out; omega
              case rel => exact ⟨(wrap64 (x7_4 + 1)), et, H', ⟨by have := HJ1.out; have := HK2.out; have := HK3.out; have := HK4.out; omega⟩, ⟨by refine bq ?_; exact BK163.out⟩, ⟨hs HB.out⟩⟩
            ·rw [if_neg c26] at H
             have c26b0 : decide (x7_4 < (l0_0.length : Int)) = false := decide_eq_false c26
             clear c26
             obtain rfl := Option.some.inj H
             go_wp2
             repeat (go_quiet (fail); try go_wp2)
             go_ret
             exact ⟨er, hs HB.out⟩
end Go.Proofs.YtbdpnkpienpnaaaGreatDoor.P
namespace Go.Proofs.YtbdpnkpienpnaaaGreatDoor.P
open Go.RowKit Go.Proofs.YtbdpnkpienpnaaaGreatDoorW.PrintWords Go.Proofs.YtbdpnkpienpnaaaGreatDoorW.PrintLast Go.Proofs.YtbdpnkpienpnaaaGreatDoorW.PrintMore
attribute [local go_sem] Ae7 Ae6 Af7 Af8 Ad8 Ad9 Ae2 Ae4   -- for this text's walks alone
set_option linter.unusedVariables false
set_option linter.unusedSimpArgs false
mutual
def spec_l3Draw.j0 : Nat → List (S26) → Int → Int → Bool → List Int → Int → Option (List Int × Int)
 | 0, _, _, _, _, _, _ => none
 | k + 1, x1, x2, x3, x28, x1000, x1001 => if x28 = true then ((spec_l1Next.f x1000 x1001 x3).bind fun bt177 => (some ((([wrap64 ((-1) - bt177.1)] : List Int)), bt177.2))) else (if 0 < (x1.length : Int) then ((spec_l1Next.f x1000 x1001 (((Ac3 x1 0).f0).length : Int)).bind fun bt184 => (spec_l3Draw.l0 k x1 x2 x3 (((Ac3 x1 0).f0).length : Int) bt184.1 0 x1000 bt184.2)) else (none))
def spec_l3Draw.j2 : Nat → List (S26) → Int → Int → Int → Int → List Int → Int → Option (List Int × Int)
 | 0, _, _, _, _, _, _, _ => none
 | k + 1, x1, x2, x3, x9, x10, x1000, x1001 => if x2 < 2 then (spec_l3Draw.l1 k x1 x2 x3 x9 x10 0 x1000 x1001) else (spec_l3Draw.j4 k x1 x2 x3 x10 x1000 x1001)
def spec_l3Draw.j4 : Nat → List (S26) → Int → Int → Int → List Int → Int → Option (List Int × Int)
 | 0, _, _, _, _, _, _ => none
 | k + 1, x1, x2, x3, x10, x1000, x1001 => (some (([x10] : List Int) : List Int)).bind fun y192 => (if 0 < (x1.length : Int) then (if 0 ≤ x10 then (if x10 < (((Ac3 x1 0).f0).length : Int) then (if ((Aa7 ((Ac3 x1 0).f0) x10).f1) = 1 then ((spec_l3Draw.f k x1000 x1001 x1 (wrap64 (x2 - 1)) x3).bind fun bt198 => (if y192.length + bt198.1.length < 17592186044416 then (some ((y192 ++ bt198.1), bt198.2)) else (none))) else (if ((Aa7 ((Ac3 x1 0).f0) x10).f1) = 2 then ((spec_l3Draw.f k x1000 x1001 x1 (wrap64 (x2 - 2)) x3).bind fun bt205 => (if y192.length + bt205.1.length < 17592186044416 then ((some (y192 ++ bt205.1 : List Int)).bind fun y209 => ((spec_l3Draw.f k x1000 bt205.2 x1 (wrap64 ((wrap64 (x2 - 1)) - (bt205.1.length : Int))) x3).bind fun bt212 => (if y209.length + bt212.1.length < 17592186044416 then (some ((y209 ++ bt212.1), bt212.2)) else (none)))) else (none))) else (some (y192, x1001)))) else (none)) else (none)) else (none))
def spec_l3Draw.l1 : Nat → List (S26) → Int → Int → Int → Int → Int → List Int → Int → Option (List Int × Int)
 | 0, _, _, _, _, _, _, _, _ => none
 | k + 1, x1, x2, x3, x9, x10, x12, x1000, x1001 => if x12 < x9 then (if 0 < (x1.length : Int) then (if 0 ≤ x10 then (if x10 < (((Ac3 x1 0).f0).length : Int) then (if ((Aa7 ((Ac3 x1 0).f0) x10).f1) > 0 then (if x9 = 0 then (none) else (spec_l3Draw.l1 k x1 x2 x3 x9 (Int.tmod (wrap64 (x10 + 1)) x9) (wrap64 (x12 + 1)) x1000 x1001)) else (spec_l3Draw.j4 k x1 x2 x3 x10 x1000 x1001)) else (none)) else (none)) else (none)) else (spec_l3Draw.j4 k x1 x2 x3 x10 x1000 x1001)
def spec_l3Draw.l0 : Nat → List (S26) → Int → Int → Int → Int → Int → List Int → Int → Option (List Int × Int)
 | 0, _, _, _, _, _, _, _, _ => none
 | k + 1, x1, x2, x3, x9, x10, x11, x1000, x1001 => if x11 < x9 then (if 0 < (x1.length : Int) then (if 0 ≤ x10 then (if x10 < (((Ac3 x1 0).f0).length : Int) then (if ((Aa7 ((Ac3 x1 0).f0) x10).f1) ≥ x2 then (if x9 = 0 then (none) else (spec_l3Draw.l0 k x1 x2 x3 x9 (Int.tmod (wrap64 (x10 + 1)) x9) (wrap64 (x11 + 1)) x1000 x1001)) else (spec_l3Draw.j2 k x1 x2 x3 x9 x10 x1000 x1001)) else (none)) else (none)) else (none)) else (spec_l3Draw.j2 k x1 x2 x3 x9 x10 x1000 x1001)
def spec_l3Draw.f : Nat → List Int → Int → List (S26) → Int → Int → Option (List Int × Int)
 | 0, _, _, _, _, _ => none
 | k + 1, s0_0, s0_1, l1, a2, a3 => if a3 > 0 then (if a2 < 2 then ((spec_l1Chance.f s0_0 s0_1 2).bind fun bt171 => (if bt171.1 = true then (spec_l3Draw.j0 k l1 a2 a3 true s0_0 bt171.2) else ((spec_l1Chance.f s0_0 bt171.2 4).bind fun bt173 => (spec_l3Draw.j0 k l1 a2 a3 bt173.1 s0_0 bt173.2)))) else ((spec_l1Chance.f s0_0 s0_1 4).bind fun bt175 => (spec_l3Draw.j0 k l1 a2 a3 bt175.1 s0_0 bt175.2))) else (spec_l3Draw.j0 k l1 a2 a3 false s0_0 s0_1)
end
set_option maxHeartbeats 8000000 in
set_option maxRecDepth 100000 in
theorem spec_l3Draw.calls (k : Nat) : ∀ (g : Nat) (s0_0 : List Int) (s0_1 : Int) (A1 : Option Addr) (l1 : List (S26)) (a2 : Int) (a3 : Int) (r1 : List Int) (r2 : Int) (w0 w : World) (hI : Aa2 w0 w g s0_0 s0_1) (hB : Below w0.heap.size w0 w) (hr1 : ∀ W_, Aa3 w W_ g none → Kd.C k26 W_ A1 l1.length l1) (h : spec_l3Draw.f k s0_0 s0_1 l1 a2 a3 = some (r1, r2)),
  Calls Tryz.prog 57 #[.pointer (some ⟨g, 0, none⟩), .pointer A1, .int .i64 a2, .int .i64 a3] w fun e w' => ∃ v0_ : Value, e = .returned (v0_) ∧ Kd.R (Kd.int .i64) 2 w' w.heap.size (fun _ => True) v0_ r1 ∧ Aa2 w0 w' g s0_0 r2 ∧ Below w0.heap.size w0 w' ∧ Aa3 w w' g none := by
 induction k using Nat.strongRecOn with
 | _ k ih =>
 intro g s0_0 s0_1 A1 l1 a2 a3 r1 r2 w0 w hI hB hr1 h
 cases k with
 | zero => exact absurd h (by simp [spec_l3Draw.f])
 | succ k =>
 simp only [spec_l3Draw.f] at h
 have HR1 := Aside0.mk hr1
 clear hr1
 have HI0 := Aside0.mk hI
 have HK := Aside0.mk (Aa3.refl w g none)
 have HL := Aside0.mk hB.size
 clear hI
 have HW0 := Aside0.mk hB.size
 have HB := Aside0.mk hB
 clear hB
 have H : (if a3 > 0 then (if a2 < 2 then ((spec_l1Chance.f s0_0 s0_1 2).bind fun bt171 => (if bt171.1 = true then (spec_l3Draw.j0 k l1 a2 a3 true s0_0 bt171.2) else ((spec_l1Chance.f s0_0 bt171.2 4).bind fun bt173 => (spec_l3Draw.j0 k l1 a2 a3 bt173.1 s0_0 bt173.2)))) else ((spec_l1Chance.f s0_0 s0_1 4).bind fun bt175 => (spec_l3Draw.j0 k l1 a2 a3 bt175.1 s0_0 bt175.2))) else (spec_l3Draw.j0 k l1 a2 a3 false s0_0 s0_1)) = some (r1, r2) := h
 clear h
 have HC5 := Aside0.mk H
 clear H
 go_enter Tryz.func57, Tryz.ntmps57
 go_upto_region 1 with (fail)
 go_cut [28] (fun v28 wc => ∃ (kq : Nat) (x28_4 : Bool) (x1001_4 : Int), v28 = .bool x28_4 ∧ Aside0 (spec_l3Draw.j0 kq l1 a2 a3 x28_4 s0_0 x1001_4 = some (r1, r2)) ∧ Aside0 (kq ≤ k) ∧ Aside0 (Aa2 w0 wc g s0_0 x1001_4) ∧ Aside0 (Aa3 w wc g none) ∧ Aside0 (Below w0.heap.size w0 wc))
 case first =>
  have H := HC5.out
  clear HC5
  by_cases c6 : a3 > 0
  ·rw [if_pos c6] at H
   have c6b0 : decide (0 < a3) = true := decide_eq_true c6
   clear c6
   (first | rw [c6b0] | (simp only [Ag7, Ah2]; rw [c6b0]) | skip)
   by_cases c7 : a2 < 2
   ·rw [if_pos c7] at H
    have c7b0 : decide (a2 < 2) = true := decide_eq_true c7
    clear c7
    replace H := Option.bind_eq_some_iff.mp H
    obtain ⟨⟨t171, t172⟩, A80, H⟩ := H
    replace H : (if t171 = true then (spec_l3Draw.j0 k l1 a2 a3 true s0_0 t172) else ((spec_l1Chance.f s0_0 t172 4).bind fun bt173 => (spec_l3Draw.j0 k l1 a2 a3 bt173.1 s0_0 bt173.2))) = some (r1, r2) := H
    have A8 := Aside0.mk A80
    clear A80
    by_cases c9 : t171 = true
    ·subst c9
     have H1 : (spec_l3Draw.j0 k l1 a2 a3 true s0_0 t172) = some (r1, r2) := by rw [if_pos rfl] at H; exact H
     clear H
     have H := H1
     clear H1
     have H' := Aside0.mk H
     clear H
     go_wp2_with (first | (go_at_call 55; (with_reducible refine (spec_l1Chance.calls g s0_0 s0_1 2 true t172 w0 _ ?side1 ?side2 A8.out).mono ?_); (case side1 => repeat (first | (with_reducible first | exact HI0.out | apply Aa2.alloc | apply Aa2.drewN | apply Aa2.drew | apply Aa2.set_1) | exact HI0.out)); (case side2 => repeat (first | (with_reducible first | exact HB.out | apply Ab6 | apply Ab1 | apply Ab3 | refine Ac2 ?_ (Aa2.ge HI0.out)) | exact HB.out)); rintro e w10 ⟨rfl, hi, hb, hk⟩; have n0_ := Aside0.mk (Aa3.trans (by repeat (first | (with_reducible first | exact HK.out | apply Aa3.set_ | apply Ac0 | apply Ac4 | apply Ac1) | exact HK.out)) hk (.inl rfl)); have n1_ := Aside0.mk (hb); have n2_ := Aside0.mk (hi); clear HK; clear HB; clear HI0; have HK := n0_; have HB := n1_; have HI0 := n2_; clear n0_ n1_ n2_; (try clear hb); (try clear hb2); (try clear hgw); (try clear hk); (try clear hi)))
     go_meet
     case rel => exact ⟨_, (true), (t172), (by first | rfl | (simp; done) | (simp [*]; done)), H', ⟨by first | omega | exact Nat.le_refl _⟩, ⟨by repeat (first | (with_reducible first | exact HI0.out | apply Aa2.alloc | apply Aa2.drewN | apply Aa2.drew | apply Aa2.set_1) | exact HI0.out)⟩, ⟨by repeat (first | (with_reducible first | exact HK.out | apply Aa3.set_ | apply Ac0 | apply Ac4 | apply Ac1) | exact HK.out)⟩, ⟨by repeat (first | (with_reducible first | exact HB.out | apply Ab6 | apply Ab1 | apply Ab3 | refine Ac2 ?_ (Aa2.ge HI0.out)) | exact HB.out)⟩⟩
    ·replace c9 := Bool.eq_false_iff.mpr c9
     subst c9
     have H1 : ((spec_l1Chance.f s0_0 t172 4).bind fun bt173 => (spec_l3Draw.j0 k l1 a2 a3 bt173.1 s0_0 bt173.2)) = some (r1, r2) := by rw [if_neg (show ¬ (false = true) by decide)] at H; exact H
     clear H
     have H := H1
     clear H1
     replace H := Option.bind_eq_some_iff.mp H
     obtain ⟨⟨t173, t174⟩, A110, H⟩ := H
     replace H : (spec_l3Draw.j0 k l1 a2 a3 t173 s0_0 t174) = some (r1, r2) := H
     have A11 := Aside0.mk A110
     clear A110
     have H' := Aside0.mk H
     clear H
     go_wp2_with (first | (go_at_call 55; (with_reducible refine (spec_l1Chance.calls g s0_0 s0_1 2 false t172 w0 _ ?side1 ?side2 A8.out).mono ?_); (case side1 => repeat (first | (with_reducible first | exact HI0.out | apply Aa2.alloc | apply Aa2.drewN | apply Aa2.drew | apply Aa2.set_1) | exact HI0.out)); (case side2 => repeat (first | (with_reducible first | exact HB.out | apply Ab6 | apply Ab1 | apply Ab3 | refine Ac2 ?_ (Aa2.ge HI0.out)) | exact HB.out)); rintro e w12 ⟨rfl, hi, hb, hk⟩; have n0_ := Aside0.mk (Aa3.trans (by repeat (first | (with_reducible first | exact HK.out | apply Aa3.set_ | apply Ac0 | apply Ac4 | apply Ac1) | exact HK.out)) hk (.inl rfl)); have n1_ := Aside0.mk (hb); have n2_ := Aside0.mk (hi); clear HK; clear HB; clear HI0; have HK := n0_; have HB := n1_; have HI0 := n2_; clear n0_ n1_ n2_; (try clear hb); (try clear hb2); (try clear hgw); (try clear hk); (try clear hi)) | (go_at_call 55; (with_reducible refine (spec_l1Chance.calls g s0_0 t172 4 t173 t174 w0 _ ?side1 ?side2 A11.out).mono ?_); (case side1 => repeat (first | (with_reducible first | exact HI0.out | apply Aa2.alloc | apply Aa2.drewN | apply Aa2.drew | apply Aa2.set_1) | exact HI0.out)); (case side2 => repeat (first | (with_reducible first | exact HB.out | apply Ab6 | apply Ab1 | apply Ab3 | refine Ac2 ?_ (Aa2.ge HI0.out)) | exact HB.out)); rintro e w13 ⟨rfl, hi, hb, hk⟩; have n0_ := Aside0.mk (Aa3.trans (by repeat (first | (with_reducible first | exact HK.out | apply Aa3.set_ | apply Ac0 | apply Ac4 | apply Ac1) | exact HK.out)) hk (.inl rfl)); have n1_ := Aside0.mk (hb); have n2_ := Aside0.mk (hi); clear HK; clear HB; clear HI0; have HK := n0_; have HB := n1_; have HI0 := n2_; clear n0_ n1_ n2_; (try clear hb); (try clear hb2); (try clear hgw); (try clear hk); (try clear hi)))
     go_meet
     case rel => exact ⟨_, (t173), (t174), (by first | rfl | (simp; done) | (simp [*]; done)), H', ⟨by first | omega | exact Nat.le_refl _⟩, ⟨by repeat (first | (with_reducible first | exact HI0.out | apply Aa2.alloc | apply Aa2.drewN | apply Aa2.drew | apply Aa2.set_1) | exact HI0.out)⟩, ⟨by repeat (first | (with_reducible first | exact HK.out | apply Aa3.set_ | apply Ac0 | apply Ac4 | apply Ac1) | exact HK.out)⟩, ⟨by repeat (first | (with_reducible first | exact HB.out | apply Ab6 | apply Ab1 | apply Ab3 | refine Ac2 ?_ (Aa2.ge HI0.out)) | exact HB.out)⟩⟩
   ·rw [if_neg c7] at H
    have c7b0 : decide (a2 < 2) = false := decide_eq_false c7
    clear c7
    replace H := Option.bind_eq_some_iff.mp H
    obtain ⟨⟨t175, t176⟩, A140, H⟩ := H
    replace H : (spec_l3Draw.j0 k l1 a2 a3 t175 s0_0 t176) = some (r1, r2) := H
    have A14 := Aside0.mk A140
    clear A140
    have H' := Aside0.mk H
    clear H
    go_wp2_with (first | (go_at_call 55; (with_reducible refine (spec_l1Chance.calls g s0_0 s0_1 4 t175 t176 w0 _ ?side1 ?side2 A14.out).mono ?_); (case side1 => repeat (first | (with_reducible first | exact HI0.out | apply Aa2.alloc | apply Aa2.drewN | apply Aa2.drew | apply Aa2.set_1) | exact HI0.out)); (case side2 => repeat (first | (with_reducible first | exact HB.out | apply Ab6 | apply Ab1 | apply Ab3 | refine Ac2 ?_ (Aa2.ge HI0.out)) | exact HB.out)); rintro e w15 ⟨rfl, hi, hb, hk⟩; have n0_ := Aside0.mk (Aa3.trans (by repeat (first | (with_reducible first | exact HK.out | apply Aa3.set_ | apply Ac0 | apply Ac4 | apply Ac1) | exact HK.out)) hk (.inl rfl)); have n1_ := Aside0.mk (hb); have n2_ := Aside0.mk (hi); clear HK; clear HB; clear HI0; have HK := n0_; have HB := n1_; have HI0 := n2_; clear n0_ n1_ n2_; (try clear hb); (try clear hb2); (try clear hgw); (try clear hk); (try clear hi)))
    go_meet
    case rel => exact ⟨_, (t175), (t176), (by first | rfl | (simp; done) | (simp [*]; done)), H', ⟨by first | omega | exact Nat.le_refl _⟩, ⟨by repeat (first | (with_reducible first | exact HI0.out | apply Aa2.alloc | apply Aa2.drewN | apply Aa2.drew | apply Aa2.set_1) | exact HI0.out)⟩, ⟨by repeat (first | (with_reducible first | exact HK.out | apply Aa3.set_ | apply Ac0 | apply Ac4 | apply Ac1) | exact HK.out)⟩, ⟨by repeat (first | (with_reducible first | exact HB.out | apply Ab6 | apply Ab1 | apply Ab3 | refine Ac2 ?_ (Aa2.ge HI0.out)) | exact HB.out)⟩⟩
  ·rw [if_neg c6] at H
   have c6b0 : decide (0 < a3) = false := decide_eq_false c6
   clear c6
   (first | rw [c6b0] | (simp only [Ag7, Ah2]; rw [c6b0]) | skip)
   have H' := Aside0.mk H
   clear H
   go_wp2
   go_meet
   case rel => exact ⟨_, (false), (s0_1), (by first | rfl | (simp; done) | (simp [*]; done)), H', ⟨by first | omega | exact Nat.le_refl _⟩, ⟨by repeat (first | (with_reducible first | exact HI0.out | apply Aa2.alloc | apply Aa2.drewN | apply Aa2.drew | apply Aa2.set_1) | exact HI0.out)⟩, ⟨by repeat (first | (with_reducible first | exact HK.out | apply Aa3.set_ | apply Ac0 | apply Ac4 | apply Ac1) | exact HK.out)⟩, ⟨by repeat (first | (with_reducible first | exact HB.out | apply Ab6 | apply Ab1 | apply Ab3 | refine Ac2 ?_ (Aa2.ge HI0.out)) | exact HB.out)⟩⟩
 case rest =>
  clear HC5
  try clear p2
  try clear c5
  try clear c6
  try clear c6b0
  try clear c7
  try clear c7b0
  try clear c9
  obtain ⟨kq, x28_4, x1001_4, rfl, HA, HJ4, HI0, HK, HB⟩ := hcut
  cases kq with
  | zero => exact absurd HA.out (by simp [spec_l3Draw.j0])
  | succ kj4 =>
   have H := HA.out
   clear HA
   simp only [spec_l3Draw.j0] at H
   by_cases c16 : x28_4 = true
   ·subst c16
    have H1 : ((spec_l1Next.f s0_0 x1001_4 a3).bind fun bt177 => (some ((([wrap64 ((-1) - bt177.1)] : List Int)), bt177.2))) = some (r1, r2) := by rw [if_pos rfl] at H; exact H
    clear H
    have H := H1
    clear H1
    replace H := Option.bind_eq_some_iff.mp H
    obtain ⟨⟨t177, t178⟩, A170, H⟩ := H
    replace H : (some ((([wrap64 ((-1) - t177)] : List Int)), t178)) = some (r1, r2) := H
    have A17 := Aside0.mk A170
    clear A170
    obtain ⟨y179, hy179⟩ : ∃ y_ : List Int, y_ = (([wrap64 ((-1) - t177)] : List Int)) := ⟨_, rfl⟩
    replace H : (some (y179, t178)) = some (r1, r2) := by first | (rw [hy179]; with_reducible exact H) | (have H2_ := (Option.bind_some _ _).symm.trans H; rw [hy179]; with_reducible exact H2_) | (have H2_ := (Option.bind_some _ _).symm.trans H; with_reducible exact H2_) | with_reducible exact H | (rw [hy179]; exact H) | exact H
    have Ny179 := Aside0.mk hy179
    clear hy179
    simp only [Option.some.injEq, Prod.mk.injEq] at H
    obtain ⟨rfl, rfl⟩ := H
    go_wp2_with (first | ((with_reducible refine Ak9 (f := 56) rfl ?_); refine Ar9 (some 31) rfl rfl Tryz.func56 (by kernel_rfl) rfl #[.pointer (some ⟨g, 0, none⟩), .int .i64 a3] rfl (by (try simp only [List.map_toArray, List.map_cons, List.map_nil]); first | done | rfl | (simp only [List.length_drop, List.length_take]; rfl)) ?_; (with_reducible refine (spec_l1Next.calls g s0_0 x1001_4 a3 t177 t178 w0 _ ?side1 ?side2 A17.out).mono ?_); (case side1 => repeat (first | (with_reducible first | exact HI0.out | apply Aa2.alloc | apply Aa2.drewN | apply Aa2.drew | apply Aa2.set_1) | exact HI0.out)); (case side2 => repeat (first | (with_reducible first | exact HB.out | apply Ab6 | apply Ab1 | apply Ab3 | refine Ac2 ?_ (Aa2.ge HI0.out)) | exact HB.out)); rintro e w18 ⟨rfl, hi, hb, hk⟩; refine ⟨_, rfl, ?_⟩; have n0_ := Aside0.mk (Aa3.trans (by repeat (first | (with_reducible first | exact HK.out | apply Aa3.set_ | apply Ac0 | apply Ac4 | apply Ac1) | exact HK.out)) hk (.inl rfl)); have n1_ := Aside0.mk (hb); have n2_ := Aside0.mk (hi); clear HK; clear HB; clear HI0; have HK := n0_; have HB := n1_; have HI0 := n2_; clear n0_ n1_ n2_; (try clear hb); (try clear hb2); (try clear hgw); (try clear hk); (try clear hi)) | ((with_reducible refine Ad2 (N := 33) rfl ?_); refine Kd.R_lit (Kd.int .i64) _ 2 ?hg (N := 33) ?hd (xs := ([wrap64 ((-1) - t177)] : List Int)) (inner := [.int .i64 (wrap64 ((-1) - t177))]) (ok := fun _ => True) (okp := fun _ => True) ?hr ?hp (fun _ hk => hk) trivial (Below.refl _ _) (Nat.le_refl _) (by simp) ?_; (case hd => rfl); (case hg => rfl); (case hr => first | (go_simp; done) | (go_simp; rfl)); (case hp => exact (Ad5.one (show Kd.M (Kd.int .i64) _ _ _ (wrap64 ((-1) - t177)) [.int .i64 (wrap64 ((-1) - t177))] from rfl) (Ad5.none _ _))); intro v180 w19 ho20 hb hg_ hnew_; clear hg_ hnew_; (first | rw [← Ny179.out] at ho20 | (simp only [Int.reduceToNat] at ho20; rw [← Ny179.out] at ho20)); have n0_ := Aside0.mk (Kd.R_lower ho20 (Ab7 (w := w) (g := g) (row := none) (by repeat (first | (with_reducible first | exact HK.out | apply Aa3.set_ | apply Ac0 | apply Ac4 | apply Ac1) | exact HK.out)))); have n1_ := Aside0.mk (Aa2.below (by repeat (first | (with_reducible first | exact HI0.out | apply Aa2.alloc | apply Aa2.drewN | apply Aa2.drew | apply Aa2.set_1) | exact HI0.out)) hb); have n2_ := Aside0.mk (Aa3.trans (by repeat (first | (with_reducible first | exact HK.out | apply Aa3.set_ | apply Ac0 | apply Ac4 | apply Ac1) | exact HK.out)) (Aa3.of_below hb g none) (.inl rfl)); have n3_ := Aside0.mk (Ab8 (by repeat (first | (with_reducible first | exact HB.out | apply Ab6 | apply Ab1 | apply Ab3 | refine Ac2 ?_ (Aa2.ge HI0.out)) | exact HB.out)) hb); clear HI0; clear HK; clear HB; have HO181 := n0_; have HI0 := n1_; have HK := n2_; have HB := n3_; clear n0_ n1_ n2_ n3_; clear hb ho20))
    go_ret
    exact ⟨_, by first | rfl | (simp [Ad4, Ad3] <;> rfl) | (simp [*, Ad4, Ad3] <;> rfl), by (with_reducible repeat (first | apply Kd.R_alloc | apply Kd.R_drewN | apply Kd.R_drew)); exact HO181.out, by repeat (first | (with_reducible first | exact HI0.out | apply Aa2.alloc | apply Aa2.drewN | apply Aa2.drew | apply Aa2.set_1) | exact HI0.out), by repeat (first | (with_reducible first | exact HB.out | apply Ab6 | apply Ab1 | apply Ab3 | refine Ac2 ?_ (Aa2.ge HI0.out)) | exact HB.out), by repeat (first | (with_reducible first | exact HK.out | apply Aa3.set_ | apply Ac0 | apply Ac4 | apply Ac1) | exact HK.out)⟩
   ·replace c16 := Bool.eq_false_iff.mpr c16
    subst c16
    have H1 : (if 0 < (l1.length : Int) then ((spec_l1Next.f s0_0 x1001_4 (((Ac3 l1 0).f0).length : Int)).bind fun bt184 => (spec_l3Draw.l0 kj4 l1 a2 a3 (((Ac3 l1 0).f0).length : Int) bt184.1 0 s0_0 bt184.2)) else (none)) = some (r1, r2) := by rw [if_neg (show ¬ (false = true) by decide)] at H; exact H
    clear H
    have H := H1
    clear H1
    by_cases c21 : 0 < (l1.length : Int)
    ·rw [if_pos c21] at H
     have c21b0 : decide (0 < (l1.length : Int)) = true := decide_eq_true c21
     have c21b1 : decide (0 < l1.length) = true := decide_eq_true (by omega)
     clear c21
     replace H := Option.bind_eq_some_iff.mp H
     obtain ⟨⟨t184, t185⟩, A220, H⟩ := H
     replace H : (spec_l3Draw.l0 kj4 l1 a2 a3 (((Ac3 l1 0).f0).length : Int) t184 0 s0_0 t185) = some (r1, r2) := H
     have A22 := Aside0.mk A220
     clear A220
     have HC23 := Aside0.mk H
     clear H
     have p182 : 0 ≤ (0 : Int) := (by omega)
     have q182 : 0 < (l1.length : Int) := of_decide_eq_true (by first | (with_reducible assumption) | assumption)
     obtain ⟨ad182, A182_0, c182_0, e182, hx182_0, hl182_0, hi182_0⟩ := Af2 (Kd.C_foot_now HR1.out HK.out) 0 p182 q182
     cases e182
     have qi182 : (0 < l1.length) = True := eq_true (by omega)
     (try rw [show ((0 : Int)).toNat = 0 from rfl] at hx182_0)
     (try rw [Addr.add_zero'] at hx182_0)
     have HR182_0 := Aside0.mk hi182_0
     have HC182_0 := Aside0.mk hl182_0
     clear hi182_0 hl182_0
     replace p182 := eq_true p182
     replace q182 := eq_true q182
     have p183 : 0 ≤ (0 : Int) := (by omega)
     have q183 : 0 < (l1.length : Int) := of_decide_eq_true (by first | (with_reducible assumption) | assumption)
     obtain ⟨ad183, A183_0, c183_0, e183, hx183_0, hl183_0, hi183_0⟩ := Af2 (Kd.C_foot_now HR1.out HK.out) 0 p183 q183
     obtain rfl : ad182 = ad183 := (by injection e183)
     have qi183 : (0 < l1.length) = True := eq_true (by omega)
     (try rw [show ((0 : Int)).toNat = 0 from rfl] at hx183_0)
     (try rw [Addr.add_zero'] at hx183_0)
     have HR183_0 := Aside0.mk hi183_0
     have HC183_0 := Aside0.mk hl183_0
     clear hi183_0 hl183_0
     replace p183 := eq_true p183
     replace q183 := eq_true q183
     have ea_ := Option.some.inj (hx182_0.symm.trans hx183_0)
     injection ea_ with ea_ en_ ec_
     subst ea_
     subst ec_
     clear en_
     go_upto_block 0 with (first | ((with_reducible refine Ak9 (f := 56) rfl ?_); refine Ar9 (some 41) rfl rfl Tryz.func56 (by kernel_rfl) rfl #[.pointer (some ⟨g, 0, none⟩), .int .i64 (((Ac3 l1 0).f0).length : Int)] rfl (by (try simp only [List.map_toArray, List.map_cons, List.map_nil]); first | done | rfl | (simp only [List.length_drop, List.length_take]; rfl)) ?_; (with_reducible refine (spec_l1Next.calls g s0_0 x1001_4 (((Ac3 l1 0).f0).length : Int) t184 t185 w0 _ ?side1 ?side2 A22.out).mono ?_); (case side1 => repeat (first | (with_reducible first | exact HI0.out | apply Aa2.alloc | apply Aa2.drewN | apply Aa2.drew | apply Aa2.set_1) | exact HI0.out)); (case side2 => repeat (first | (with_reducible first | exact HB.out | apply Ab6 | apply Ab1 | apply Ab3 | refine Ac2 ?_ (Aa2.ge HI0.out)) | exact HB.out)); rintro e w24 ⟨rfl, hi, hb, hk⟩; refine ⟨_, rfl, ?_⟩; have n0_ := Aside0.mk (Aa3.trans (by repeat (first | (with_reducible first | exact HK.out | apply Aa3.set_ | apply Ac0 | apply Ac4 | apply Ac1) | exact HK.out)) hk (.inl rfl)); have n1_ := Aside0.mk (hb); have n2_ := Aside0.mk (hi); clear HK; clear HB; clear HI0; have HK := n0_; have HB := n1_; have HI0 := n2_; clear n0_ n1_ n2_; (try clear hb); (try clear hb2); (try clear hgw); (try clear hk); (try clear hi)))
     (try simp only [Act.put, List.setIfInBounds_toArray, List.set_cons_zero, List.set_cons_succ])
     go_cut [10] (fun v10 wc => ∃ (kq : Nat) (x10_22 : Int), v10 = .int .i64 x10_22 ∧ Aside0 (spec_l3Draw.j2 kq l1 a2 a3 (((Ac3 l1 0).f0).length : Int) x10_22 s0_0 t185 = some (r1, r2)) ∧ Aside0 (kq ≤ kj4) ∧ Aside0 (Aa2 w0 wc g s0_0 t185) ∧ Aside0 (Aa3 w wc g none) ∧ Aside0 (Below w0.heap.size w0 wc))
     case first =>
      have H := HC23.out
      clear HC23
      have H' := Aside0.mk H
      clear H
      go_wp2
      go_loopg [10, 11] kj4 (fun kq v10 v11 w' => ∃ (x10_2 : Int) (x11_2 : Int), v10 = .int .i64 x10_2 ∧ v11 = .int .i64 x11_2 ∧ Aside0 (spec_l3Draw.l0 kq l1 a2 a3 (((Ac3 l1 0).f0).length : Int) x10_2 x11_2 s0_0 t185 = some (r1, r2)) ∧ Aside0 (kq ≤ kj4) ∧ Aside0 (Aa2 w0 w' g s0_0 t185) ∧ Aside0 (Aa3 w w' g none) ∧ Aside0 (Below w0.heap.size w0 w'))
      case atStart => exact ⟨(t184), (0), (by first | rfl | (simp; done) | (simp [*]; done)), (by first | rfl | (simp; done) | (simp [*]; done)), H', ⟨Nat.le_refl _⟩, ⟨by repeat (first | (with_reducible first | exact HI0.out | apply Aa2.alloc | apply Aa2.drewN | apply Aa2.drew | apply Aa2.set_1) | exact HI0.out)⟩, ⟨by repeat (first | (with_reducible first | exact HK.out | apply Aa3.set_ | apply Ac0 | apply Ac4 | apply Ac1) | exact HK.out)⟩, ⟨by repeat (first | (with_reducible first | exact HB.out | apply Ab6 | apply Ab1 | apply Ab3 | refine Ac2 ?_ (Aa2.ge HI0.out)) | exact HB.out)⟩⟩
      case round =>
       clear H'
       try clear c1
       try clear p1
       try clear q1
       try clear hx1
       try clear qi1
       try clear c2
       try clear p2
       try clear c5
       try clear c6
       try clear c6b0
       try clear p6
       try clear c7
       try clear c7b0
       try clear c9
       try clear c16
       try clear c18
       try clear p18
       try clear q18
       try clear hx18
       try clear qi18
       try clear c21
       try clear c21b0
       try clear c21b1
       try clear hx182_0
       try clear hx183_0
       try clear p182
       try clear p183
       try clear p2
       try clear q182
       try clear q183
       obtain ⟨x10_2, x11_2, rfl, rfl, HA, HK2, HI0, HK, HB⟩ := hrel
       cases gk with
       | zero => exact absurd HA.out (by simp [spec_l3Draw.l0])
       | succ k2 =>
        have H := HA.out
        clear HA
        simp only [spec_l3Draw.l0] at H
        by_cases c25 : x11_2 < (((Ac3 l1 0).f0).length : Int)
        ·rw [if_pos c25] at H
         have c25b0 : decide (x11_2 < (((Ac3 l1 0).f0).length : Int)) = true := decide_eq_true c25
         clear c25
         (first | rw [c25b0] | (simp only [Ag7, Ah2]; rw [c25b0]) | skip)
         by_cases c26 : 0 < (l1.length : Int)
         ·rw [if_pos c26] at H
          have c26b0 : decide (0 < (l1.length : Int)) = true := decide_eq_true c26
          have c26b1 : decide (0 < l1.length) = true := decide_eq_true (by omega)
          clear c26
          by_cases c27 : 0 ≤ x10_2
          ·rw [if_pos c27] at H
           have c27b0 : decide (0 ≤ x10_2) = true := decide_eq_true c27
           clear c27
           by_cases c28 : x10_2 < (((Ac3 l1 0).f0).length : Int)
           ·rw [if_pos c28] at H
            have c28b0 : decide (x10_2 < (((Ac3 l1 0).f0).length : Int)) = true := decide_eq_true c28
            clear c28
            by_cases c29 : ((Aa7 ((Ac3 l1 0).f0) x10_2).f1) ≥ a2
            ·rw [if_pos c29] at H
             have c29b0 : decide (a2 ≤ ((Aa7 ((Ac3 l1 0).f0) x10_2).f1)) = true := decide_eq_true c29
             clear c29
             by_cases c30 : (((Ac3 l1 0).f0).length : Int) = 0
             ·rw [if_pos c30] at H
              exact absurd H (by simp)
             ·rw [if_neg c30] at H
              have c30b0 : ((((Ac3 l1 0).f0).length : Int) == 0) = false := beq_eq_false_iff_ne.mpr c30
              have c30b1 : ((((Ac3 l1 0).f0).length : Int) != 0) = true := bne_iff_ne.mpr c30
              have c30b2 : ¬ (((Ac3 l1 0).f0) = []) := fun h_ => c30 (by rw [h_]; rfl)
              have H' := Aside0.mk H
              clear H
              have p186 : 0 ≤ (0 : Int) := (by omega)
              have q186 : 0 < (l1.length : Int) := of_decide_eq_true (by first | (with_reducible assumption) | assumption)
              obtain ⟨ad186, A186_0, c186_0, e186, hx186_0, hl186_0, hi186_0⟩ := Af2 (Kd.C_foot_now HR1.out HK.out) 0 p186 q186
              obtain rfl : ad182 = ad186 := (by injection e186)
              have qi186 : (0 < l1.length) = True := eq_true (by omega)
              (try rw [show ((0 : Int)).toNat = 0 from rfl] at hx186_0)
              (try rw [Addr.add_zero'] at hx186_0)
              have HR186_0 := Aside0.mk hi186_0
              have HC186_0 := Aside0.mk hl186_0
              clear hi186_0 hl186_0
              replace p186 := eq_true p186
              replace q186 := eq_true q186
              have p187 : 0 ≤ (0 : Int) := (by omega)
              have q187 : 0 < (l1.length : Int) := of_decide_eq_true (by first | (with_reducible assumption) | assumption)
              obtain ⟨ad187, A187_0, c187_0, e187, hx187_0, hl187_0, hi187_0⟩ := Af2 (Kd.C_foot_now HR1.out HK.out) 0 p187 q187
              obtain rfl : ad182 = ad187 := (by injection e187)
              have qi187 : (0 < l1.length) = True := eq_true (by omega)
              (try rw [show ((0 : Int)).toNat = 0 from rfl] at hx187_0)
              (try rw [Addr.add_zero'] at hx187_0)
              have HR187_0 := Aside0.mk hi187_0
              have HC187_0 := Aside0.mk hl187_0
              clear hi187_0 hl187_0
              replace p187 := eq_true p187
              replace q187 := eq_true q187
              have ea_ := Option.some.inj (hx186_0.symm.trans hx187_0)
              injection ea_ with ea_ en_ ec_
              subst ea_
              subst ec_
              clear en_
              have p188 : 0 ≤ (x10_2 : Int) := of_decide_eq_true (by first | (with_reducible assumption) | assumption)
              have q188 : x10_2 < (((Ac3 l1 0).f0).length : Int) := of_decide_eq_true (by first | (with_reducible assumption) | assumption)
              obtain ⟨ad188, e188, hx188_0, hx188_1⟩ := Ae9 (by repeat (first | (with_reducible exact HR187_0.out) | (with_reducible refine Kd.C_alloc ?_ _) | (with_reducible refine Kd.C_drewN ?_ _) | (with_reducible refine Kd.C_drew ?_) | exact HR187_0.out)) x10_2 p188 q188
              cases e188
              replace p188 := eq_true p188
              replace q188 := eq_true q188
              go_wp2
              go_roundg k2
              case measure => have := HJ4.out; have := HK2.out; omega
              case rel => exact ⟨(Int.tmod (wrap64 (x10_2 + 1)) (((Ac3 l1 0).f0).length : Int)), (wrap64 (x11_2 + 1)), (by first | rfl | (simp; done) | (simp [*]; done)), (by first | rfl | (simp; done) | (simp [*]; done)), H', ⟨by have := HJ4.out; have := HK2.out; omega⟩, ⟨by repeat (first | (with_reducible first | exact HI0.out | apply Aa2.alloc | apply Aa2.drewN | apply Aa2.drew | apply Aa2.set_1) | exact HI0.out)⟩, ⟨by repeat (first | (with_reducible first | exact HK.out | apply Aa3.set_ | apply Ac0 | apply Ac4 | apply Ac1) | exact HK.out)⟩, ⟨by repeat (first | (with_reducible first | exact HB.out | apply Ab6 | apply Ab1 | apply Ab3 | refine Ac2 ?_ (Aa2.ge HI0.out)) | exact HB.out)⟩⟩
            ·rw [if_neg c29] at H
             have c29b0 : decide (a2 ≤ ((Aa7 ((Ac3 l1 0).f0) x10_2).f1)) = false := decide_eq_false c29
             clear c29
             have H' := Aside0.mk H
             clear H
             have p186 : 0 ≤ (0 : Int) := (by omega)
             have q186 : 0 < (l1.length : Int) := of_decide_eq_true (by first | (with_reducible assumption) | assumption)
             obtain ⟨ad186, A186_0, c186_0, e186, hx186_0, hl186_0, hi186_0⟩ := Af2 (Kd.C_foot_now HR1.out HK.out) 0 p186 q186
             obtain rfl : ad182 = ad186 := (by injection e186)
             have qi186 : (0 < l1.length) = True := eq_true (by omega)
             (try rw [show ((0 : Int)).toNat = 0 from rfl] at hx186_0)
             (try rw [Addr.add_zero'] at hx186_0)
             have HR186_0 := Aside0.mk hi186_0
             have HC186_0 := Aside0.mk hl186_0
             clear hi186_0 hl186_0
             replace p186 := eq_true p186
             replace q186 := eq_true q186
             have p187 : 0 ≤ (0 : Int) := (by omega)
             have q187 : 0 < (l1.length : Int) := of_decide_eq_true (by first | (with_reducible assumption) | assumption)
             obtain ⟨ad187, A187_0, c187_0, e187, hx187_0, hl187_0, hi187_0⟩ := Af2 (Kd.C_foot_now HR1.out HK.out) 0 p187 q187
             obtain rfl : ad182 = ad187 := (by injection e187)
             have qi187 : (0 < l1.length) = True := eq_true (by omega)
             (try rw [show ((0 : Int)).toNat = 0 from rfl] at hx187_0)
             (try rw [Addr.add_zero'] at hx187_0)
             have HR187_0 := Aside0.mk hi187_0
             have HC187_0 := Aside0.mk hl187_0
             clear hi187_0 hl187_0
             replace p187 := eq_true p187
             replace q187 := eq_true q187
             have ea_ := Option.some.inj (hx186_0.symm.trans hx187_0)
             injection ea_ with ea_ en_ ec_
             subst ea_
             subst ec_
             clear en_
             have p188 : 0 ≤ (x10_2 : Int) := of_decide_eq_true (by first | (with_reducible assumption) | assumption)
             have q188 : x10_2 < (((Ac3 l1 0).f0).length : Int) := of_decide_eq_true (by first | (with_reducible assumption) | assumption)
             obtain ⟨ad188, e188, hx188_0, hx188_1⟩ := Ae9 (by repeat (first | (with_reducible exact HR187_0.out) | (with_reducible refine Kd.C_alloc ?_ _) | (with_reducible refine Kd.C_drewN ?_ _) | (with_reducible refine Kd.C_drew ?_) | exact HR187_0.out)) x10_2 p188 q188
             cases e188
             replace p188 := eq_true p188
             replace q188 := eq_true q188
             go_wp2
             go_meet
             case rel => exact ⟨_, (x10_2), (by first | rfl | (simp; done) | (simp [*]; done)), H', ⟨by have := HJ4.out; have := HK2.out; first | omega | exact Nat.le_refl _⟩, ⟨by repeat (first | (with_reducible first | exact HI0.out | apply Aa2.alloc | apply Aa2.drewN | apply Aa2.drew | apply Aa2.set_1) | exact HI0.out)⟩, ⟨by repeat (first | (with_reducible first | exact HK.out | apply Aa3.set_ | apply Ac0 | apply Ac4 | apply Ac1) | exact HK.out)⟩, ⟨by repeat (first | (with_reducible first | exact HB.out | apply Ab6 | apply Ab1 | apply Ab3 | refine Ac2 ?_ (Aa2.ge HI0.out)) | exact HB.out)⟩⟩
           ·rw [if_neg c28] at H
            exact absurd H (by simp)
          ·rw [if_neg c27] at H
           exact absurd H (by simp)
         ·rw [if_neg c26] at H
          exact absurd H (by simp)
        ·rw [if_neg c25] at H
         have c25b0 : decide (x11_2 < (((Ac3 l1 0).f0).length : Int)) = false := decide_eq_false c25
         clear c25
         (first | rw [c25b0] | (simp only [Ag7, Ah2]; rw [c25b0]) | skip)
         have H' := Aside0.mk H
         clear H
         go_wp2
         go_meet
         case rel => exact ⟨_, (x10_2), (by first | rfl | (simp; done) | (simp [*]; done)), H', ⟨by have := HJ4.out; have := HK2.out; first | omega | exact Nat.le_refl _⟩, ⟨by repeat (first | (with_reducible first | exact HI0.out | apply Aa2.alloc | apply Aa2.drewN | apply Aa2.drew | apply Aa2.set_1) | exact HI0.out)⟩, ⟨by repeat (first | (with_reducible first | exact HK.out | apply Aa3.set_ | apply Ac0 | apply Ac4 | apply Ac1) | exact HK.out)⟩, ⟨by repeat (first | (with_reducible first | exact HB.out | apply Ab6 | apply Ab1 | apply Ab3 | refine Ac2 ?_ (Aa2.ge HI0.out)) | exact HB.out)⟩⟩
     case rest =>
      clear HC23
      try clear c1
      try clear p1
      try clear q1
      try clear hx1
      try clear qi1
      try clear c2
      try clear p2
      try clear c3
      try clear c5
      try clear c6
      try clear c6b0
      try clear p6
      try clear c7
      try clear c7b0
      try clear c9
      try clear c16
      try clear c18
      try clear p18
      try clear q18
      try clear hx18
      try clear qi18
      try clear c21
      try clear c21b0
      try clear c21b1
      try clear c25
      try clear c25b0
      try clear c26
      try clear c26b0
      try clear c26b1
      try clear c27
      try clear c27b0
      try clear c28
      try clear c28b0
      try clear c29
      try clear c29b0
      try clear c30
      try clear c30b0
      try clear c30b1
      try clear c30b2
      try clear hx182_0
      try clear hx183_0
      try clear hx186_0
      try clear hx187_0
      try clear hx188_0
      try clear hx188_1
      try clear p1
      try clear p18
      try clear p182
      try clear p183
      try clear p186
      try clear p187
      try clear p188
      try clear p2
      try clear p6
      try clear q1
      try clear q18
      try clear q182
      try clear q183
      try clear q186
      try clear q187
      try clear q188
      obtain ⟨kq, x10_22, rfl, HA, HJ22, HI0, HK, HB⟩ := hcut
      cases kq with
      | zero => exact absurd HA.out (by simp [spec_l3Draw.j2])
      | succ kj22 =>
       have H := HA.out
       clear HA
       simp only [spec_l3Draw.j2] at H
       have HC31 := Aside0.mk H
       clear H
       go_upto_if 64 with (fail)
       go_cut [10] (fun v10 wc => ∃ (kq : Nat) (x10_30 : Int), v10 = .int .i64 x10_30 ∧ Aside0 (spec_l3Draw.j4 kq l1 a2 a3 x10_30 s0_0 t185 = some (r1, r2)) ∧ Aside0 (kq ≤ kj22) ∧ Aside0 (Aa2 w0 wc g s0_0 t185) ∧ Aside0 (Aa3 w wc g none) ∧ Aside0 (Below w0.heap.size w0 wc))
       case first =>
        have H := HC31.out
        clear HC31
        by_cases c32 : a2 < 2
        ·rw [if_pos c32] at H
         have c32b0 : decide (a2 < 2) = true := decide_eq_true c32
         clear c32
         (first | rw [c32b0] | (simp only [Ag7, Ah2]; rw [c32b0]) | skip)
         have H' := Aside0.mk H
         clear H
         go_wp2
         go_loopg [10, 12] kj22 (fun kq v10 v12 w' => ∃ (x10_3 : Int) (x12_3 : Int), v10 = .int .i64 x10_3 ∧ v12 = .int .i64 x12_3 ∧ Aside0 (spec_l3Draw.l1 kq l1 a2 a3 (((Ac3 l1 0).f0).length : Int) x10_3 x12_3 s0_0 t185 = some (r1, r2)) ∧ Aside0 (kq ≤ kj22) ∧ Aside0 (Aa2 w0 w' g s0_0 t185) ∧ Aside0 (Aa3 w w' g none) ∧ Aside0 (Below w0.heap.size w0 w'))
         case atStart => exact ⟨(x10_22), (0), (by first | rfl | (simp; done) | (simp [*]; done)), (by first | rfl | (simp; done) | (simp [*]; done)), H', ⟨Nat.le_refl _⟩, ⟨by repeat (first | (with_reducible first | exact HI0.out | apply Aa2.alloc | apply Aa2.drewN | apply Aa2.drew | apply Aa2.set_1) | exact HI0.out)⟩, ⟨by repeat (first | (with_reducible first | exact HK.out | apply Aa3.set_ | apply Ac0 | apply Ac4 | apply Ac1) | exact HK.out)⟩, ⟨by repeat (first | (with_reducible first | exact HB.out | apply Ab6 | apply Ab1 | apply Ab3 | refine Ac2 ?_ (Aa2.ge HI0.out)) | exact HB.out)⟩⟩
         case round =>
          clear H'
          try clear c1
          try clear p1
          try clear q1
          try clear hx1
          try clear qi1
          try clear c2
          try clear p2
          try clear c3
          try clear c5
          try clear c6
          try clear c6b0
          try clear p6
          try clear c7
          try clear c7b0
          try clear c9
          try clear c16
          try clear c18
          try clear p18
          try clear q18
          try clear hx18
          try clear qi18
          try clear c21
          try clear c21b0
          try clear c21b1
          try clear c25
          try clear c25b0
          try clear c26
          try clear c26b0
          try clear c26b1
          try clear c27
          try clear c27b0
          try clear c28
          try clear c28b0
          try clear c29
          try clear c29b0
          try clear c30
          try clear c30b0
          try clear c30b1
          try clear c30b2
          try clear c32
          try clear c32b0
          try clear hx182_0
          try clear hx183_0
          try clear hx186_0
          try clear hx187_0
          try clear hx188_0
          try clear hx188_1
          try clear p1
          try clear p18
          try clear p182
          try clear p183
          try clear p186
          try clear p187
          try clear p188
          try clear p2
          try clear p6
          try clear q1
          try clear q18
          try clear q182
          try clear q183
          try clear q186
          try clear q187
          try clear q188
          obtain ⟨x10_3, x12_3, rfl, rfl, HA, HK3, HI0, HK, HB⟩ := hrel
          cases gk with
          | zero => exact absurd HA.out (by simp [spec_l3Draw.l1])
          | succ k3 =>
           have H := HA.out
           clear HA
           simp only [spec_l3Draw.l1] at H
           by_cases c33 : x12_3 < (((Ac3 l1 0).f0).length : Int)
           ·rw [if_pos c33] at H
            have c33b0 : decide (x12_3 < (((Ac3 l1 0).f0).length : Int)) = true := decide_eq_true c33
            clear c33
            by_cases c34 : 0 < (l1.length : Int)
            ·rw [if_pos c34] at H
             have c34b0 : decide (0 < (l1.length : Int)) = true := decide_eq_true c34
             have c34b1 : decide (0 < l1.length) = true := decide_eq_true (by omega)
             clear c34
             by_cases c35 : 0 ≤ x10_3
             ·rw [if_pos c35] at H
              have c35b0 : decide (0 ≤ x10_3) = true := decide_eq_true c35
              clear c35
              by_cases c36 : x10_3 < (((Ac3 l1 0).f0).length : Int)
              ·rw [if_pos c36] at H
               have c36b0 : decide (x10_3 < (((Ac3 l1 0).f0).length : Int)) = true := decide_eq_true c36
               clear c36
               by_cases c37 : ((Aa7 ((Ac3 l1 0).f0) x10_3).f1) > 0
               ·rw [if_pos c37] at H
                have c37b0 : decide (0 < ((Aa7 ((Ac3 l1 0).f0) x10_3).f1)) = true := decide_eq_true c37
                clear c37
                by_cases c38 : (((Ac3 l1 0).f0).length : Int) = 0
                ·rw [if_pos c38] at H
                 exact absurd H (by simp)
                ·rw [if_neg c38] at H
                 have c38b0 : ((((Ac3 l1 0).f0).length : Int) == 0) = false := beq_eq_false_iff_ne.mpr c38
                 have c38b1 : ((((Ac3 l1 0).f0).length : Int) != 0) = true := bne_iff_ne.mpr c38
                 have c38b2 : ¬ (((Ac3 l1 0).f0) = []) := fun h_ => c38 (by rw [h_]; rfl)
                 have H' := Aside0.mk H
                 clear H
                 have p189 : 0 ≤ (0 : Int) := (by omega)
                 have q189 : 0 < (l1.length : Int) := of_decide_eq_true (by first | (with_reducible assumption) | assumption)
                 obtain ⟨ad189, A189_0, c189_0, e189, hx189_0, hl189_0, hi189_0⟩ := Af2 (Kd.C_foot_now HR1.out HK.out) 0 p189 q189
                 obtain rfl : ad182 = ad189 := (by injection e189)
                 have qi189 : (0 < l1.length) = True := eq_true (by omega)
                 (try rw [show ((0 : Int)).toNat = 0 from rfl] at hx189_0)
                 (try rw [Addr.add_zero'] at hx189_0)
                 have HR189_0 := Aside0.mk hi189_0
                 have HC189_0 := Aside0.mk hl189_0
                 clear hi189_0 hl189_0
                 replace p189 := eq_true p189
                 replace q189 := eq_true q189
                 have p190 : 0 ≤ (0 : Int) := (by omega)
                 have q190 : 0 < (l1.length : Int) := of_decide_eq_true (by first | (with_reducible assumption) | assumption)
                 obtain ⟨ad190, A190_0, c190_0, e190, hx190_0, hl190_0, hi190_0⟩ := Af2 (Kd.C_foot_now HR1.out HK.out) 0 p190 q190
                 obtain rfl : ad182 = ad190 := (by injection e190)
                 have qi190 : (0 < l1.length) = True := eq_true (by omega)
                 (try rw [show ((0 : Int)).toNat = 0 from rfl] at hx190_0)
                 (try rw [Addr.add_zero'] at hx190_0)
                 have HR190_0 := Aside0.mk hi190_0
                 have HC190_0 := Aside0.mk hl190_0
                 clear hi190_0 hl190_0
                 replace p190 := eq_true p190
                 replace q190 := eq_true q190
                 have ea_ := Option.some.inj (hx189_0.symm.trans hx190_0)
                 injection ea_ with ea_ en_ ec_
                 subst ea_
                 subst ec_
                 clear en_
                 have p191 : 0 ≤ (x10_3 : Int) := of_decide_eq_true (by first | (with_reducible assumption) | assumption)
                 have q191 : x10_3 < (((Ac3 l1 0).f0).length : Int) := of_decide_eq_true (by first | (with_reducible assumption) | assumption)
                 obtain ⟨ad191, e191, hx191_0, hx191_1⟩ := Ae9 (by repeat (first | (with_reducible exact HR190_0.out) | (with_reducible refine Kd.C_alloc ?_ _) | (with_reducible refine Kd.C_drewN ?_ _) | (with_reducible refine Kd.C_drew ?_) | exact HR190_0.out)) x10_3 p191 q191
                 cases e191
                 replace p191 := eq_true p191
                 replace q191 := eq_true q191
                 go_wp2
                 go_roundg k3
                 case measure => have := HJ4.out; have := HJ22.out; have := HK3.out; omega
                 case rel => exact ⟨(Int.tmod (wrap64 (x10_3 + 1)) (((Ac3 l1 0).f0).length : Int)), (wrap64 (x12_3 + 1)), (by first | rfl | (simp; done) | (simp [*]; done)), (by first | rfl | (simp; done) | (simp [*]; done)), H', ⟨by have := HJ4.out; have := HJ22.out; have := HK3.out; omega⟩, ⟨by repeat (first | (with_reducible first | exact HI0.out | apply Aa2.alloc | apply Aa2.drewN | apply Aa2.drew | apply Aa2.set_1) | exact HI0.out)⟩, ⟨by repeat (first | (with_reducible first | exact HK.out | apply Aa3.set_ | apply Ac0 | apply Ac4 | apply Ac1) | exact HK.out)⟩, ⟨by repeat (first | (with_reducible first | exact HB.out | apply Ab6 | apply Ab1 | apply Ab3 | refine Ac2 ?_ (Aa2.ge HI0.out)) | exact HB.out)⟩⟩
               ·rw [if_neg c37] at H
                have c37b0 : decide (0 < ((Aa7 ((Ac3 l1 0).f0) x10_3).f1)) = false := decide_eq_false c37
                clear c37
                have H' := Aside0.mk H
                clear H
                have p189 : 0 ≤ (0 : Int) := (by omega)
                have q189 : 0 < (l1.length : Int) := of_decide_eq_true (by first | (with_reducible assumption) | assumption)
                obtain ⟨ad189, A189_0, c189_0, e189, hx189_0, hl189_0, hi189_0⟩ := Af2 (Kd.C_foot_now HR1.out HK.out) 0 p189 q189
                obtain rfl : ad182 = ad189 := (by injection e189)
                have qi189 : (0 < l1.length) = True := eq_true (by omega)
                (try rw [show ((0 : Int)).toNat = 0 from rfl] at hx189_0)
                (try rw [Addr.add_zero'] at hx189_0)
                have HR189_0 := Aside0.mk hi189_0
                have HC189_0 := Aside0.mk hl189_0
                clear hi189_0 hl189_0
                replace p189 := eq_true p189
                replace q189 := eq_true q189
                have p190 : 0 ≤ (0 : Int) := (by omega)
                have q190 : 0 < (l1.length : Int) := of_decide_eq_true (by first | (with_reducible assumption) | assumption)
                obtain ⟨ad190, A190_0, c190_0, e190, hx190_0, hl190_0, hi190_0⟩ := Af2 (Kd.C_foot_now HR1.out HK.out) 0 p190 q190
                obtain rfl : ad182 = ad190 := (by injection e190)
                have qi190 : (0 < l1.length) = True := eq_true (by omega)
                (try rw [show ((0 : Int)).toNat = 0 from rfl] at hx190_0)
                (try rw [Addr.add_zero'] at hx190_0)
                have HR190_0 := Aside0.mk hi190_0
                have HC190_0 := Aside0.mk hl190_0
                clear hi190_0 hl190_0
                replace p190 := eq_true p190
                replace q190 := eq_true q190
                have ea_ := Option.some.inj (hx189_0.symm.trans hx190_0)
                injection ea_ with ea_ en_ ec_
                subst ea_
                subst ec_
                clear en_
                have p191 : 0 ≤ (x10_3 : Int) := of_decide_eq_true (by first | (with_reducible assumption) | assumption)
                have q191 : x10_3 < (((Ac3 l1 0).f0).length : Int) := of_decide_eq_true (by first | (with_reducible assumption) | assumption)
                obtain ⟨ad191, e191, hx191_0, hx191_1⟩ := Ae9 (by repeat (first | (with_reducible exact HR190_0.out) | (with_reducible refine Kd.C_alloc ?_ _) | (with_reducible refine Kd.C_drewN ?_ _) | (with_reducible refine Kd.C_drew ?_) | exact HR190_0.out)) x10_3 p191 q191
                cases e191
                replace p191 := eq_true p191
                replace q191 := eq_true q191
                go_wp2
                go_meet
                case rel => exact ⟨_, (x10_3), (by first | rfl | (simp; done) | (simp [*]; done)), H', ⟨by have := HJ4.out; have := HJ22.out; have := HK3.out; first | omega | exact Nat.le_refl _⟩, ⟨by repeat (first | (with_reducible first | exact HI0.out | apply Aa2.alloc | apply Aa2.drewN | apply Aa2.drew | apply Aa2.set_1) | exact HI0.out)⟩, ⟨by repeat (first | (with_reducible first | exact HK.out | apply Aa3.set_ | apply Ac0 | apply Ac4 | apply Ac1) | exact HK.out)⟩, ⟨by repeat (first | (with_reducible first | exact HB.out | apply Ab6 | apply Ab1 | apply Ab3 | refine Ac2 ?_ (Aa2.ge HI0.out)) | exact HB.out)⟩⟩
              ·rw [if_neg c36] at H
               exact absurd H (by simp)
             ·rw [if_neg c35] at H
              exact absurd H (by simp)
            ·rw [if_neg c34] at H
             exact absurd H (by simp)
           ·rw [if_neg c33] at H
            have c33b0 : decide (x12_3 < (((Ac3 l1 0).f0).length : Int)) = false := decide_eq_false c33
            clear c33
            have H' := Aside0.mk H
            clear H
            go_wp2
            go_meet
            case rel => exact ⟨_, (x10_3), (by first | rfl | (simp; done) | (simp [*]; done)), H', ⟨by have := HJ4.out; have := HJ22.out; have := HK3.out; first | omega | exact Nat.le_refl _⟩, ⟨by repeat (first | (with_reducible first | exact HI0.out | apply Aa2.alloc | apply Aa2.drewN | apply Aa2.drew | apply Aa2.set_1) | exact HI0.out)⟩, ⟨by repeat (first | (with_reducible first | exact HK.out | apply Aa3.set_ | apply Ac0 | apply Ac4 | apply Ac1) | exact HK.out)⟩, ⟨by repeat (first | (with_reducible first | exact HB.out | apply Ab6 | apply Ab1 | apply Ab3 | refine Ac2 ?_ (Aa2.ge HI0.out)) | exact HB.out)⟩⟩
        ·rw [if_neg c32] at H
         have c32b0 : decide (a2 < 2) = false := decide_eq_false c32
         clear c32
         (first | rw [c32b0] | (simp only [Ag7, Ah2]; rw [c32b0]) | skip)
         have H' := Aside0.mk H
         clear H
         go_wp2
         go_meet
         case rel => exact ⟨_, (x10_22), (by first | rfl | (simp; done) | (simp [*]; done)), H', ⟨by have := HJ4.out; have := HJ22.out; first | omega | exact Nat.le_refl _⟩, ⟨by repeat (first | (with_reducible first | exact HI0.out | apply Aa2.alloc | apply Aa2.drewN | apply Aa2.drew | apply Aa2.set_1) | exact HI0.out)⟩, ⟨by repeat (first | (with_reducible first | exact HK.out | apply Aa3.set_ | apply Ac0 | apply Ac4 | apply Ac1) | exact HK.out)⟩, ⟨by repeat (first | (with_reducible first | exact HB.out | apply Ab6 | apply Ab1 | apply Ab3 | refine Ac2 ?_ (Aa2.ge HI0.out)) | exact HB.out)⟩⟩
       case rest =>
        clear HC31
        try clear c1
        try clear p1
        try clear q1
        try clear hx1
        try clear qi1
        try clear c2
        try clear p2
        try clear c3
        try clear c5
        try clear c6
        try clear c6b0
        try clear p6
        try clear c7
        try clear c7b0
        try clear c9
        try clear c16
        try clear c18
        try clear p18
        try clear q18
        try clear hx18
        try clear qi18
        try clear c19
        try clear p19
        try clear q19
        try clear hx19
        try clear qi19
        try clear c21
        try clear c21b0
        try clear c21b1
        try clear c25
        try clear c25b0
        try clear c26
        try clear c26b0
        try clear c26b1
        try clear c27
        try clear c27b0
        try clear c28
        try clear c28b0
        try clear c29
        try clear c29b0
        try clear c30
        try clear c30b0
        try clear c30b1
        try clear c30b2
        try clear c32
        try clear c32b0
        try clear c33
        try clear c33b0
        try clear c34
        try clear c34b0
        try clear c34b1
        try clear c35
        try clear c35b0
        try clear c36
        try clear c36b0
        try clear c37
        try clear c37b0
        try clear c38
        try clear c38b0
        try clear c38b1
        try clear c38b2
        try clear hx182_0
        try clear hx183_0
        try clear hx186_0
        try clear hx187_0
        try clear hx188_0
        try clear hx188_1
        try clear hx189_0
        try clear hx190_0
        try clear hx191_0
        try clear hx191_1
        try clear p1
        try clear p18
        try clear p182
        try clear p183
        try clear p186
        try clear p187
        try clear p188
        try clear p189
        try clear p190
        try clear p191
        try clear p2
        try clear p6
        try clear q1
        try clear q18
        try clear q182
        try clear q183
        try clear q186
        try clear q187
        try clear q188
        try clear q189
        try clear q190
        try clear q191
        obtain ⟨kq, x10_30, rfl, HA, HJ30, HI0, HK, HB⟩ := hcut
        cases kq with
        | zero => exact absurd HA.out (by simp [spec_l3Draw.j4])
        | succ kj30 =>
         have H := HA.out
         clear HA
         simp only [spec_l3Draw.j4] at H
         obtain ⟨y192, hy192⟩ : ∃ y_ : List Int, y_ = (([x10_30] : List Int)) := ⟨_, rfl⟩
         replace H : (if 0 < (l1.length : Int) then (if 0 ≤ x10_30 then (if x10_30 < (((Ac3 l1 0).f0).length : Int) then (if ((Aa7 ((Ac3 l1 0).f0) x10_30).f1) = 1 then ((spec_l3Draw.f kj30 s0_0 t185 l1 (wrap64 (a2 - 1)) a3).bind fun bt198 => (if y192.length + bt198.1.length < 17592186044416 then (some ((y192 ++ bt198.1), bt198.2)) else (none))) else (if ((Aa7 ((Ac3 l1 0).f0) x10_30).f1) = 2 then ((spec_l3Draw.f kj30 s0_0 t185 l1 (wrap64 (a2 - 2)) a3).bind fun bt205 => (if y192.length + bt205.1.length < 17592186044416 then ((some (y192 ++ bt205.1 : List Int)).bind fun y209 => ((spec_l3Draw.f kj30 s0_0 bt205.2 l1 (wrap64 ((wrap64 (a2 - 1)) - (bt205.1.length : Int))) a3).bind fun bt212 => (if y209.length + bt212.1.length < 17592186044416 then (some ((y209 ++ bt212.1), bt212.2)) else (none)))) else (none))) else (some (y192, t185)))) else (none)) else (none)) else (none)) = some (r1, r2) := by first | (rw [hy192]; with_reducible exact H) | (have H2_ := (Option.bind_some _ _).symm.trans H; rw [hy192]; with_reducible exact H2_) | (have H2_ := (Option.bind_some _ _).symm.trans H; with_reducible exact H2_) | with_reducible exact H | (rw [hy192]; exact H) | exact H
         have Ny192 := Aside0.mk hy192
         clear hy192
         by_cases c39 : 0 < (l1.length : Int)
         ·rw [if_pos c39] at H
          have c39b0 : decide (0 < (l1.length : Int)) = true := decide_eq_true c39
          have c39b1 : decide (0 < l1.length) = true := decide_eq_true (by omega)
          clear c39
          by_cases c40 : 0 ≤ x10_30
          ·rw [if_pos c40] at H
           have c40b0 : decide (0 ≤ x10_30) = true := decide_eq_true c40
           clear c40
           by_cases c41 : x10_30 < (((Ac3 l1 0).f0).length : Int)
           ·rw [if_pos c41] at H
            have c41b0 : decide (x10_30 < (((Ac3 l1 0).f0).length : Int)) = true := decide_eq_true c41
            clear c41
            by_cases c42 : ((Aa7 ((Ac3 l1 0).f0) x10_30).f1) = 1
            ·rw [if_pos c42] at H
             have c42b0 : (((Aa7 ((Ac3 l1 0).f0) x10_30).f1) == 1) = true := beq_iff_eq.mpr c42
             have c42b1 : (((Aa7 ((Ac3 l1 0).f0) x10_30).f1) != 1) = false := bne_eq_false_iff_eq.mpr c42
             clear c42
             replace H := Option.bind_eq_some_iff.mp H
             obtain ⟨⟨t198, t201⟩, A430, H⟩ := H
             replace H : (if y192.length + t198.length < 17592186044416 then (some ((y192 ++ t198), t201)) else (none)) = some (r1, r2) := H
             have A43 := Aside0.mk A430
             clear A430
             by_cases c44 : y192.length + t198.length < 17592186044416
             ·rw [if_pos c44] at H
              have LMc44 := Aside0.mk c44
              clear c44
              obtain ⟨y202, hy202⟩ : ∃ y_ : List Int, y_ = (y192 ++ t198) := ⟨_, rfl⟩
              replace H : (some (y202, t201)) = some (r1, r2) := by first | (rw [hy202]; with_reducible exact H) | (have H2_ := (Option.bind_some _ _).symm.trans H; rw [hy202]; with_reducible exact H2_) | (have H2_ := (Option.bind_some _ _).symm.trans H; with_reducible exact H2_) | with_reducible exact H | (rw [hy202]; exact H) | exact H
              have Ny202 := Aside0.mk hy202
              clear hy202
              simp only [Option.some.injEq, Prod.mk.injEq] at H
              obtain ⟨rfl, rfl⟩ := H
              go_wp2_with (first | ((with_reducible refine Ad2 (N := 86) rfl ?_); refine Kd.R_lit (Kd.int .i64) _ 2 ?hg (N := 86) ?hd (xs := ([x10_30] : List Int)) (inner := [.int .i64 x10_30]) (ok := fun _ => True) (okp := fun _ => True) ?hr ?hp (fun _ hk => hk) trivial (Below.refl _ _) (Nat.le_refl _) (by simp) ?_; (case hd => rfl); (case hg => rfl); (case hr => first | (go_simp; done) | (go_simp; rfl)); (case hp => exact (Ad5.one (show Kd.M (Kd.int .i64) _ _ _ x10_30 [.int .i64 x10_30] from rfl) (Ad5.none _ _))); intro v193 w45 ho46 hb hg_ hnew_; clear hg_ hnew_; (first | rw [← Ny192.out] at ho46 | (simp only [Int.reduceToNat] at ho46; rw [← Ny192.out] at ho46)); have n0_ := Aside0.mk (Kd.R_lower ho46 (Ab7 (w := w) (g := g) (row := none) (by repeat (first | (with_reducible first | exact HK.out | apply Aa3.set_ | apply Ac0 | apply Ac4 | apply Ac1) | exact HK.out)))); have n1_ := Aside0.mk (Aa2.below (by repeat (first | (with_reducible first | exact HI0.out | apply Aa2.alloc | apply Aa2.drewN | apply Aa2.drew | apply Aa2.set_1) | exact HI0.out)) hb); have n2_ := Aside0.mk (Aa3.trans (by repeat (first | (with_reducible first | exact HK.out | apply Aa3.set_ | apply Ac0 | apply Ac4 | apply Ac1) | exact HK.out)) (Aa3.of_below hb g none) (.inl rfl)); have n3_ := Aside0.mk (Ab8 (by repeat (first | (with_reducible first | exact HB.out | apply Ab6 | apply Ab1 | apply Ab3 | refine Ac2 ?_ (Aa2.ge HI0.out)) | exact HB.out)) hb); clear HI0; clear HK; clear HB; have HO194 := n0_; have HI0 := n1_; have HK := n2_; have HB := n3_; clear n0_ n1_ n2_ n3_; clear hb ho46; have p195 : 0 ≤ (0 : Int) := (by omega); have q195 : 0 < (l1.length : Int) := of_decide_eq_true (by first | (with_reducible assumption) | assumption); obtain ⟨ad195, A195_0, c195_0, e195, hx195_0, hl195_0, hi195_0⟩ := Af2 (Kd.C_foot_now HR1.out HK.out) 0 p195 q195; obtain rfl : ad182 = ad195 := (by injection e195); have qi195 : (0 < l1.length) = True := eq_true (by omega); (try rw [show ((0 : Int)).toNat = 0 from rfl] at hx195_0); (try rw [Addr.add_zero'] at hx195_0); have HR195_0 := Aside0.mk hi195_0; have HC195_0 := Aside0.mk hl195_0; clear hi195_0 hl195_0; replace p195 := eq_true p195; replace q195 := eq_true q195; have p196 : 0 ≤ (0 : Int) := (by omega); have q196 : 0 < (l1.length : Int) := of_decide_eq_true (by first | (with_reducible assumption) | assumption); obtain ⟨ad196, A196_0, c196_0, e196, hx196_0, hl196_0, hi196_0⟩ := Af2 (Kd.C_foot_now HR1.out HK.out) 0 p196 q196; obtain rfl : ad182 = ad196 := (by injection e196); have qi196 : (0 < l1.length) = True := eq_true (by omega); (try rw [show ((0 : Int)).toNat = 0 from rfl] at hx196_0); (try rw [Addr.add_zero'] at hx196_0); have HR196_0 := Aside0.mk hi196_0; have HC196_0 := Aside0.mk hl196_0; clear hi196_0 hl196_0; replace p196 := eq_true p196; replace q196 := eq_true q196; have ea_ := Option.some.inj (hx195_0.symm.trans hx196_0); injection ea_ with ea_ en_ ec_; subst ea_; subst ec_; clear en_; have p197 : 0 ≤ (x10_30 : Int) := of_decide_eq_true (by first | (with_reducible assumption) | assumption); have q197 : x10_30 < (((Ac3 l1 0).f0).length : Int) := of_decide_eq_true (by first | (with_reducible assumption) | assumption); obtain ⟨ad197, e197, hx197_0, hx197_1⟩ := Ae9 (by repeat (first | (with_reducible exact HR196_0.out) | (with_reducible refine Kd.C_alloc ?_ _) | (with_reducible refine Kd.C_drewN ?_ _) | (with_reducible refine Kd.C_drew ?_) | exact HR196_0.out)) x10_30 p197 q197; cases e197; replace p197 := eq_true p197; replace q197 := eq_true q197) | ((with_reducible refine Ak9 (f := 57) rfl ?_); refine Ar9 (some 103) rfl rfl Tryz.func57 (by kernel_rfl) rfl #[.pointer (some ⟨g, 0, none⟩), .pointer (some ad182), .int .i64 (wrap64 (a2 - 1)), .int .i64 a3] rfl (by (try simp only [List.map_toArray, List.map_cons, List.map_nil]); first | done | rfl | (simp only [List.length_drop, List.length_take]; rfl)) ?_; (with_reducible refine (ih kj30 (by have := HJ4.out; have := HJ22.out; have := HJ30.out; omega) g s0_0 t185 _ l1 (wrap64 (a2 - 1)) a3 t198 t201 w0 _ ?side1 ?side2 ?side3 A43.out).mono ?_); (case side1 => repeat (first | (with_reducible first | exact HI0.out | apply Aa2.alloc | apply Aa2.drewN | apply Aa2.drew | apply Aa2.set_1) | exact HI0.out)); (case side2 => repeat (first | (with_reducible first | exact HB.out | apply Ab6 | apply Ab1 | apply Ab3 | refine Ac2 ?_ (Aa2.ge HI0.out)) | exact HB.out)); (case side3 => exact Kd.C_foot_step HR1.out (by repeat (first | (with_reducible first | exact HK.out | apply Aa3.set_ | apply Ac0 | apply Ac4 | apply Ac1) | exact HK.out))); rintro e w47 ⟨v199, rfl, ho0, hi, hb, hk⟩; refine ⟨_, rfl, ?_⟩; have n0_ := Aside0.mk (Kd.R_mono (Kd.R_told (Kd.R_oldK (Aa2.apart (show Aa2 w0 _ g s0_0 t185 from by repeat (first | (with_reducible first | exact HI0.out | apply Aa2.alloc | apply Aa2.drewN | apply Aa2.drew | apply Aa2.set_1) | exact HI0.out)) (by (with_reducible repeat (first | apply Kd.R_alloc | apply Kd.R_drewN | apply Kd.R_drew)); exact HO194.out) (by decide)) hk) (Kd.R_base ho0)) (fun _ h_ => h_.1)); have n1_ := Aside0.mk (Kd.R_lower (Kd.R_new' ho0 (Kd.R_lt (by (with_reducible repeat (first | apply Kd.R_alloc | apply Kd.R_drewN | apply Kd.R_drew)); exact HO194.out))) (Ab7 (w := w) (g := g) (row := none) (by repeat (first | (with_reducible first | exact HK.out | apply Aa3.set_ | apply Ac0 | apply Ac4 | apply Ac1) | exact HK.out)))); have n2_ := Aside0.mk (Aa3.trans (by repeat (first | (with_reducible first | exact HK.out | apply Aa3.set_ | apply Ac0 | apply Ac4 | apply Ac1) | exact HK.out)) hk (.inl rfl)); have n3_ := Aside0.mk (hb); have n4_ := Aside0.mk (hi); clear HO194; clear HK; clear HB; clear HI0; have HO194 := n0_; have HO200 := n1_; have HK := n2_; have HB := n3_; have HI0 := n4_; clear n0_ n1_ n2_ n3_ n4_; (try clear hb); (try clear hb2); (try clear hgw); (try clear hk); (try clear hi); (try clear ho0); obtain ⟨Ao49, co49, eo49⟩ := Kd.R_slice HO200.out; subst eo49) | ((with_reducible refine Ae8 (b := .append) (xs := #[.tmp 97, .tmp 103]) rfl ?_); at_builtin; refine Kd.R_append_rows (Kd.int .i64) w.heap.size rfl (.tmp 97) (.tmp 103) 27 2 (.int .i64 0) 8 rfl Tryz.underlying27 An3 rfl (by decide) (by omega) v193 y192 t198 _ _ _ (fun k_ => some k_ ≠ (.slice Ao49 t198.length co49 : Value).ownBlock) (fun _ => False) rfl rfl ?aO ?aR (fun _ _ h => h) (fun _ h => h.elim) ?aF (Below.refl _ _) ?aS ?aL ?_; (case aR => repeat (first | exact (Kd.R_reads' HO200.out).2.2 | (with_reducible refine Kd.C_alloc ?_ _) | (with_reducible refine Kd.C_drewN ?_ _) | (with_reducible refine Kd.C_drew ?_))); (case aF => exact (fun k_ hk => Kd.fresh' (Kd.R_lt (by (with_reducible repeat (first | apply Kd.R_alloc | apply Kd.R_drewN | apply Kd.R_drew)); exact HO200.out)) k_ hk)); (case aO => exact (by (with_reducible repeat (first | apply Kd.R_alloc | apply Kd.R_drewN | apply Kd.R_drew)); exact Kd.R_mono HO194.out (fun _ hk => hk.2))); (case aS => exact (Ab7 (w := w) (g := g) (row := none) (by repeat (first | (with_reducible first | exact HK.out | apply Aa3.set_ | apply Ac0 | apply Ac4 | apply Ac1) | exact HK.out)))); (case aL => have := LMc44.out; omega); intro v203 w48 ho hb hg hat; rw [← Ny202.out] at ho; have n0_ := Aside0.mk (Aa2.grown (by repeat (first | (with_reducible first | exact HI0.out | apply Aa2.alloc | apply Aa2.drewN | apply Aa2.drew | apply Aa2.set_1) | exact HI0.out)) hg (Aa2.own_ne HI0.out HO194.out (by decide))); have n1_ := Aside0.mk (Kd.R_after (ok := (fun _ => True)) (by (with_reducible repeat (first | apply Kd.R_alloc | apply Kd.R_drewN | apply Kd.R_drew)); exact HO200.out) hg hat); have n2_ := Aside0.mk (Ah7 (by repeat (first | (with_reducible first | exact HB.out | apply Ab6 | apply Ab1 | apply Ab3 | refine Ac2 ?_ (Aa2.ge HI0.out)) | exact HB.out)) HL.out hb); have n3_ := Aside0.mk (Aa3.trans (by repeat (first | (with_reducible first | exact HK.out | apply Aa3.set_ | apply Ac0 | apply Ac4 | apply Ac1) | exact HK.out)) (Aa3.of_grown hg g) (Kd.R_base2 HO194.out)); have n4_ := Aside0.mk (ho); clear HI0; clear HO200; clear HB; clear HK; clear HO194; have HI0 := n0_; have HO200 := n1_; have HB := n2_; have HK := n3_; have HO204 := n4_; clear n0_ n1_ n2_ n3_ n4_; clear ho hb hg hat))
              go_ret
              exact ⟨_, by first | rfl | (simp [Ad4, Ad3] <;> rfl) | (simp [*, Ad4, Ad3] <;> rfl), by (with_reducible repeat (first | apply Kd.R_alloc | apply Kd.R_drewN | apply Kd.R_drew)); exact Kd.R_mono HO204.out (fun _ hk => trivial), by repeat (first | (with_reducible first | exact HI0.out | apply Aa2.alloc | apply Aa2.drewN | apply Aa2.drew | apply Aa2.set_1) | exact HI0.out), by repeat (first | (with_reducible first | exact HB.out | apply Ab6 | apply Ab1 | apply Ab3 | refine Ac2 ?_ (Aa2.ge HI0.out)) | exact HB.out), by repeat (first | (with_reducible first | exact HK.out | apply Aa3.set_ | apply Ac0 | apply Ac4 | apply Ac1) | exact HK.out)⟩
             ·rw [if_neg c44] at H
              exact absurd H (by simp)
            ·rw [if_neg c42] at H
             have c42b0 : (((Aa7 ((Ac3 l1 0).f0) x10_30).f1) == 1) = false := beq_eq_false_iff_ne.mpr c42
             have c42b1 : (((Aa7 ((Ac3 l1 0).f0) x10_30).f1) != 1) = true := bne_iff_ne.mpr c42
             by_cases c50 : ((Aa7 ((Ac3 l1 0).f0) x10_30).f1) = 2
             ·rw [if_pos c50] at H
              have c50b0 : (((Aa7 ((Ac3 l1 0).f0) x10_30).f1) == 2) = true := beq_iff_eq.mpr c50
              have c50b1 : (((Aa7 ((Ac3 l1 0).f0) x10_30).f1) != 2) = false := bne_eq_false_iff_eq.mpr c50
              clear c50
              replace H := Option.bind_eq_some_iff.mp H
              obtain ⟨⟨t205, t208⟩, A510, H⟩ := H
              replace H : (if y192.length + t205.length < 17592186044416 then ((some (y192 ++ t205 : List Int)).bind fun y209 => ((spec_l3Draw.f kj30 s0_0 t208 l1 (wrap64 ((wrap64 (a2 - 1)) - (t205.length : Int))) a3).bind fun bt212 => (if y209.length + bt212.1.length < 17592186044416 then (some ((y209 ++ bt212.1), bt212.2)) else (none)))) else (none)) = some (r1, r2) := H
              have A51 := Aside0.mk A510
              clear A510
              by_cases c52 : y192.length + t205.length < 17592186044416
              ·rw [if_pos c52] at H
               have LMc52 := Aside0.mk c52
               clear c52
               obtain ⟨y209, hy209⟩ : ∃ y_ : List Int, y_ = (y192 ++ t205) := ⟨_, rfl⟩
               replace H : ((spec_l3Draw.f kj30 s0_0 t208 l1 (wrap64 ((wrap64 (a2 - 1)) - (t205.length : Int))) a3).bind fun bt212 => (if y209.length + bt212.1.length < 17592186044416 then (some ((y209 ++ bt212.1), bt212.2)) else (none))) = some (r1, r2) := by first | (rw [hy209]; with_reducible exact H) | (have H2_ := (Option.bind_some _ _).symm.trans H; rw [hy209]; with_reducible exact H2_) | (have H2_ := (Option.bind_some _ _).symm.trans H; with_reducible exact H2_) | with_reducible exact H | (rw [hy209]; exact H) | exact H
               have Ny209 := Aside0.mk hy209
               clear hy209
               replace H := Option.bind_eq_some_iff.mp H
               obtain ⟨⟨t212, t215⟩, A530, H⟩ := H
               replace H : (if y209.length + t212.length < 17592186044416 then (some ((y209 ++ t212), t215)) else (none)) = some (r1, r2) := H
               have A53 := Aside0.mk A530
               clear A530
               by_cases c54 : y209.length + t212.length < 17592186044416
               ·rw [if_pos c54] at H
                have LMc54 := Aside0.mk c54
                clear c54
                obtain ⟨y216, hy216⟩ : ∃ y_ : List Int, y_ = (y209 ++ t212) := ⟨_, rfl⟩
                replace H : (some (y216, t215)) = some (r1, r2) := by first | (rw [hy216]; with_reducible exact H) | (have H2_ := (Option.bind_some _ _).symm.trans H; rw [hy216]; with_reducible exact H2_) | (have H2_ := (Option.bind_some _ _).symm.trans H; with_reducible exact H2_) | with_reducible exact H | (rw [hy216]; exact H) | exact H
                have Ny216 := Aside0.mk hy216
                clear hy216
                simp only [Option.some.injEq, Prod.mk.injEq] at H
                obtain ⟨rfl, rfl⟩ := H
                go_wp2_with (first | ((with_reducible refine Ad2 (N := 86) rfl ?_); refine Kd.R_lit (Kd.int .i64) _ 2 ?hg (N := 86) ?hd (xs := ([x10_30] : List Int)) (inner := [.int .i64 x10_30]) (ok := fun _ => True) (okp := fun _ => True) ?hr ?hp (fun _ hk => hk) trivial (Below.refl _ _) (Nat.le_refl _) (by simp) ?_; (case hd => rfl); (case hg => rfl); (case hr => first | (go_simp; done) | (go_simp; rfl)); (case hp => exact (Ad5.one (show Kd.M (Kd.int .i64) _ _ _ x10_30 [.int .i64 x10_30] from rfl) (Ad5.none _ _))); intro v193 w55 ho56 hb hg_ hnew_; clear hg_ hnew_; (first | rw [← Ny192.out] at ho56 | (simp only [Int.reduceToNat] at ho56; rw [← Ny192.out] at ho56)); have n0_ := Aside0.mk (Kd.R_lower ho56 (Ab7 (w := w) (g := g) (row := none) (by repeat (first | (with_reducible first | exact HK.out | apply Aa3.set_ | apply Ac0 | apply Ac4 | apply Ac1) | exact HK.out)))); have n1_ := Aside0.mk (Aa2.below (by repeat (first | (with_reducible first | exact HI0.out | apply Aa2.alloc | apply Aa2.drewN | apply Aa2.drew | apply Aa2.set_1) | exact HI0.out)) hb); have n2_ := Aside0.mk (Aa3.trans (by repeat (first | (with_reducible first | exact HK.out | apply Aa3.set_ | apply Ac0 | apply Ac4 | apply Ac1) | exact HK.out)) (Aa3.of_below hb g none) (.inl rfl)); have n3_ := Aside0.mk (Ab8 (by repeat (first | (with_reducible first | exact HB.out | apply Ab6 | apply Ab1 | apply Ab3 | refine Ac2 ?_ (Aa2.ge HI0.out)) | exact HB.out)) hb); clear HI0; clear HK; clear HB; have HO194 := n0_; have HI0 := n1_; have HK := n2_; have HB := n3_; clear n0_ n1_ n2_ n3_; clear hb ho56; have p195 : 0 ≤ (0 : Int) := (by omega); have q195 : 0 < (l1.length : Int) := of_decide_eq_true (by first | (with_reducible assumption) | assumption); obtain ⟨ad195, A195_0, c195_0, e195, hx195_0, hl195_0, hi195_0⟩ := Af2 (Kd.C_foot_now HR1.out HK.out) 0 p195 q195; obtain rfl : ad182 = ad195 := (by injection e195); have qi195 : (0 < l1.length) = True := eq_true (by omega); (try rw [show ((0 : Int)).toNat = 0 from rfl] at hx195_0); (try rw [Addr.add_zero'] at hx195_0); have HR195_0 := Aside0.mk hi195_0; have HC195_0 := Aside0.mk hl195_0; clear hi195_0 hl195_0; replace p195 := eq_true p195; replace q195 := eq_true q195; have p196 : 0 ≤ (0 : Int) := (by omega); have q196 : 0 < (l1.length : Int) := of_decide_eq_true (by first | (with_reducible assumption) | assumption); obtain ⟨ad196, A196_0, c196_0, e196, hx196_0, hl196_0, hi196_0⟩ := Af2 (Kd.C_foot_now HR1.out HK.out) 0 p196 q196; obtain rfl : ad182 = ad196 := (by injection e196); have qi196 : (0 < l1.length) = True := eq_true (by omega); (try rw [show ((0 : Int)).toNat = 0 from rfl] at hx196_0); (try rw [Addr.add_zero'] at hx196_0); have HR196_0 := Aside0.mk hi196_0; have HC196_0 := Aside0.mk hl196_0; clear hi196_0 hl196_0; replace p196 := eq_true p196; replace q196 := eq_true q196; have ea_ := Option.some.inj (hx195_0.symm.trans hx196_0); injection ea_ with ea_ en_ ec_; subst ea_; subst ec_; clear en_; have p197 : 0 ≤ (x10_30 : Int) := of_decide_eq_true (by first | (with_reducible assumption) | assumption); have q197 : x10_30 < (((Ac3 l1 0).f0).length : Int) := of_decide_eq_true (by first | (with_reducible assumption) | assumption); obtain ⟨ad197, e197, hx197_0, hx197_1⟩ := Ae9 (by repeat (first | (with_reducible exact HR196_0.out) | (with_reducible refine Kd.C_alloc ?_ _) | (with_reducible refine Kd.C_drewN ?_ _) | (with_reducible refine Kd.C_drew ?_) | exact HR196_0.out)) x10_30 p197 q197; cases e197; replace p197 := eq_true p197; replace q197 := eq_true q197) | ((with_reducible refine Ak9 (f := 57) rfl ?_); refine Ar9 (some 112) rfl rfl Tryz.func57 (by kernel_rfl) rfl #[.pointer (some ⟨g, 0, none⟩), .pointer (some ad182), .int .i64 (wrap64 (a2 - 2)), .int .i64 a3] rfl (by (try simp only [List.map_toArray, List.map_cons, List.map_nil]); first | done | rfl | (simp only [List.length_drop, List.length_take]; rfl)) ?_; (with_reducible refine (ih kj30 (by have := HJ4.out; have := HJ22.out; have := HJ30.out; omega) g s0_0 t185 _ l1 (wrap64 (a2 - 2)) a3 t205 t208 w0 _ ?side1 ?side2 ?side3 A51.out).mono ?_); (case side1 => repeat (first | (with_reducible first | exact HI0.out | apply Aa2.alloc | apply Aa2.drewN | apply Aa2.drew | apply Aa2.set_1) | exact HI0.out)); (case side2 => repeat (first | (with_reducible first | exact HB.out | apply Ab6 | apply Ab1 | apply Ab3 | refine Ac2 ?_ (Aa2.ge HI0.out)) | exact HB.out)); (case side3 => exact Kd.C_foot_step HR1.out (by repeat (first | (with_reducible first | exact HK.out | apply Aa3.set_ | apply Ac0 | apply Ac4 | apply Ac1) | exact HK.out))); rintro e w57 ⟨v206, rfl, ho0, hi, hb, hk⟩; refine ⟨_, rfl, ?_⟩; have n0_ := Aside0.mk (Kd.R_mono (Kd.R_told (Kd.R_oldK (Aa2.apart (show Aa2 w0 _ g s0_0 t185 from by repeat (first | (with_reducible first | exact HI0.out | apply Aa2.alloc | apply Aa2.drewN | apply Aa2.drew | apply Aa2.set_1) | exact HI0.out)) (by (with_reducible repeat (first | apply Kd.R_alloc | apply Kd.R_drewN | apply Kd.R_drew)); exact HO194.out) (by decide)) hk) (Kd.R_base ho0)) (fun _ h_ => h_.1)); have n1_ := Aside0.mk (Kd.R_lower (Kd.R_new' ho0 (Kd.R_lt (by (with_reducible repeat (first | apply Kd.R_alloc | apply Kd.R_drewN | apply Kd.R_drew)); exact HO194.out))) (Ab7 (w := w) (g := g) (row := none) (by repeat (first | (with_reducible first | exact HK.out | apply Aa3.set_ | apply Ac0 | apply Ac4 | apply Ac1) | exact HK.out)))); have n2_ := Aside0.mk (Aa3.trans (by repeat (first | (with_reducible first | exact HK.out | apply Aa3.set_ | apply Ac0 | apply Ac4 | apply Ac1) | exact HK.out)) hk (.inl rfl)); have n3_ := Aside0.mk (hb); have n4_ := Aside0.mk (hi); clear HO194; clear HK; clear HB; clear HI0; have HO194 := n0_; have HO207 := n1_; have HK := n2_; have HB := n3_; have HI0 := n4_; clear n0_ n1_ n2_ n3_ n4_; (try clear hb); (try clear hb2); (try clear hgw); (try clear hk); (try clear hi); (try clear ho0); obtain ⟨Ao59, co59, eo59⟩ := Kd.R_slice HO207.out; subst eo59) | ((with_reducible refine Ae8 (b := .append) (xs := #[.tmp 113, .tmp 114]) rfl ?_); at_builtin; refine Kd.R_append_rows (Kd.int .i64) w.heap.size rfl (.tmp 113) (.tmp 114) 27 2 (.int .i64 0) 8 rfl Tryz.underlying27 An3 rfl (by decide) (by omega) v193 y192 t205 _ _ _ (fun k_ => some k_ ≠ (.slice Ao59 t205.length co59 : Value).ownBlock) (fun _ => False) rfl rfl ?aO ?aR (fun _ _ h => h) (fun _ h => h.elim) ?aF (Below.refl _ _) ?aS ?aL ?_; (case aR => repeat (first | exact (Kd.R_reads' HO207.out).2.2 | (with_reducible refine Kd.C_alloc ?_ _) | (with_reducible refine Kd.C_drewN ?_ _) | (with_reducible refine Kd.C_drew ?_))); (case aF => exact (fun k_ hk => Kd.fresh' (Kd.R_lt (by (with_reducible repeat (first | apply Kd.R_alloc | apply Kd.R_drewN | apply Kd.R_drew)); exact HO207.out)) k_ hk)); (case aO => exact (by (with_reducible repeat (first | apply Kd.R_alloc | apply Kd.R_drewN | apply Kd.R_drew)); exact Kd.R_mono HO194.out (fun _ hk => hk.2))); (case aS => exact (Ab7 (w := w) (g := g) (row := none) (by repeat (first | (with_reducible first | exact HK.out | apply Aa3.set_ | apply Ac0 | apply Ac4 | apply Ac1) | exact HK.out)))); (case aL => have := LMc52.out; omega); intro v210 w58 ho hb hg hat; rw [← Ny209.out] at ho; have n0_ := Aside0.mk (Aa2.grown (by repeat (first | (with_reducible first | exact HI0.out | apply Aa2.alloc | apply Aa2.drewN | apply Aa2.drew | apply Aa2.set_1) | exact HI0.out)) hg (Aa2.own_ne HI0.out HO194.out (by decide))); have n1_ := Aside0.mk (Kd.R_after (ok := (fun _ => True)) (by (with_reducible repeat (first | apply Kd.R_alloc | apply Kd.R_drewN | apply Kd.R_drew)); exact HO207.out) hg hat); have n2_ := Aside0.mk (Ah7 (by repeat (first | (with_reducible first | exact HB.out | apply Ab6 | apply Ab1 | apply Ab3 | refine Ac2 ?_ (Aa2.ge HI0.out)) | exact HB.out)) HL.out hb); have n3_ := Aside0.mk (Aa3.trans (by repeat (first | (with_reducible first | exact HK.out | apply Aa3.set_ | apply Ac0 | apply Ac4 | apply Ac1) | exact HK.out)) (Aa3.of_grown hg g) (Kd.R_base2 HO194.out)); have n4_ := Aside0.mk (ho); clear HI0; clear HO207; clear HB; clear HK; clear HO194; have HI0 := n0_; have HO207 := n1_; have HB := n2_; have HK := n3_; have HO211 := n4_; clear n0_ n1_ n2_ n3_ n4_; clear ho hb hg hat) | ((with_reducible refine Ak9 (f := 57) rfl ?_); refine Ar9 (some 125) rfl rfl Tryz.func57 (by kernel_rfl) rfl #[.pointer (some ⟨g, 0, none⟩), .pointer (some ad182), .int .i64 (wrap64 ((wrap64 (a2 - 1)) - (t205.length : Int))), .int .i64 a3] rfl (by (try simp only [List.map_toArray, List.map_cons, List.map_nil]); first | done | rfl | (simp only [List.length_drop, List.length_take]; rfl)) ?_; (with_reducible refine (ih kj30 (by have := HJ4.out; have := HJ22.out; have := HJ30.out; omega) g s0_0 t208 _ l1 (wrap64 ((wrap64 (a2 - 1)) - (t205.length : Int))) a3 t212 t215 w0 _ ?side1 ?side2 ?side3 A53.out).mono ?_); (case side1 => repeat (first | (with_reducible first | exact HI0.out | apply Aa2.alloc | apply Aa2.drewN | apply Aa2.drew | apply Aa2.set_1) | exact HI0.out)); (case side2 => repeat (first | (with_reducible first | exact HB.out | apply Ab6 | apply Ab1 | apply Ab3 | refine Ac2 ?_ (Aa2.ge HI0.out)) | exact HB.out)); (case side3 => exact Kd.C_foot_step HR1.out (by repeat (first | (with_reducible first | exact HK.out | apply Aa3.set_ | apply Ac0 | apply Ac4 | apply Ac1) | exact HK.out))); rintro e w60 ⟨v213, rfl, ho0, hi, hb, hk⟩; refine ⟨_, rfl, ?_⟩; have n0_ := Aside0.mk (Kd.R_mono (Kd.R_told (Kd.R_oldK (Aa2.apart (show Aa2 w0 _ g s0_0 t208 from by repeat (first | (with_reducible first | exact HI0.out | apply Aa2.alloc | apply Aa2.drewN | apply Aa2.drew | apply Aa2.set_1) | exact HI0.out)) (by (with_reducible repeat (first | apply Kd.R_alloc | apply Kd.R_drewN | apply Kd.R_drew)); exact HO207.out) (by decide)) hk) (Kd.R_base ho0)) (fun _ h_ => h_.1)); have n1_ := Aside0.mk (Kd.R_mono (Kd.R_told (Kd.R_oldK (Aa2.apart (show Aa2 w0 _ g s0_0 t208 from by repeat (first | (with_reducible first | exact HI0.out | apply Aa2.alloc | apply Aa2.drewN | apply Aa2.drew | apply Aa2.set_1) | exact HI0.out)) (by (with_reducible repeat (first | apply Kd.R_alloc | apply Kd.R_drewN | apply Kd.R_drew)); exact HO211.out) (by decide)) hk) (Kd.R_base ho0)) (fun _ h_ => h_.1)); have n2_ := Aside0.mk (Kd.R_lower (Kd.R_new' (Kd.R_new' ho0 (Kd.R_lt (by (with_reducible repeat (first | apply Kd.R_alloc | apply Kd.R_drewN | apply Kd.R_drew)); exact HO207.out))) (Kd.R_lt (by (with_reducible repeat (first | apply Kd.R_alloc | apply Kd.R_drewN | apply Kd.R_drew)); exact HO211.out))) (Ab7 (w := w) (g := g) (row := none) (by repeat (first | (with_reducible first | exact HK.out | apply Aa3.set_ | apply Ac0 | apply Ac4 | apply Ac1) | exact HK.out)))); have n3_ := Aside0.mk (Aa3.trans (by repeat (first | (with_reducible first | exact HK.out | apply Aa3.set_ | apply Ac0 | apply Ac4 | apply Ac1) | exact HK.out)) hk (.inl rfl)); have n4_ := Aside0.mk (hb); have n5_ := Aside0.mk (hi); clear HO207; clear HO211; clear HK; clear HB; clear HI0; have HO207 := n0_; have HO211 := n1_; have HO214 := n2_; have HK := n3_; have HB := n4_; have HI0 := n5_; clear n0_ n1_ n2_ n3_ n4_ n5_; (try clear hb); (try clear hb2); (try clear hgw); (try clear hk); (try clear hi); (try clear ho0); obtain ⟨Ao62, co62, eo62⟩ := Kd.R_slice HO214.out; subst eo62) | ((with_reducible refine Ae8 (b := .append) (xs := #[.tmp 116, .tmp 125]) rfl ?_); at_builtin; refine Kd.R_append_rows (Kd.int .i64) w.heap.size rfl (.tmp 116) (.tmp 125) 27 2 (.int .i64 0) 8 rfl Tryz.underlying27 An3 rfl (by decide) (by omega) v210 y209 t212 _ _ _ (fun k_ => some k_ ≠ (.slice Ao59 t205.length co59 : Value).ownBlock ∧ some k_ ≠ (.slice Ao62 t212.length co62 : Value).ownBlock) (fun _ => False) rfl rfl ?aO ?aR (fun _ _ h => h) (fun _ h => h.elim) ?aF (Below.refl _ _) ?aS ?aL ?_; (case aR => repeat (first | exact (Kd.R_reads' HO214.out).2.2 | (with_reducible refine Kd.C_alloc ?_ _) | (with_reducible refine Kd.C_drewN ?_ _) | (with_reducible refine Kd.C_drew ?_))); (case aF => exact (fun k_ hk => ⟨Kd.fresh' (Kd.R_lt (by (with_reducible repeat (first | apply Kd.R_alloc | apply Kd.R_drewN | apply Kd.R_drew)); exact HO207.out)) k_ hk, Kd.fresh' (Kd.R_lt (by (with_reducible repeat (first | apply Kd.R_alloc | apply Kd.R_drewN | apply Kd.R_drew)); exact HO214.out)) k_ hk⟩)); (case aO => exact (by (with_reducible repeat (first | apply Kd.R_alloc | apply Kd.R_drewN | apply Kd.R_drew)); exact HO211.out)); (case aS => exact (Ab7 (w := w) (g := g) (row := none) (by repeat (first | (with_reducible first | exact HK.out | apply Aa3.set_ | apply Ac0 | apply Ac4 | apply Ac1) | exact HK.out)))); (case aL => have := LMc54.out; omega); intro v217 w61 ho hb hg hat; rw [← Ny216.out] at ho; have n0_ := Aside0.mk (Aa2.grown (by repeat (first | (with_reducible first | exact HI0.out | apply Aa2.alloc | apply Aa2.drewN | apply Aa2.drew | apply Aa2.set_1) | exact HI0.out)) hg (Aa2.own_ne HI0.out HO211.out (by decide))); have n1_ := Aside0.mk (Kd.R_after (ok := (fun k_ => some k_ ≠ (.slice Ao62 t212.length co62 : Value).ownBlock)) (by (with_reducible repeat (first | apply Kd.R_alloc | apply Kd.R_drewN | apply Kd.R_drew)); exact Kd.R_mono HO207.out (fun _ hk => by first | exact ⟨hk.2, hk.1.2⟩ | exact ⟨hk.1.2, hk.2⟩ | trivial)) hg hat); have n2_ := Aside0.mk (Kd.R_after (ok := (fun k_ => some k_ ≠ (.slice Ao59 t205.length co59 : Value).ownBlock)) (by (with_reducible repeat (first | apply Kd.R_alloc | apply Kd.R_drewN | apply Kd.R_drew)); exact Kd.R_mono HO214.out (fun _ hk => by first | exact ⟨hk.1.2, hk.2⟩ | exact ⟨hk.2, hk.1.2⟩ | trivial)) hg hat); have n3_ := Aside0.mk (Ah7 (by repeat (first | (with_reducible first | exact HB.out | apply Ab6 | apply Ab1 | apply Ab3 | refine Ac2 ?_ (Aa2.ge HI0.out)) | exact HB.out)) HL.out hb); have n4_ := Aside0.mk (Aa3.trans (by repeat (first | (with_reducible first | exact HK.out | apply Aa3.set_ | apply Ac0 | apply Ac4 | apply Ac1) | exact HK.out)) (Aa3.of_grown hg g) (Kd.R_base2 HO211.out)); have n5_ := Aside0.mk (ho); clear HI0; clear HO207; clear HO214; clear HB; clear HK; clear HO211; have HI0 := n0_; have HO207 := n1_; have HO214 := n2_; have HB := n3_; have HK := n4_; have HO218 := n5_; clear n0_ n1_ n2_ n3_ n4_ n5_; clear ho hb hg hat))
                go_ret
                exact ⟨_, by first | rfl | (simp [Ad4, Ad3] <;> rfl) | (simp [*, Ad4, Ad3] <;> rfl), by (with_reducible repeat (first | apply Kd.R_alloc | apply Kd.R_drewN | apply Kd.R_drew)); exact Kd.R_mono HO218.out (fun _ hk => trivial), by repeat (first | (with_reducible first | exact HI0.out | apply Aa2.alloc | apply Aa2.drewN | apply Aa2.drew | apply Aa2.set_1) | exact HI0.out), by repeat (first | (with_reducible first | exact HB.out | apply Ab6 | apply Ab1 | apply Ab3 | refine Ac2 ?_ (Aa2.ge HI0.out)) | exact HB.out), by repeat (first | (with_reducible first | exact HK.out | apply Aa3.set_ | apply Ac0 | apply Ac4 | apply Ac1) | exact HK.out)⟩
               ·rw [if_neg c54] at H
                exact absurd H (by simp)
              ·rw [if_neg c52] at H
               exact absurd H (by simp)
             ·rw [if_neg c50] at H
              have c50b0 : (((Aa7 ((Ac3 l1 0).f0) x10_30).f1) == 2) = false := beq_eq_false_iff_ne.mpr c50
              have c50b1 : (((Aa7 ((Ac3 l1 0).f0) x10_30).f1) != 2) = true := bne_iff_ne.mpr c50
              simp only [Option.some.injEq, Prod.mk.injEq] at H
              obtain ⟨rfl, rfl⟩ := H
              go_wp2_with (first | ((with_reducible refine Ad2 (N := 86) rfl ?_); refine Kd.R_lit (Kd.int .i64) _ 2 ?hg (N := 86) ?hd (xs := ([x10_30] : List Int)) (inner := [.int .i64 x10_30]) (ok := fun _ => True) (okp := fun _ => True) ?hr ?hp (fun _ hk => hk) trivial (Below.refl _ _) (Nat.le_refl _) (by simp) ?_; (case hd => rfl); (case hg => rfl); (case hr => first | (go_simp; done) | (go_simp; rfl)); (case hp => exact (Ad5.one (show Kd.M (Kd.int .i64) _ _ _ x10_30 [.int .i64 x10_30] from rfl) (Ad5.none _ _))); intro v193 w63 ho64 hb hg_ hnew_; clear hg_ hnew_; (first | rw [← Ny192.out] at ho64 | (simp only [Int.reduceToNat] at ho64; rw [← Ny192.out] at ho64)); have n0_ := Aside0.mk (Kd.R_lower ho64 (Ab7 (w := w) (g := g) (row := none) (by repeat (first | (with_reducible first | exact HK.out | apply Aa3.set_ | apply Ac0 | apply Ac4 | apply Ac1) | exact HK.out)))); have n1_ := Aside0.mk (Aa2.below (by repeat (first | (with_reducible first | exact HI0.out | apply Aa2.alloc | apply Aa2.drewN | apply Aa2.drew | apply Aa2.set_1) | exact HI0.out)) hb); have n2_ := Aside0.mk (Aa3.trans (by repeat (first | (with_reducible first | exact HK.out | apply Aa3.set_ | apply Ac0 | apply Ac4 | apply Ac1) | exact HK.out)) (Aa3.of_below hb g none) (.inl rfl)); have n3_ := Aside0.mk (Ab8 (by repeat (first | (with_reducible first | exact HB.out | apply Ab6 | apply Ab1 | apply Ab3 | refine Ac2 ?_ (Aa2.ge HI0.out)) | exact HB.out)) hb); clear HI0; clear HK; clear HB; have HO194 := n0_; have HI0 := n1_; have HK := n2_; have HB := n3_; clear n0_ n1_ n2_ n3_; clear hb ho64; have p195 : 0 ≤ (0 : Int) := (by omega); have q195 : 0 < (l1.length : Int) := of_decide_eq_true (by first | (with_reducible assumption) | assumption); obtain ⟨ad195, A195_0, c195_0, e195, hx195_0, hl195_0, hi195_0⟩ := Af2 (Kd.C_foot_now HR1.out HK.out) 0 p195 q195; obtain rfl : ad182 = ad195 := (by injection e195); have qi195 : (0 < l1.length) = True := eq_true (by omega); (try rw [show ((0 : Int)).toNat = 0 from rfl] at hx195_0); (try rw [Addr.add_zero'] at hx195_0); have HR195_0 := Aside0.mk hi195_0; have HC195_0 := Aside0.mk hl195_0; clear hi195_0 hl195_0; replace p195 := eq_true p195; replace q195 := eq_true q195; have p196 : 0 ≤ (0 : Int) := (by omega); have q196 : 0 < (l1.length : Int) := of_decide_eq_true (by first | (with_reducible assumption) | assumption); obtain ⟨ad196, A196_0, c196_0, e196, hx196_0, hl196_0, hi196_0⟩ := Af2 (Kd.C_foot_now HR1.out HK.out) 0 p196 q196; obtain rfl : ad182 = ad196 := (by injection e196); have qi196 : (0 < l1.length) = True := eq_true (by omega); (try rw [show ((0 : Int)).toNat = 0 from rfl] at hx196_0); (try rw [Addr.add_zero'] at hx196_0); have HR196_0 := Aside0.mk hi196_0; have HC196_0 := Aside0.mk hl196_0; clear hi196_0 hl196_0; replace p196 := eq_true p196; replace q196 := eq_true q196; have ea_ := Option.some.inj (hx195_0.symm.trans hx196_0); injection ea_ with ea_ en_ ec_; subst ea_; subst ec_; clear en_; have p197 : 0 ≤ (x10_30 : Int) := of_decide_eq_true (by first | (with_reducible assumption) | assumption); have q197 : x10_30 < (((Ac3 l1 0).f0).length : Int) := of_decide_eq_true (by first | (with_reducible assumption) | assumption); obtain ⟨ad197, e197, hx197_0, hx197_1⟩ := Ae9 (by repeat (first | (with_reducible exact HR196_0.out) | (with_reducible refine Kd.C_alloc ?_ _) | (with_reducible refine Kd.C_drewN ?_ _) | (with_reducible refine Kd.C_drew ?_) | exact HR196_0.out)) x10_30 p197 q197; cases e197; replace p197 := eq_true p197; replace q197 := eq_true q197))
              go_ret
              exact ⟨_, by first | rfl | (simp [Ad4, Ad3] <;> rfl) | (simp [*, Ad4, Ad3] <;> rfl), by (with_reducible repeat (first | apply Kd.R_alloc | apply Kd.R_drewN | apply Kd.R_drew)); exact HO194.out, by repeat (first | (with_reducible first | exact HI0.out | apply Aa2.alloc | apply Aa2.drewN | apply Aa2.drew | apply Aa2.set_1) | exact HI0.out), by repeat (first | (with_reducible first | exact HB.out | apply Ab6 | apply Ab1 | apply Ab3 | refine Ac2 ?_ (Aa2.ge HI0.out)) | exact HB.out), by repeat (first | (with_reducible first | exact HK.out | apply Aa3.set_ | apply Ac0 | apply Ac4 | apply Ac1) | exact HK.out)⟩
           ·rw [if_neg c41] at H
            exact absurd H (by simp)
          ·rw [if_neg c40] at H
           exact absurd H (by simp)
         ·rw [if_neg c39] at H
          exact absurd H (by simp)
    ·rw [if_neg c21] at H
     exact absurd H (by simp)
end Go.Proofs.YtbdpnkpienpnaaaGreatDoor.P
