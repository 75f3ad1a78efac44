/- A part of the proof of the law FnPlain. -/
import Derived.Laws.StructEq
import Derived.Test.YtbdpnkpienpnaaaGreatDoorCFnPlain0
import Derived.Test.YtbdpnkpienpnaaaGreatDoorCFnPlain1
import Derived.Test.YtbdpnkpienpnaaaGreatDoorCFnPlain2
import Derived.Test.YtbdpnkpienpnaaaGreatDoorCFnPlain7
import Derived.Test.YtbdpnkpienpnaaaGreatDoorCFnPlain20
namespace Go.Proofs.YtbdpnkpienpnaaaGreatDoor.P
open Go.RowKit Go.Proofs.YtbdpnkpienpnaaaGreatDoorW.PrintWords Go.Proofs.YtbdpnkpienpnaaaGreatDoorW.PrintLast Go.Proofs.YtbdpnkpienpnaaaGreatDoorW.PrintMore
attribute [local go_sem] Ae7 Ae6 Af7 Af8 Ad8 Ad9 Ae2 Ae4   -- for this text's walks alone
set_option linter.unusedVariables false
set_option linter.unusedSimpArgs false
mutual
def impl_SignatureFault.j0 : Nat → Bool → List (S90) → Option (Int)
 | 0, _, _ => none
 | k + 1, x16, x310000 => if x16 = true then (some 2) else (impl_SignatureFault.l0 k x310000 (x310000.length : Int) 0 x310000)
def impl_SignatureFault.l0 : Nat → List (S90) → Int → Int → List (S90) → Option (Int)
 | 0, _, _, _, _ => none
 | k + 1, x18, x19, x20, x310000 => if x20 < x19 then (if 0 ≤ x20 then (if x20 < (x18.length : Int) then ((impl_isName.f ((Aa7 x18 x20).f0)).bind fun t312 => (if t312 = true then ((impl_within.f ((Aa7 x18 x20).f1) 0 2).bind fun t313 => (if t313 = true then (impl_SignatureFault.l0 k x18 x19 (wrap64 (x20 + 1)) x310000) else (some 3))) else (some 5))) else (none)) else (none)) else (impl_SignatureFault.l1 k x310000 (x310000.length : Int) 0 x310000)
def impl_SignatureFault.l1 : Nat → List (S90) → Int → Int → List (S90) → Option (Int)
 | 0, _, _, _, _ => none
 | k + 1, x34, x35, x36, x310000 => if x36 < x35 then (if 0 ≤ x36 then (if x36 < (x34.length : Int) then ((impl_symbolIndex.f k x310000 ((Aa7 x34 x36).f0)).bind fun t316 => (if t316 = x36 then (impl_SignatureFault.l1 k x34 x35 (wrap64 (x36 + 1)) x310000) else (some 6))) else (none)) else (none)) else ((slices_ContainsFunc_impl_Symbol_impl_Symbol_impl_SignatureFault_1.f k x310000).bind fun t317 => (if t317 = true then (some 0) else (some 4)))
end
def impl_SignatureFault.f (k : Nat) (l0_0 : List (S90)) : Option (Int) := if (l0_0.length : Int) < 1 then (impl_SignatureFault.j0 k true l0_0) else (impl_SignatureFault.j0 k (decide ((l0_0.length : Int) > 6)) l0_0)
set_option maxHeartbeats 8000000 in
set_option maxRecDepth 100000 in
theorem impl_SignatureFault.calls (k : Nat) (A0_0 : Option Addr) (c0_0 : Nat) (l0_0 : List (S90)) (r : Int) (w : World) (hr0_0 : Kd.C k90 w A0_0 l0_0.length l0_0) (hc0_0 : l0_0.length ≤ c0_0) (h : impl_SignatureFault.f k l0_0 = some r) :
  Calls Tryz.prog 45 #[.agg #[.slice A0_0 l0_0.length c0_0]] w fun e w' => e = .returned (.int .i64 r) ∧ Below w.heap.size w w' := by
 have hu26 := Tryz.underlying26
 have hu90 := Tryz.underlying90
 have HR0_0 := am hr0_0
 have HC0_0 := am hc0_0
 clear hr0_0 hc0_0
 have HB := am (Below.refl w.heap.size w)
 have H : (if (l0_0.length : Int) < 1 then (impl_SignatureFault.j0 k true l0_0) else (impl_SignatureFault.j0 k (decide ((l0_0.length : Int) > 6)) l0_0)) = some r := h
 clear h
 have HC2 := am H
 clear H
 go_enter Tryz.func45, Tryz.ntmps45
 go_upto_region 1 with (first | ((with_reducible refine Ad2 (N := 1) rfl ?_); (try (refine Ad6 (by rfl) ?_; dsimp only)); refine Ae3 ?hg (N := 1) ?hd (cs := #[.slice A0_0 l0_0.length c0_0]) (t := 26) ?hr ?_; (case hd => rfl); (case hg => rfl); (case hr => first | (go_simp; done) | (go_simp; rfl)); intro gb309 hg w3 hbox hb; have BK309 := am (hbox); have GW309 := am (bz hg (hq HB.out)); replace HB := sb HB hb; have GE309 := GW309; clear hb hbox hg))
 (try simp only [Act.put, lsp])
 go_cut [16] (fun v16 wc => ∃ (kq : Nat) (x16_1 : Bool), v16 = .bool x16_1 ∧ Aside0 (impl_SignatureFault.j0 kq x16_1 l0_0 = some r) ∧ Aside0 (kq ≤ k) ∧ Aside0 (wc.heap[gb309]? = some (.cells #[(.slice A0_0 l0_0.length c0_0)] 26 (0, 0))) ∧ Aside0 (Below w.heap.size w wc))
 case first =>
  have H := HC2.out
  clear HC2
  by_cases c4 : (l0_0.length : Int) < 1
  ·rw [if_pos c4] at H
   have c4b0 : decide ((l0_0.length : Int) < 1) = true := decide_eq_true c4
   have c4b1 : decide (l0_0.length < 1) = true := decide_eq_true (by omega)
   clear c4
   (first | rw [c4b0] | (simp only [Ag7, Ah2]; rw [c4b0]) | skip)
   have H' := am H
   clear H
   have hcz5_0 : w3.cell? ⟨gb309, 0, none⟩ = some (.slice A0_0 l0_0.length c0_0) := (Aa0 BK309.out 0).trans rfl
   have hfz5_0 := Aa1 BK309.out 0
   go_wp2
   go_meet
   case rel => exact ⟨_, (true), et, H', ⟨by first | omega | exact Nat.le_refl _⟩, ⟨by refine bq ?_; exact BK309.out⟩, ⟨hs HB.out⟩⟩
  ·rw [if_neg c4] at H
   have c4b0 : decide ((l0_0.length : Int) < 1) = false := decide_eq_false c4
   have c4b1 : decide (l0_0.length < 1) = false := decide_eq_false (by omega)
   clear c4
   (first | rw [c4b0] | (simp only [Ag7, Ah2]; rw [c4b0]) | skip)
   have H' := am H
   clear H
   have hcz6_0 : w3.cell? ⟨gb309, 0, none⟩ = some (.slice A0_0 l0_0.length c0_0) := (Aa0 BK309.out 0).trans rfl
   have hfz6_0 := Aa1 BK309.out 0
   go_wp2
   go_meet
   case rel => exact ⟨_, (decide ((l0_0.length : Int) > 6)), et, H', ⟨by first | omega | exact Nat.le_refl _⟩, ⟨by refine bq ?_; exact BK309.out⟩, ⟨hs HB.out⟩⟩
 case rest =>
  clear HC2
  try clear c4; try clear c4b0; try clear c4b1; try clear hcz5_0; try clear hcz6_0; try clear hfz5_0; try clear hfz6_0
  obtain ⟨kq, x16_1, rfl, HA, HJ1, BK309, HB⟩ := hcut
  cases kq with
  | zero => exact absurd HA.out (by simp [impl_SignatureFault.j0])
  | succ kj1 =>
   have H := HA.out
   clear HA
   simp only [impl_SignatureFault.j0] at H
   by_cases c7 : x16_1 = true
   ·subst c7
    rw [if_pos rfl] at H
    obtain rfl := Option.some.inj H
    go_wp2
    go_ret
    exact ⟨er, hs HB.out⟩
   ·replace c7 := Bool.eq_false_iff.mpr c7
    subst c7
    rw [if_neg (show ¬ (false = true) by decide)] at H
    have H' := am H
    clear H
    have hcz8_0 : wc.cell? ⟨gb309, 0, none⟩ = some (.slice A0_0 l0_0.length c0_0) := (Aa0 BK309.out 0).trans rfl
    have hfz8_0 := Aa1 BK309.out 0
    go_wp2
    go_loopg [20] kj1 (fun kq v20 w' => ∃ (x20_2 : Int), v20 = .int .i64 x20_2 ∧ Aside0 (impl_SignatureFault.l0 kq l0_0 (l0_0.length : Int) x20_2 l0_0 = some r) ∧ Aside0 (kq ≤ kj1) ∧ Aside0 (w'.heap[gb309]? = some (.cells #[(.slice A0_0 l0_0.length c0_0)] 26 (0, 0))) ∧ Aside0 (Below w.heap.size w w'))
    case atStart => exact ⟨(0), et, H', ⟨Nat.le_refl _⟩, ⟨by refine bq ?_; exact BK309.out⟩, ⟨hs HB.out⟩⟩
    case round =>
     clear H'
     try clear c4; try clear c4b0; try clear c4b1; try clear c7; try clear hcz5_0; try clear hcz6_0; try clear hcz8_0; try clear hfz5_0; try clear hfz6_0; try clear hfz8_0
     obtain ⟨x20_2, rfl, HA, HK2, BK309, HB⟩ := hrel
     cases gk with
     | zero => exact absurd HA.out (by simp [impl_SignatureFault.l0])
     | succ k2 =>
      have H := HA.out
      clear HA
      simp only [impl_SignatureFault.l0] at H
      by_cases c9 : x20_2 < (l0_0.length : Int)
      ·rw [if_pos c9] at H
       have c9b0 : decide (x20_2 < (l0_0.length : Int)) = true := decide_eq_true c9
       clear c9
       obtain ⟨c10b0, H⟩ := ife H
       obtain ⟨c11b0, H⟩ := ife H
       obtain ⟨t312, A12, H⟩ := ob H
       try dsimp only at H
       by_cases c13 : t312 = true
       ·subst c13
        rw [if_pos rfl] at H
        obtain ⟨t313, A14, H⟩ := ob H
        try dsimp only at H
        by_cases c15 : t313 = true
        ·subst c15
         rw [if_pos rfl] at H
         have H' := am H
         clear H
         have p310 : 0 ≤ (x20_2 : Int) := od
         have q310 : x20_2 < (l0_0.length : Int) := od
         obtain ⟨ad310, e310, hx310_0, hx310_1⟩ := Ae9 HR0_0.out x20_2 p310 q310
         cases e310
         replace hx310_0 := cz HB.out hx310_0
         replace hx310_1 := cz HB.out hx310_1
         replace p310 := eq_true p310
         replace q310 := eq_true q310
         go_wp2_with (first | ((with_reducible refine Ad2 (N := 4) rfl ?_); (try (refine Ad6 (by rfl) ?_; dsimp only)); refine Ae3 ?hg (N := 4) ?hd (cs := #[.string (⟨#[]⟩ : ByteArray), .int .i64 0]) (t := 90) ?hr ?_; (case hd => rfl); (case hg => rfl); (case hr => first | (go_simp; done) | (go_simp; rfl)); intro gb311 hg w16 hbox hb; have BK311 := am (hbox); have GW311 := am (bz hg (hs HB.out)); replace HB := sb HB hb; have GE311 := GW311; have NB309_311 := nl hg BK309; have NB311_309 := ng hg BK309; replace BK309 := bb BK309 hb; clear hb hbox hg; have hnb17 := NB311_309.out; have hnc17 := NB309_311.out; have hcz18_0 : w16.cell? ⟨gb311, 0, none⟩ = some (.string (⟨#[]⟩ : ByteArray)) := (Aa0 BK311.out 0).trans rfl; have hcz18_1 : w16.cell? ⟨gb311, 1, none⟩ = some (.int .i64 0) := (Aa0 BK311.out 1).trans rfl; have hfz18_0 := Aa1 BK311.out 0; have hfz18_1 := Aa1 BK311.out 1) | (refine gl (some 26) Tryz.func76 rfl #[.string ((Aa7 l0_0 x20_2).f0)] ?_; (with_reducible refine (impl_isName.calls ((Aa7 l0_0 x20_2).f0) true _ A12.out).mono ?_); rintro e w19 ⟨rfl, hb⟩; refine ⟨_, rfl, ?_⟩; replace BK309 := am (Ab5 (g := gb309) (o := .cells #[.slice (some ad310) l0_0.length c0_0] 26 (0, 0)) (by refine bq ?_; refine Aa4 ?_ NB309_311.out _; refine bq ?_; refine Aa4 ?_ NB309_311.out _; refine bq ?_; exact BK309.out) hb); replace BK311 := am (Ab5 (g := gb311) (o := .cells #[.string ((Aa7 l0_0 x20_2).f0), .int .i64 ((Aa7 l0_0 x20_2).f1)] 90 (0, 0)) (by refine bq ?_; refine Aa6 (cs := #[.string ((Aa7 l0_0 x20_2).f0), .int .i64 0]) ?_ 1 _ rfl; refine bq ?_; refine Aa6 (cs := #[.string (⟨#[]⟩ : ByteArray), .int .i64 0]) ?_ 0 _ rfl; refine bq ?_; exact BK311.out) hb); replace HB := sb HB hb; (try clear hb); have hcz20_0 : w19.cell? ⟨gb311, 0, none⟩ = some (.string ((Aa7 l0_0 x20_2).f0)) := (Aa0 BK311.out 0).trans rfl; have hcz20_1 : w19.cell? ⟨gb311, 1, none⟩ = some (.int .i64 ((Aa7 l0_0 x20_2).f1)) := (Aa0 BK311.out 1).trans rfl; have hfz20_0 := Aa1 BK311.out 0; have hfz20_1 := Aa1 BK311.out 1) | (refine gl (some 30) Tryz.func33 rfl #[.int .i64 ((Aa7 l0_0 x20_2).f1), .int .i64 0, .int .i64 2] ?_; (with_reducible refine (impl_within.calls ((Aa7 l0_0 x20_2).f1) 0 2 true _ A14.out).mono ?_); rintro e w' ⟨rfl, ⟨nd, rfl⟩⟩; refine ⟨_, rfl, ?_⟩))
         go_roundg k2
         case measure => have := HJ1.out; have := HK2.out; omega
         case rel => exact ⟨(wrap64 (x20_2 + 1)), et, H', ⟨by have := HJ1.out; have := HK2.out; omega⟩, ⟨by refine bq ?_; exact BK309.out⟩, ⟨hs HB.out⟩⟩
        ·replace c15 := Bool.eq_false_iff.mpr c15
         subst c15
         rw [if_neg (show ¬ (false = true) by decide)] at H
         obtain rfl := Option.some.inj H
         have p310 : 0 ≤ (x20_2 : Int) := od
         have q310 : x20_2 < (l0_0.length : Int) := od
         obtain ⟨ad310, e310, hx310_0, hx310_1⟩ := Ae9 HR0_0.out x20_2 p310 q310
         cases e310
         replace hx310_0 := cz HB.out hx310_0
         replace hx310_1 := cz HB.out hx310_1
         replace p310 := eq_true p310
         replace q310 := eq_true q310
         go_wp2_with (first | ((with_reducible refine Ad2 (N := 4) rfl ?_); (try (refine Ad6 (by rfl) ?_; dsimp only)); refine Ae3 ?hg (N := 4) ?hd (cs := #[.string (⟨#[]⟩ : ByteArray), .int .i64 0]) (t := 90) ?hr ?_; (case hd => rfl); (case hg => rfl); (case hr => first | (go_simp; done) | (go_simp; rfl)); intro gb311 hg w21 hbox hb; have BK311 := am (hbox); have GW311 := am (bz hg (hs HB.out)); replace HB := sb HB hb; have GE311 := GW311; have NB309_311 := nl hg BK309; have NB311_309 := ng hg BK309; replace BK309 := bb BK309 hb; clear hb hbox hg; have hnb22 := NB311_309.out; have hnc22 := NB309_311.out; have hcz23_0 : w21.cell? ⟨gb311, 0, none⟩ = some (.string (⟨#[]⟩ : ByteArray)) := (Aa0 BK311.out 0).trans rfl; have hcz23_1 : w21.cell? ⟨gb311, 1, none⟩ = some (.int .i64 0) := (Aa0 BK311.out 1).trans rfl; have hfz23_0 := Aa1 BK311.out 0; have hfz23_1 := Aa1 BK311.out 1) | (refine gl (some 26) Tryz.func76 rfl #[.string ((Aa7 l0_0 x20_2).f0)] ?_; (with_reducible refine (impl_isName.calls ((Aa7 l0_0 x20_2).f0) true _ A12.out).mono ?_); rintro e w24 ⟨rfl, hb⟩; refine ⟨_, rfl, ?_⟩; replace BK309 := am (Ab5 (g := gb309) (o := .cells #[.slice (some ad310) l0_0.length c0_0] 26 (0, 0)) (by refine bq ?_; refine Aa4 ?_ NB309_311.out _; refine bq ?_; refine Aa4 ?_ NB309_311.out _; refine bq ?_; exact BK309.out) hb); replace BK311 := am (Ab5 (g := gb311) (o := .cells #[.string ((Aa7 l0_0 x20_2).f0), .int .i64 ((Aa7 l0_0 x20_2).f1)] 90 (0, 0)) (by refine bq ?_; refine Aa6 (cs := #[.string ((Aa7 l0_0 x20_2).f0), .int .i64 0]) ?_ 1 _ rfl; refine bq ?_; refine Aa6 (cs := #[.string (⟨#[]⟩ : ByteArray), .int .i64 0]) ?_ 0 _ rfl; refine bq ?_; exact BK311.out) hb); replace HB := sb HB hb; (try clear hb); have hcz25_0 : w24.cell? ⟨gb311, 0, none⟩ = some (.string ((Aa7 l0_0 x20_2).f0)) := (Aa0 BK311.out 0).trans rfl; have hcz25_1 : w24.cell? ⟨gb311, 1, none⟩ = some (.int .i64 ((Aa7 l0_0 x20_2).f1)) := (Aa0 BK311.out 1).trans rfl; have hfz25_0 := Aa1 BK311.out 0; have hfz25_1 := Aa1 BK311.out 1) | (refine gl (some 30) Tryz.func33 rfl #[.int .i64 ((Aa7 l0_0 x20_2).f1), .int .i64 0, .int .i64 2] ?_; (with_reducible refine (impl_within.calls ((Aa7 l0_0 x20_2).f1) 0 2 false _ A14.out).mono ?_); rintro e w' ⟨rfl, ⟨nd, rfl⟩⟩; refine ⟨_, rfl, ?_⟩))
         go_ret
         exact ⟨er, hs HB.out⟩
       ·replace c13 := Bool.eq_false_iff.mpr c13
        subst c13
        rw [if_neg (show ¬ (false = true) by decide)] at H
        obtain rfl := Option.some.inj H
        have p310 : 0 ≤ (x20_2 : Int) := od
        have q310 : x20_2 < (l0_0.length : Int) := od
        obtain ⟨ad310, e310, hx310_0, hx310_1⟩ := Ae9 HR0_0.out x20_2 p310 q310
        cases e310
        replace hx310_0 := cz HB.out hx310_0
        replace hx310_1 := cz HB.out hx310_1
        replace p310 := eq_true p310
        replace q310 := eq_true q310
        go_wp2_with (first | ((with_reducible refine Ad2 (N := 4) rfl ?_); (try (refine Ad6 (by rfl) ?_; dsimp only)); refine Ae3 ?hg (N := 4) ?hd (cs := #[.string (⟨#[]⟩ : ByteArray), .int .i64 0]) (t := 90) ?hr ?_; (case hd => rfl); (case hg => rfl); (case hr => first | (go_simp; done) | (go_simp; rfl)); intro gb311 hg w26 hbox hb; have BK311 := am (hbox); have GW311 := am (bz hg (hs HB.out)); replace HB := sb HB hb; have GE311 := GW311; have NB309_311 := nl hg BK309; have NB311_309 := ng hg BK309; replace BK309 := bb BK309 hb; clear hb hbox hg; have hnb27 := NB311_309.out; have hnc27 := NB309_311.out; have hcz28_0 : w26.cell? ⟨gb311, 0, none⟩ = some (.string (⟨#[]⟩ : ByteArray)) := (Aa0 BK311.out 0).trans rfl; have hcz28_1 : w26.cell? ⟨gb311, 1, none⟩ = some (.int .i64 0) := (Aa0 BK311.out 1).trans rfl; have hfz28_0 := Aa1 BK311.out 0; have hfz28_1 := Aa1 BK311.out 1) | (refine gl (some 26) Tryz.func76 rfl #[.string ((Aa7 l0_0 x20_2).f0)] ?_; (with_reducible refine (impl_isName.calls ((Aa7 l0_0 x20_2).f0) false _ A12.out).mono ?_); rintro e w29 ⟨rfl, hb⟩; refine ⟨_, rfl, ?_⟩; replace BK309 := am (Ab5 (g := gb309) (o := .cells #[.slice (some ad310) l0_0.length c0_0] 26 (0, 0)) (by refine bq ?_; refine Aa4 ?_ NB309_311.out _; refine bq ?_; refine Aa4 ?_ NB309_311.out _; refine bq ?_; exact BK309.out) hb); replace BK311 := am (Ab5 (g := gb311) (o := .cells #[.string ((Aa7 l0_0 x20_2).f0), .int .i64 ((Aa7 l0_0 x20_2).f1)] 90 (0, 0)) (by refine bq ?_; refine Aa6 (cs := #[.string ((Aa7 l0_0 x20_2).f0), .int .i64 0]) ?_ 1 _ rfl; refine bq ?_; refine Aa6 (cs := #[.string (⟨#[]⟩ : ByteArray), .int .i64 0]) ?_ 0 _ rfl; refine bq ?_; exact BK311.out) hb); replace HB := sb HB hb; (try clear hb)))
        go_ret
        exact ⟨er, hs HB.out⟩
      ·rw [if_neg c9] at H
       have c9b0 : decide (x20_2 < (l0_0.length : Int)) = false := decide_eq_false c9
       clear c9
       have H' := am H
       clear H
       have hcz30_0 : wr.cell? ⟨gb309, 0, none⟩ = some (.slice A0_0 l0_0.length c0_0) := (Aa0 BK309.out 0).trans rfl
       have hfz30_0 := Aa1 BK309.out 0
       go_wp2
       go_loopg [36] k2 (fun kq v36 w' => ∃ (x36_3 : Int), v36 = .int .i64 x36_3 ∧ Aside0 (impl_SignatureFault.l1 kq l0_0 (l0_0.length : Int) x36_3 l0_0 = some r) ∧ Aside0 (kq ≤ k2) ∧ Aside0 (w'.heap[gb309]? = some (.cells #[(.slice A0_0 l0_0.length c0_0)] 26 (0, 0))) ∧ Aside0 (Below w.heap.size w w'))
       case atStart => exact ⟨(0), et, H', ⟨Nat.le_refl _⟩, ⟨by refine bq ?_; exact BK309.out⟩, ⟨hs HB.out⟩⟩
       case round =>
        clear H'
        try clear c4; try clear c4b0; try clear c4b1; try clear c7; try clear c9; try clear c9b0; try clear c10b0; try clear c11b0; try clear c13; try clear c15; try clear hcz18_0; try clear hcz18_1; try clear hcz20_0; try clear hcz20_1; try clear hcz23_0; try clear hcz23_1; try clear hcz25_0; try clear hcz25_1; try clear hcz28_0; try clear hcz28_1; try clear hcz30_0; try clear hcz5_0; try clear hcz6_0; try clear hcz8_0; try clear hfz18_0; try clear hfz18_1; try clear hfz20_0; try clear hfz20_1; try clear hfz23_0; try clear hfz23_1; try clear hfz25_0; try clear hfz25_1; try clear hfz28_0; try clear hfz28_1; try clear hfz30_0; try clear hfz5_0; try clear hfz6_0; try clear hfz8_0; try clear hx310_0; try clear hx310_1; try clear p310; try clear q310
        obtain ⟨x36_3, rfl, HA, HK3, BK309, HB⟩ := hrel
        cases gk with
        | zero => exact absurd HA.out (by simp [impl_SignatureFault.l1])
        | succ k3 =>
         have H := HA.out
         clear HA
         simp only [impl_SignatureFault.l1] at H
         by_cases c31 : x36_3 < (l0_0.length : Int)
         ·rw [if_pos c31] at H
          have c31b0 : decide (x36_3 < (l0_0.length : Int)) = true := decide_eq_true c31
          clear c31
          obtain ⟨c32b0, H⟩ := ife H
          obtain ⟨c33b0, H⟩ := ife H
          obtain ⟨t316, A34, H⟩ := ob H
          try dsimp only at H
          by_cases c35 : t316 = x36_3
          ·rw [if_pos c35] at H
           obtain ⟨c35b0, c35b1⟩ := bqt c35; clear c35
           have H' := am H
           clear H
           have p314 : 0 ≤ (x36_3 : Int) := od
           have q314 : x36_3 < (l0_0.length : Int) := od
           obtain ⟨ad314, e314, hx314_0, hx314_1⟩ := Ae9 HR0_0.out x36_3 p314 q314
           cases e314
           replace hx314_0 := cz HB.out hx314_0
           replace hx314_1 := cz HB.out hx314_1
           replace p314 := eq_true p314
           replace q314 := eq_true q314
           go_wp2_with (first | ((with_reducible refine Ad2 (N := 6) rfl ?_); (try (refine Ad6 (by rfl) ?_; dsimp only)); refine Ae3 ?hg (N := 6) ?hd (cs := #[.string (⟨#[]⟩ : ByteArray), .int .i64 0]) (t := 90) ?hr ?_; (case hd => rfl); (case hg => rfl); (case hr => first | (go_simp; done) | (go_simp; rfl)); intro gb315 hg w36 hbox hb; have BK315 := am (hbox); have GW315 := am (bz hg (hs HB.out)); replace HB := sb HB hb; have GE315 := GW315; have NB309_315 := nl hg BK309; have NB315_309 := ng hg BK309; replace BK309 := bb BK309 hb; clear hb hbox hg; have hnb37 := NB315_309.out; have hnc37 := NB309_315.out; have hcz38_0 : w36.cell? ⟨gb315, 0, none⟩ = some (.string (⟨#[]⟩ : ByteArray)) := (Aa0 BK315.out 0).trans rfl; have hcz38_1 : w36.cell? ⟨gb315, 1, none⟩ = some (.int .i64 0) := (Aa0 BK315.out 1).trans rfl; have hfz38_0 := Aa1 BK315.out 0; have hfz38_1 := Aa1 BK315.out 1; have hcz39_0 : w36.cell? ⟨gb309, 0, none⟩ = some (.slice (some ad314) l0_0.length c0_0) := (Aa0 BK309.out 0).trans rfl; have hfz39_0 := Aa1 BK309.out 0) | (refine gl (some 44) Tryz.func77 rfl #[.agg #[.slice (some ad314) l0_0.length c0_0], .string ((Aa7 l0_0 x36_3).f0)] ?_; refine (impl_symbolIndex.calls k3 _ _ l0_0 ((Aa7 l0_0 x36_3).f0) t316 _ (Kd.C_below HR0_0.out (hs HB.out)) HC0_0.out A34.out).mono ?_; rintro e w40 ⟨rfl, hb⟩; refine ⟨_, rfl, ?_⟩; replace BK309 := am (Ab5 (g := gb309) (o := .cells #[.slice (some ad314) l0_0.length c0_0] 26 (0, 0)) (by refine bq ?_; refine Aa4 ?_ NB309_315.out _; refine bq ?_; refine Aa4 ?_ NB309_315.out _; refine bq ?_; exact BK309.out) hb); replace BK315 := am (Ab5 (g := gb315) (o := .cells #[.string ((Aa7 l0_0 x36_3).f0), .int .i64 ((Aa7 l0_0 x36_3).f1)] 90 (0, 0)) (by refine bq ?_; refine Aa6 (cs := #[.string ((Aa7 l0_0 x36_3).f0), .int .i64 0]) ?_ 1 _ rfl; refine bq ?_; refine Aa6 (cs := #[.string (⟨#[]⟩ : ByteArray), .int .i64 0]) ?_ 0 _ rfl; refine bq ?_; exact BK315.out) hb); replace HB := sb HB hb; (try clear hb)))
           go_roundg k3
           case measure => have := HJ1.out; have := HK2.out; have := HK3.out; omega
           case rel => exact ⟨(wrap64 (x36_3 + 1)), et, H', ⟨by have := HJ1.out; have := HK2.out; have := HK3.out; omega⟩, ⟨by refine bq ?_; exact BK309.out⟩, ⟨hs HB.out⟩⟩
          ·rw [if_neg c35] at H
           obtain ⟨c35b0, c35b1⟩ := bqf c35
           obtain rfl := Option.some.inj H
           have p314 : 0 ≤ (x36_3 : Int) := od
           have q314 : x36_3 < (l0_0.length : Int) := od
           obtain ⟨ad314, e314, hx314_0, hx314_1⟩ := Ae9 HR0_0.out x36_3 p314 q314
           cases e314
           replace hx314_0 := cz HB.out hx314_0
           replace hx314_1 := cz HB.out hx314_1
           replace p314 := eq_true p314
           replace q314 := eq_true q314
           go_wp2_with (first | ((with_reducible refine Ad2 (N := 6) rfl ?_); (try (refine Ad6 (by rfl) ?_; dsimp only)); refine Ae3 ?hg (N := 6) ?hd (cs := #[.string (⟨#[]⟩ : ByteArray), .int .i64 0]) (t := 90) ?hr ?_; (case hd => rfl); (case hg => rfl); (case hr => first | (go_simp; done) | (go_simp; rfl)); intro gb315 hg w41 hbox hb; have BK315 := am (hbox); have GW315 := am (bz hg (hs HB.out)); replace HB := sb HB hb; have GE315 := GW315; have NB309_315 := nl hg BK309; have NB315_309 := ng hg BK309; replace BK309 := bb BK309 hb; clear hb hbox hg; have hnb42 := NB315_309.out; have hnc42 := NB309_315.out; have hcz43_0 : w41.cell? ⟨gb315, 0, none⟩ = some (.string (⟨#[]⟩ : ByteArray)) := (Aa0 BK315.out 0).trans rfl; have hcz43_1 : w41.cell? ⟨gb315, 1, none⟩ = some (.int .i64 0) := (Aa0 BK315.out 1).trans rfl; have hfz43_0 := Aa1 BK315.out 0; have hfz43_1 := Aa1 BK315.out 1; have hcz44_0 : w41.cell? ⟨gb309, 0, none⟩ = some (.slice (some ad314) l0_0.length c0_0) := (Aa0 BK309.out 0).trans rfl; have hfz44_0 := Aa1 BK309.out 0) | (refine gl (some 44) Tryz.func77 rfl #[.agg #[.slice (some ad314) l0_0.length c0_0], .string ((Aa7 l0_0 x36_3).f0)] ?_; refine (impl_symbolIndex.calls k3 _ _ l0_0 ((Aa7 l0_0 x36_3).f0) t316 _ (Kd.C_below HR0_0.out (hs HB.out)) HC0_0.out A34.out).mono ?_; rintro e w45 ⟨rfl, hb⟩; refine ⟨_, rfl, ?_⟩; replace BK309 := am (Ab5 (g := gb309) (o := .cells #[.slice (some ad314) l0_0.length c0_0] 26 (0, 0)) (by refine bq ?_; refine Aa4 ?_ NB309_315.out _; refine bq ?_; refine Aa4 ?_ NB309_315.out _; refine bq ?_; exact BK309.out) hb); replace BK315 := am (Ab5 (g := gb315) (o := .cells #[.string ((Aa7 l0_0 x36_3).f0), .int .i64 ((Aa7 l0_0 x36_3).f1)] 90 (0, 0)) (by refine bq ?_; refine Aa6 (cs := #[.string ((Aa7 l0_0 x36_3).f0), .int .i64 0]) ?_ 1 _ rfl; refine bq ?_; refine Aa6 (cs := #[.string (⟨#[]⟩ : ByteArray), .int .i64 0]) ?_ 0 _ rfl; refine bq ?_; exact BK315.out) hb); replace HB := sb HB hb; (try clear hb)))
           go_ret
           exact ⟨er, hs HB.out⟩
         ·rw [if_neg c31] at H
          have c31b0 : decide (x36_3 < (l0_0.length : Int)) = false := decide_eq_false c31
          clear c31
          obtain ⟨t317, A46, H⟩ := ob H
          try dsimp only at H
          by_cases c47 : t317 = true
          ·subst c47
           rw [if_pos rfl] at H
           obtain rfl := Option.some.inj H
           have hcz48_0 : wr.cell? ⟨gb309, 0, none⟩ = some (.slice A0_0 l0_0.length c0_0) := (Aa0 BK309.out 0).trans rfl
           have hfz48_0 := Aa1 BK309.out 0
           go_wp2_with (first | (refine gl (some 50) Tryz.func78 rfl #[.slice A0_0 l0_0.length c0_0, .func (.func 79) #[] #[]] ?_; refine (slices_ContainsFunc_impl_Symbol_impl_Symbol_impl_SignatureFault_1.calls k3 _ _ l0_0  true _ (cq (Kd.C_below HR0_0.out HB.out)) HC0_0.out A46.out).mono ?_; rintro e w49 ⟨rfl, hb⟩; refine ⟨_, rfl, ?_⟩; replace BK309 := bb BK309 hb; replace HB := sb HB hb; (try clear hb)))
           go_ret
           exact ⟨er, hs HB.out⟩
          ·replace c47 := Bool.eq_false_iff.mpr c47
           subst c47
           rw [if_neg (show ¬ (false = true) by decide)] at H
           obtain rfl := Option.some.inj H
           have hcz50_0 : wr.cell? ⟨gb309, 0, none⟩ = some (.slice A0_0 l0_0.length c0_0) := (Aa0 BK309.out 0).trans rfl
           have hfz50_0 := Aa1 BK309.out 0
           go_wp2_with (first | (refine gl (some 50) Tryz.func78 rfl #[.slice A0_0 l0_0.length c0_0, .func (.func 79) #[] #[]] ?_; refine (slices_ContainsFunc_impl_Symbol_impl_Symbol_impl_SignatureFault_1.calls k3 _ _ l0_0  false _ (cq (Kd.C_below HR0_0.out HB.out)) HC0_0.out A46.out).mono ?_; rintro e w51 ⟨rfl, hb⟩; refine ⟨_, rfl, ?_⟩; replace BK309 := bb BK309 hb; replace HB := sb HB hb; (try clear hb)))
           go_ret
           exact ⟨er, hs HB.out⟩
def impl_arityOf.f (l0_0 : List (S90)) (a1 : Int) : Option (Int) := if a1 < 0 then (some 0) else (if 0 ≤ a1 then (if a1 < (l0_0.length : Int) then (some ((Aa7 l0_0 a1).f1)) else (none)) else (none))
set_option maxHeartbeats 8000000 in
set_option maxRecDepth 100000 in
theorem impl_arityOf.calls (A0_0 : Option Addr) (c0_0 : Nat) (l0_0 : List (S90)) (a1 : Int) (r : Int) (w : World) (hr0_0 : Kd.C k90 w A0_0 l0_0.length l0_0) (hc0_0 : l0_0.length ≤ c0_0) (h : impl_arityOf.f l0_0 a1 = some r) :
  Calls Tryz.prog 91 #[.agg #[.slice A0_0 l0_0.length c0_0], .int .i64 a1] w fun e w' => e = .returned (.int .i64 r) ∧ Below w.heap.size w w' := by
 have hu26 := Tryz.underlying26
 have HR0_0 := am hr0_0
 have HC0_0 := am hc0_0
 clear hr0_0 hc0_0
 have HB := am (Below.refl w.heap.size w)
 have H : (if a1 < 0 then (some 0) else (if 0 ≤ a1 then (if a1 < (l0_0.length : Int) then (some ((Aa7 l0_0 a1).f1)) else (none)) else (none))) = some r := h
 clear h
 by_cases c3 : a1 < 0
 ·rw [if_pos c3] at H
  have c3b0 : decide (a1 < 0) = true := decide_eq_true c3
  clear c3
  obtain rfl := Option.some.inj H
  go_enter Tryz.func91, Tryz.ntmps91
  go_wp2_with (first | (refine bx 2 rfl #[.slice A0_0 l0_0.length c0_0] 26 ?_; intro gb318 hg w4 hbox hb; have BK318 := am (hbox); have GW318 := am (bz hg (hq HB.out)); replace HB := sb HB hb; have GE318 := GW318; clear hb hbox hg))
  go_ret
  exact ⟨er, hs HB.out⟩
 ·rw [if_neg c3] at H
  have c3b0 : decide (a1 < 0) = false := decide_eq_false c3
  clear c3
  obtain ⟨c5b0, H⟩ := ife H
  obtain ⟨c6b0, H⟩ := ife H
  obtain rfl := Option.some.inj H
  go_enter Tryz.func91, Tryz.ntmps91
  go_wp2_with (first | (refine bx 2 rfl #[.slice A0_0 l0_0.length c0_0] 26 ?_; intro gb318 hg w7 hbox hb; have BK318 := am (hbox); have GW318 := am (bz hg (hq HB.out)); replace HB := sb HB hb; have GE318 := GW318; clear hb hbox hg; have hcz8_0 : w7.cell? ⟨gb318, 0, none⟩ = some (.slice A0_0 l0_0.length c0_0) := (Aa0 BK318.out 0).trans rfl; have hfz8_0 := Aa1 BK318.out 0; have p319 : 0 ≤ (a1 : Int) := od; have q319 : a1 < (l0_0.length : Int) := od; obtain ⟨ad319, e319, hx319_0, hx319_1⟩ := Ae9 HR0_0.out a1 p319 q319; cases e319; replace hx319_0 := cz HB.out hx319_0; replace hx319_1 := cz HB.out hx319_1; replace p319 := eq_true p319; replace q319 := eq_true q319))
  go_ret
  exact ⟨er, hs HB.out⟩
def impl_endOf.l0 : Nat → List Int → Int → Int → List (S90) → Option (Int)
 | 0, _, _, _, _ => none
 | k + 1, x1, x2, x7, x321000 => if x7 > 0 then (if x2 ≥ (x1.length : Int) then (some (wrap64 ((x1.length : Int) + 1))) else (if 0 ≤ x2 then (if x2 < (x1.length : Int) then ((impl_arityOf.f x321000 (rd x1 x2)).bind fun t322 => (impl_endOf.l0 k x1 (wrap64 (x2 + 1)) (wrap64 (x7 + (wrap64 (t322 - 1)))) x321000)) else (none)) else (none))) else (some x2)
def impl_endOf.f (k : Nat) (l0_0 : List (S90)) (l1 : List Int) (a2 : Int) : Option (Int) := impl_endOf.l0 k l1 a2 1 l0_0
def impl_endOf.T6 : Bool × List (List Nat × List Nat) := (true, [([], []), ([], []), ([], []), ([], []), ([2, 3], [2, 3]), ([4], [4]), ([1, 5], [1, 5]), ([6], [6]), ([0, 7], [0, 7]), ([8, 6, 0, 1, 2, 3, 4, 5, 6, 7, 8], [0, 8])])
def impl_endOf.B6 : List Nat := [0, 0, 0, 0, 12, 28, 62, 126, 255, 511]
theorem impl_endOf.tab6 : Am6 .any (Ar3 Tryz.f61 6) = impl_endOf.T6 := by kernel_rfl
theorem impl_endOf.bits6 : Ai2 impl_endOf.T6.2 impl_endOf.B6 = true := by kernel_rfl
set_option maxHeartbeats 8000000 in
set_option maxRecDepth 100000 in
theorem impl_endOf.calls (k : Nat) (A0_0 : Option Addr) (c0_0 : Nat) (l0_0 : List (S90)) (A1 : Option Addr) (c1 : Nat) (l1 : List Int) (a2 : Int) (r : Int) (w : World) (hr0_0 : Kd.C k90 w A0_0 l0_0.length l0_0) (hc0_0 : l0_0.length ≤ c0_0) (hr1 : Kd.C (Kd.int .i64) w A1 l1.length l1) (hc1 : l1.length ≤ c1) (h : impl_endOf.f k l0_0 l1 a2 = some r) :
  Calls Tryz.prog 61 #[.agg #[.slice A0_0 l0_0.length c0_0], .slice A1 l1.length c1, .int .i64 a2] w fun e w' => e = .returned (.int .i64 r) ∧ Below w.heap.size w w' := by
 have hu26 := Tryz.underlying26
 have HR0_0 := am hr0_0
 have HC0_0 := am hc0_0
 clear hr0_0 hc0_0
 have HR1 := am hr1
 have HC1 := am hc1
 clear hr1 hc1
 have HB := am (Below.refl w.heap.size w)
 have H : (impl_endOf.l0 k l1 a2 1 l0_0) = some r := h
 clear h
 have H' := am H
 clear H
 go_enter Tryz.func61, Tryz.ntmps61
 go_wp2_with (first | (refine bx 3 rfl #[.slice A0_0 l0_0.length c0_0] 26 ?_; intro gb320 hg w4 hbox hb; have BK320 := am (hbox); have GW320 := am (bz hg (hq HB.out)); replace HB := sb HB hb; have GE320 := GW320; clear hb hbox hg))
 go_loopg [2, 7] k (fun kq v2 v7 w' => ∃ (x2_1 : Int) (x7_1 : Int), v2 = .int .i64 x2_1 ∧ v7 = .int .i64 x7_1 ∧ Aside0 (impl_endOf.l0 kq l1 x2_1 x7_1 l0_0 = some r) ∧ Aside0 (kq ≤ k) ∧ Aside0 (w'.heap[gb320]? = some (.cells #[(.slice A0_0 l0_0.length c0_0)] 26 (0, 0))) ∧ Aside0 (Below w.heap.size w w'))
 case atStart => exact ⟨(a2), (1), et, et, H', ⟨Nat.le_refl _⟩, ⟨by refine bq ?_; exact BK320.out⟩, ⟨hs HB.out⟩⟩
 case round =>
  clear H'
  try clear c1
  obtain ⟨x2_1, x7_1, rfl, rfl, HA, HK1, BK320, HB⟩ := hrel
  cases gk with
  | zero => exact absurd HA.out (by simp [impl_endOf.l0])
  | succ k1 =>
   have H := HA.out
   clear HA
   simp only [impl_endOf.l0] at H
   by_cases c5 : x7_1 > 0
   ·rw [if_pos c5] at H
    have c5b0 : decide (0 < x7_1) = true := decide_eq_true c5
    clear c5
    by_cases c6 : x2_1 ≥ (l1.length : Int)
    ·rw [if_pos c6] at H
     have c6b0 : decide ((l1.length : Int) ≤ x2_1) = true := decide_eq_true c6
     clear c6
     obtain rfl := Option.some.inj H
     go_wp2
     go_ret
     exact ⟨er, hs HB.out⟩
    ·rw [if_neg c6] at H
     have c6b0 : decide ((l1.length : Int) ≤ x2_1) = false := decide_eq_false c6
     clear c6
     obtain ⟨c7b0, H⟩ := ife H
     obtain ⟨c8b0, H⟩ := ife H
     obtain ⟨t322, A9, H⟩ := ob H
     try dsimp only at H
     have H' := am H
     clear H
     try go_wp2
     replace BK320 := am (Ad0 BK320.out)
     replace HB := am (Ab3 HB.out)
     have p321 : 0 ≤ (x2_1 : Int) := od
     have q321 : x2_1 < (l1.length : Int) := od
     obtain ⟨ad321, e321, hx321_0⟩ := Kd.at_int HR1.out x2_1 p321 q321
     have hw321_0 := hx321_0
     cases e321
     replace hx321_0 := cz HB.out hx321_0
     replace p321 := eq_true p321
     replace q321 := eq_true q321
     refine Ak0 (n := 10) (S := fun w' => w'.cell? ⟨gb320, 0, none⟩ = some (.slice A0_0 l0_0.length c0_0) ∧ w'.cell? (ad321.add (x2_1).toNat) = some (.int .i64 (rd l1 x2_1))) (ds := []) #[false, false, false, false, false, false, false, false, false, false] (by kernel_rfl) rfl rfl ⟨(Aa0 BK320.out 0).trans rfl, (cz HB.out hw321_0)⟩ (fun hHeld => ?_); refine Af6 impl_endOf.tab6 impl_endOf.bits6 (fun HT_ HW_ => ?_)
     generalize wr.drew = w10 at BK320 HB hx321_0 hHeld ⊢
     refine pu 0 19 rfl rfl HT_ ?_
     refine pu 2 21 rfl rfl HT_ ?_
     refine pu 3 22 rfl rfl HT_ ?_
     refine pu 4 23 rfl rfl HT_ ?_
     refine tk 1 20 rfl rfl HT_ HW_ hHeld ?_
     refine tk 5 24 rfl rfl HT_ HW_ hHeld ?_
     refine on_ 6 (some 25) rfl rfl HT_ (fun K hK => ?_)
     refine gs Tryz.func91 #[.agg #[.slice A0_0 l0_0.length c0_0], .int .i64 (rd l1 x2_1)] ?_
     refine (impl_arityOf.calls _ _ l0_0 (rd l1 x2_1) t322 _ (cq (Kd.C_below HR0_0.out HB.out)) HC0_0.out A9.out).mono ?_
     rintro e w11 ⟨rfl, hb⟩
     refine ⟨_, rfl, ?_⟩
     replace BK320 := bb BK320 hb
     replace HB := sb HB hb
     (try clear hb)
     refine hK.out _ _ ⟨(Aa0 BK320.out 0).trans rfl, (cz HB.out hw321_0)⟩ (fun hHeld => ?_)
     clear hK K
     refine nr (some 25) ?_
     refine pu 7 26 rfl rfl HT_ ?_
     refine pu 8 27 rfl rfl HT_ ?_
     refine pu 9 7 rfl rfl HT_ ?_
     refine Am5 (Ai6 HT_.out (by kernel_rfl)) ?_
     try go_wp2
     go_roundg k1
     case measure => have := HK1.out; omega
     case rel => exact ⟨(wrap64 (x2_1 + 1)), (wrap64 (x7_1 + (wrap64 (t322 - 1)))), et, et, H', ⟨by have := HK1.out; omega⟩, ⟨by refine bq ?_; exact BK320.out⟩, ⟨hs HB.out⟩⟩
   ·rw [if_neg c5] at H
    have c5b0 : decide (0 < x7_1) = false := decide_eq_false c5
    clear c5
    obtain rfl := Option.some.inj H
    go_wp2
    go_ret
    exact ⟨er, hs HB.out⟩
def impl_isSymbol.f (l0_0 : List (S90)) (a1 : Int) : Option (Bool) := (impl_within.f a1 0 (wrap64 ((l0_0.length : Int) - 1))).bind fun t324 => (some t324)
set_option maxHeartbeats 8000000 in
set_option maxRecDepth 100000 in
theorem impl_isSymbol.calls (A0_0 : Option Addr) (c0_0 : Nat) (l0_0 : List (S90)) (a1 : Int) (r : Bool) (w : World) (hr0_0 : Kd.C k90 w A0_0 l0_0.length l0_0) (hc0_0 : l0_0.length ≤ c0_0) (h : impl_isSymbol.f l0_0 a1 = some r) :
  Calls Tryz.prog 90 #[.agg #[.slice A0_0 l0_0.length c0_0], .int .i64 a1] w fun e w' => e = .returned (.bool r) ∧ Below w.heap.size w w' := by
 have hu26 := Tryz.underlying26
 have HR0_0 := am hr0_0
 have HC0_0 := am hc0_0
 clear hr0_0 hc0_0
 have HB := am (Below.refl w.heap.size w)
 have H : ((impl_within.f a1 0 (wrap64 ((l0_0.length : Int) - 1))).bind fun t324 => (some t324)) = some r := h
 clear h
 obtain ⟨t324, A3, H⟩ := ob H
 try dsimp only at H
 obtain rfl := Option.some.inj H
 go_enter Tryz.func90, Tryz.ntmps90
 go_wp2_with (first | (refine bx 2 rfl #[.slice A0_0 l0_0.length c0_0] 26 ?_; intro gb323 hg w4 hbox hb; have BK323 := am (hbox); have GW323 := am (bz hg (hq HB.out)); replace HB := sb HB hb; have GE323 := GW323; clear hb hbox hg; have hcz5_0 : w4.cell? ⟨gb323, 0, none⟩ = some (.slice A0_0 l0_0.length c0_0) := (Aa0 BK323.out 0).trans rfl; have hfz5_0 := Aa1 BK323.out 0) | (refine gl (some 10) Tryz.func33 rfl #[.int .i64 a1, .int .i64 0, .int .i64 (wrap64 ((l0_0.length : Int) - 1))] ?_; (with_reducible refine (impl_within.calls a1 0 (wrap64 ((l0_0.length : Int) - 1)) t324 _ A3.out).mono ?_); rintro e w' ⟨rfl, ⟨nd, rfl⟩⟩; refine ⟨_, rfl, ?_⟩))
 go_ret
 exact ⟨er, hs HB.out⟩
def impl_isNode.f (l0_0 : List (S90)) (a1 : Int) : Option (Bool) := (impl_isSymbol.f l0_0 a1).bind fun t326 => (if t326 = true then (some true) else ((impl_within.f a1 (-12) (-1)).bind fun t327 => (some t327)))
set_option maxHeartbeats 8000000 in
set_option maxRecDepth 100000 in
theorem impl_isNode.calls (A0_0 : Option Addr) (c0_0 : Nat) (l0_0 : List (S90)) (a1 : Int) (r : Bool) (w : World) (hr0_0 : Kd.C k90 w A0_0 l0_0.length l0_0) (hc0_0 : l0_0.length ≤ c0_0) (h : impl_isNode.f l0_0 a1 = some r) :
  Calls Tryz.prog 60 #[.agg #[.slice A0_0 l0_0.length c0_0], .int .i64 a1] w fun e w' => e = .returned (.bool r) ∧ Below w.heap.size w w' := by
 have hu26 := Tryz.underlying26
 have HR0_0 := am hr0_0
 have HC0_0 := am hc0_0
 clear hr0_0 hc0_0
 have HB := am (Below.refl w.heap.size w)
 have H : ((impl_isSymbol.f l0_0 a1).bind fun t326 => (if t326 = true then (some true) else ((impl_within.f a1 (-12) (-1)).bind fun t327 => (some t327)))) = some r := h
 clear h
 obtain ⟨t326, A3, H⟩ := ob H
 try dsimp only at H
 by_cases c4 : t326 = true
 ·subst c4
  rw [if_pos rfl] at H
  obtain rfl := Option.some.inj H
  go_enter Tryz.func60, Tryz.ntmps60
  go_wp2_with (first | (refine bx 2 rfl #[.slice A0_0 l0_0.length c0_0] 26 ?_; intro gb325 hg w5 hbox hb; have BK325 := am (hbox); have GW325 := am (bz hg (hq HB.out)); replace HB := sb HB hb; have GE325 := GW325; clear hb hbox hg; have hcz6_0 : w5.cell? ⟨gb325, 0, none⟩ = some (.slice A0_0 l0_0.length c0_0) := (Aa0 BK325.out 0).trans rfl; have hfz6_0 := Aa1 BK325.out 0) | (refine gl (some 7) Tryz.func90 rfl #[.agg #[.slice A0_0 l0_0.length c0_0], .int .i64 a1] ?_; refine (impl_isSymbol.calls _ _ l0_0 a1 true _ (cq (Kd.C_below HR0_0.out HB.out)) HC0_0.out A3.out).mono ?_; rintro e w7 ⟨rfl, hb⟩; refine ⟨_, rfl, ?_⟩; replace BK325 := bb BK325 hb; replace HB := sb HB hb; (try clear hb)))
  go_ret
  exact ⟨er, hs HB.out⟩
 ·replace c4 := Bool.eq_false_iff.mpr c4
  subst c4
  rw [if_neg (show ¬ (false = true) by decide)] at H
  obtain ⟨t327, A8, H⟩ := ob H
  try dsimp only at H
  obtain rfl := Option.some.inj H
  go_enter Tryz.func60, Tryz.ntmps60
  go_wp2_with (first | (refine bx 2 rfl #[.slice A0_0 l0_0.length c0_0] 26 ?_; intro gb325 hg w9 hbox hb; have BK325 := am (hbox); have GW325 := am (bz hg (hq HB.out)); replace HB := sb HB hb; have GE325 := GW325; clear hb hbox hg; have hcz10_0 : w9.cell? ⟨gb325, 0, none⟩ = some (.slice A0_0 l0_0.length c0_0) := (Aa0 BK325.out 0).trans rfl; have hfz10_0 := Aa1 BK325.out 0) | (refine gl (some 7) Tryz.func90 rfl #[.agg #[.slice A0_0 l0_0.length c0_0], .int .i64 a1] ?_; refine (impl_isSymbol.calls _ _ l0_0 a1 false _ (cq (Kd.C_below HR0_0.out HB.out)) HC0_0.out A3.out).mono ?_; rintro e w11 ⟨rfl, hb⟩; refine ⟨_, rfl, ?_⟩; replace BK325 := bb BK325 hb; replace HB := sb HB hb; (try clear hb)) | (go_at_call 33; refine (impl_within.calls a1 (-12) (-1) t327 _ A8.out).mono ?_; rintro e w' ⟨rfl, ⟨nd, rfl⟩⟩))
  go_ret
  exact ⟨er, hs HB.out⟩
def impl_TermFault_1_with.f (a0 : Int) (l1 : List (S26)) : Option (Bool) := if 0 < (l1.length : Int) then ((impl_isNode.f ((Ac3 l1 0).f0) a0).bind fun t329 => (some (!t329))) else (none)
set_option maxHeartbeats 8000000 in
set_option maxRecDepth 100000 in
theorem impl_TermFault_1_with.calls (a0 : Int) (A1 : Option Addr) (l1 : List (S26)) (r : Bool) (w : World) (hr1 : Kd.C k26 w A1 l1.length l1) (h : impl_TermFault_1_with.f a0 l1 = some r) :
  Calls Tryz.prog 59 #[.int .i64 a0, .pointer A1] w fun e w' => e = .returned (.bool r) ∧ Below w.heap.size w w' := by
 have hu26 := Tryz.underlying26
 have HR1 := am hr1
 clear hr1
 have HB := am (Below.refl w.heap.size w)
 have H : (if 0 < (l1.length : Int) then ((impl_isNode.f ((Ac3 l1 0).f0) a0).bind fun t329 => (some (!t329))) else (none)) = some r := h
 clear h
 obtain ⟨c3, H⟩ := ifs H
 have c3b0 : decide (0 < (l1.length : Int)) = true := decide_eq_true c3
 have c3b1 : decide (0 < l1.length) = true := decide_eq_true (by omega)
 clear c3
 obtain ⟨t329, A4, H⟩ := ob H
 try dsimp only at H
 obtain rfl := Option.some.inj H
 have p328 : 0 ≤ (0 : Int) := (by omega)
 have q328 : 0 < (l1.length : Int) := od
 obtain ⟨ad328, A328_0, c328_0, e328, hx328_0, hl328_0, hi328_0⟩ := Af2 HR1.out 0 p328 q328
 cases e328
 have qi328 : (0 < l1.length) = True := eq_true (by omega)
 (try rw [show ((0 : Int)).toNat = 0 from rfl] at hx328_0)
 (try rw [Addr.add_zero'] at hx328_0)
 have HR328_0 := am hi328_0
 have HC328_0 := am hl328_0
 clear hi328_0 hl328_0
 replace p328 := eq_true p328
 replace q328 := eq_true q328
 go_enter Tryz.func59, Tryz.ntmps59
 go_wp2_with (first | (refine gl (some 6) Tryz.func60 rfl #[.agg #[.slice A328_0 ((Ac3 l1 0).f0).length c328_0], .int .i64 a0] ?_; refine (impl_isNode.calls _ _ ((Ac3 l1 0).f0) a0 t329 _ (cq HR328_0.out) HC328_0.out A4.out).mono ?_; rintro e w5 ⟨rfl, hb⟩; refine ⟨_, rfl, ?_⟩; replace HB := sb HB hb; (try clear hb)))
 go_ret
 exact ⟨er, hq HB.out⟩
end Go.Proofs.YtbdpnkpienpnaaaGreatDoor.P
namespace Go.Proofs.YtbdpnkpienpnaaaGreatDoor.P
open Go.RowKit Go.Proofs.YtbdpnkpienpnaaaGreatDoorW.PrintWords Go.Proofs.YtbdpnkpienpnaaaGreatDoorW.PrintLast Go.Proofs.YtbdpnkpienpnaaaGreatDoorW.PrintMore
attribute [local go_sem] Ae7 Ae6 Af7 Af8 Ad8 Ad9 Ae2 Ae4   -- for this text's walks alone
set_option linter.unusedVariables false
set_option linter.unusedSimpArgs false
def slices_IndexFunc_int64_int64_impl_TermFault_1.l0 : Nat → List Int → Int → Int → List (S26) → Option (Int)
 | 0, _, _, _, _ => none
 | k + 1, x0, x7, x8, x910 => if x8 < x7 then (if 0 ≤ x8 then (if x8 < (x0.length : Int) then ((impl_TermFault_1_with.f (rd x0 x8) x910).bind fun t331 => (if t331 = true then (some x8) else (slices_IndexFunc_int64_int64_impl_TermFault_1.l0 k x0 x7 (wrap64 (x8 + 1)) x910))) else (none)) else (none)) else (some (-1))
def slices_IndexFunc_int64_int64_impl_TermFault_1.f (k : Nat) (l0 : List Int) (l1_0 : List (S26)) : Option (Int) := slices_IndexFunc_int64_int64_impl_TermFault_1.l0 k l0 (l0.length : Int) 0 l1_0
set_option maxHeartbeats 8000000 in
set_option maxRecDepth 100000 in
theorem slices_IndexFunc_int64_int64_impl_TermFault_1.calls (k : Nat) (A0 : Option Addr) (c0 : Nat) (l0 : List Int) (A1_0 : Option Addr) (l1_0 : List (S26)) (r : Int) (w : World) (hr0 : Kd.C (Kd.int .i64) w A0 l0.length l0) (hc0 : l0.length ≤ c0) (hr1_0 : Kd.C k26 w A1_0 l1_0.length l1_0) (h : slices_IndexFunc_int64_int64_impl_TermFault_1.f k l0 l1_0 = some r) :
  Calls Tryz.prog 70 #[.slice A0 l0.length c0, .func (.func 59) #[] #[.pointer A1_0]] w fun e w' => e = .returned (.int .i64 r) ∧ Below w.heap.size w w' := by
 have HR0 := am hr0
 have HC0 := am hc0
 clear hr0 hc0
 have HR1_0 := am hr1_0
 clear hr1_0
 have HB := am (Below.refl w.heap.size w)
 have H : (slices_IndexFunc_int64_int64_impl_TermFault_1.l0 k l0 (l0.length : Int) 0 l1_0) = some r := h
 clear h
 have H' := am H
 clear H
 go_enter Tryz.func70, Tryz.ntmps70
 go_wp2
 go_loopg [8] k (fun kq v8 w' => ∃ (x8_1 : Int), v8 = .int .i64 x8_1 ∧ Aside0 (slices_IndexFunc_int64_int64_impl_TermFault_1.l0 kq l0 (l0.length : Int) x8_1 l1_0 = some r) ∧ Aside0 (kq ≤ k) ∧ Aside0 (Below w.heap.size w w'))
 case atStart => exact ⟨(0), et, H', ⟨Nat.le_refl _⟩, ⟨hq HB.out⟩⟩
 case round =>
  clear H'
  obtain ⟨x8_1, rfl, HA, HK1, HB⟩ := hrel
  cases gk with
  | zero => exact absurd HA.out (by simp [slices_IndexFunc_int64_int64_impl_TermFault_1.l0])
  | succ k1 =>
   have H := HA.out
   clear HA
   simp only [slices_IndexFunc_int64_int64_impl_TermFault_1.l0] at H
   by_cases c3 : x8_1 < (l0.length : Int)
   ·rw [if_pos c3] at H
    have c3b0 : decide (x8_1 < (l0.length : Int)) = true := decide_eq_true c3
    clear c3
    obtain ⟨c4b0, H⟩ := ife H
    obtain ⟨c5b0, H⟩ := ife H
    obtain ⟨t331, A6, H⟩ := ob H
    try dsimp only at H
    by_cases c7 : t331 = true
    ·subst c7
     rw [if_pos rfl] at H
     obtain rfl := Option.some.inj H
     have p330 : 0 ≤ (x8_1 : Int) := od
     have q330 : x8_1 < (l0.length : Int) := od
     obtain ⟨ad330, e330, hx330_0⟩ := Kd.at_int HR0.out x8_1 p330 q330
     cases e330
     replace hx330_0 := cz HB.out hx330_0
     replace p330 := eq_true p330
     replace q330 := eq_true q330
     go_wp2_with (first | ((first | (refine gl (some 16) Tryz.func59 rfl #[.int .i64 (rd l0 x8_1), .pointer A1_0] ?_) | ((with_reducible refine Af4 _ rfl ?_); refine An1 (some 16) rfl rfl Tryz.func59 (by kernel_rfl) rfl #[.int .i64 (rd l0 x8_1), .pointer A1_0] rfl rfl (by first | rfl | (simp <;> first | rfl | exact ⟨rfl, rfl⟩ | exact ⟨rfl, rfl, rfl⟩) | ((try simp only [List.map_toArray, List.map_cons, List.map_nil]); first | done | rfl | (simp only [List.length_drop, List.length_take]; rfl))) ?_)); refine (impl_TermFault_1_with.calls (rd l0 x8_1) _ l1_0 true _ (cq (Kd.C_below HR1_0.out HB.out)) A6.out).mono ?_; rintro e w8 ⟨rfl, hb⟩; refine ⟨_, rfl, ?_⟩; replace HB := sb HB hb; (try clear hb)))
     go_ret
     exact ⟨er, hq HB.out⟩
    ·replace c7 := Bool.eq_false_iff.mpr c7
     subst c7
     rw [if_neg (show ¬ (false = true) by decide)] at H
     have H' := am H
     clear H
     have p330 : 0 ≤ (x8_1 : Int) := od
     have q330 : x8_1 < (l0.length : Int) := od
     obtain ⟨ad330, e330, hx330_0⟩ := Kd.at_int HR0.out x8_1 p330 q330
     cases e330
     replace hx330_0 := cz HB.out hx330_0
     replace p330 := eq_true p330
     replace q330 := eq_true q330
     go_wp2_with (first | ((first | (refine gl (some 16) Tryz.func59 rfl #[.int .i64 (rd l0 x8_1), .pointer A1_0] ?_) | ((with_reducible refine Af4 _ rfl ?_); refine An1 (some 16) rfl rfl Tryz.func59 (by kernel_rfl) rfl #[.int .i64 (rd l0 x8_1), .pointer A1_0] rfl rfl (by first | rfl | (simp <;> first | rfl | exact ⟨rfl, rfl⟩ | exact ⟨rfl, rfl, rfl⟩) | ((try simp only [List.map_toArray, List.map_cons, List.map_nil]); first | done | rfl | (simp only [List.length_drop, List.length_take]; rfl))) ?_)); refine (impl_TermFault_1_with.calls (rd l0 x8_1) _ l1_0 false _ (cq (Kd.C_below HR1_0.out HB.out)) A6.out).mono ?_; rintro e w9 ⟨rfl, hb⟩; refine ⟨_, rfl, ?_⟩; replace HB := sb HB hb; (try clear hb)))
     go_roundg k1
     case measure => have := HK1.out; omega
     case rel => exact ⟨(wrap64 (x8_1 + 1)), et, H', ⟨by have := HK1.out; omega⟩, ⟨hq HB.out⟩⟩
   ·rw [if_neg c3] at H
    have c3b0 : decide (x8_1 < (l0.length : Int)) = false := decide_eq_false c3
    clear c3
    obtain rfl := Option.some.inj H
    go_wp2
    go_ret
    exact ⟨er, hq HB.out⟩
def slices_ContainsFunc_int64_int64_impl_TermFault_1.f (k : Nat) (l0 : List Int) (l1_0 : List (S26)) : Option (Bool) := (slices_IndexFunc_int64_int64_impl_TermFault_1.f k l0 l1_0).bind fun t332 => (some (decide (t332 ≥ 0)))
set_option maxHeartbeats 8000000 in
set_option maxRecDepth 100000 in
theorem slices_ContainsFunc_int64_int64_impl_TermFault_1.calls (k : Nat) (A0 : Option Addr) (c0 : Nat) (l0 : List Int) (A1_0 : Option Addr) (l1_0 : List (S26)) (r : Bool) (w : World) (hr0 : Kd.C (Kd.int .i64) w A0 l0.length l0) (hc0 : l0.length ≤ c0) (hr1_0 : Kd.C k26 w A1_0 l1_0.length l1_0) (h : slices_ContainsFunc_int64_int64_impl_TermFault_1.f k l0 l1_0 = some r) :
  Calls Tryz.prog 36 #[.slice A0 l0.length c0, .func (.func 59) #[] #[.pointer A1_0]] w fun e w' => e = .returned (.bool r) ∧ Below w.heap.size w w' := by
 have HR0 := am hr0
 have HC0 := am hc0
 clear hr0 hc0
 have HR1_0 := am hr1_0
 clear hr1_0
 have HB := am (Below.refl w.heap.size w)
 have H : ((slices_IndexFunc_int64_int64_impl_TermFault_1.f k l0 l1_0).bind fun t332 => (some (decide (t332 ≥ 0)))) = some r := h
 clear h
 obtain ⟨t332, A3, H⟩ := ob H
 try dsimp only at H
 obtain rfl := Option.some.inj H
 go_enter Tryz.func36, Tryz.ntmps36
 go_wp2_with (first | (refine gl (some 7) Tryz.func70 rfl #[.slice A0 l0.length c0, .func (.func 59) #[] #[.pointer A1_0]] ?_; refine (slices_IndexFunc_int64_int64_impl_TermFault_1.calls k _ _ l0 _ l1_0 t332 _ (cq HR0.out) HC0.out (cq HR1_0.out) A3.out).mono ?_; rintro e w4 ⟨rfl, hb⟩; refine ⟨_, rfl, ?_⟩; replace HB := sb HB hb; (try clear hb)))
 go_ret
 exact ⟨er, hq HB.out⟩
def impl_TermFault.j0 : Nat → List Int → Bool → List (S90) → Option (Int)
 | 0, _, _, _ => none
 | k + 1, x1, x18, x334000 => if x18 = true then (some 2) else ((slices_ContainsFunc_int64_int64_impl_TermFault_1.f k x1 [(⟨x334000⟩ : S26)]).bind fun t335 => (if t335 = true then (some 3) else ((impl_endOf.f k x334000 x1 0).bind fun t336 => (if t336 = (x1.length : Int) then (some 0) else (some 1)))))
def impl_TermFault.f (k : Nat) (l0_0 : List (S90)) (l1 : List Int) : Option (Int) := (impl_SignatureFault.f k l0_0).bind fun t334 => (if t334 = 0 then (if (l1.length : Int) < 1 then (impl_TermFault.j0 k l1 true l0_0) else (impl_TermFault.j0 k l1 (decide ((l1.length : Int) > 24)) l0_0)) else (some t334))
set_option maxHeartbeats 8000000 in
set_option maxRecDepth 100000 in
theorem impl_TermFault.calls (k : Nat) (A0_0 : Option Addr) (c0_0 : Nat) (l0_0 : List (S90)) (A1 : Option Addr) (c1 : Nat) (l1 : List Int) (r : Int) (w : World) (hr0_0 : Kd.C k90 w A0_0 l0_0.length l0_0) (hc0_0 : l0_0.length ≤ c0_0) (hr1 : Kd.C (Kd.int .i64) w A1 l1.length l1) (hc1 : l1.length ≤ c1) (h : impl_TermFault.f k l0_0 l1 = some r) :
  Calls Tryz.prog 28 #[.agg #[.slice A0_0 l0_0.length c0_0], .slice A1 l1.length c1] w fun e w' => e = .returned (.int .i64 r) ∧ Below w.heap.size w w' := by
 have hu26 := Tryz.underlying26
 have HR0_0 := am hr0_0
 have HC0_0 := am hc0_0
 clear hr0_0 hc0_0
 have HR1 := am hr1
 have HC1 := am hc1
 clear hr1 hc1
 have HB := am (Below.refl w.heap.size w)
 have H : ((impl_SignatureFault.f k l0_0).bind fun t334 => (if t334 = 0 then (if (l1.length : Int) < 1 then (impl_TermFault.j0 k l1 true l0_0) else (impl_TermFault.j0 k l1 (decide ((l1.length : Int) > 24)) l0_0)) else (some t334))) = some r := h
 clear h
 obtain ⟨t334, A3, H⟩ := ob H
 try dsimp only at H
 by_cases c4 : t334 = 0
 ·rw [if_pos c4] at H
  obtain ⟨c4b0, c4b1⟩ := bqt c4; clear c4
  have HC5 := am H
  clear H
  go_enter Tryz.func28, Tryz.ntmps28
  go_upto_region 4 with (first | ((with_reducible refine Ad2 (N := 2) rfl ?_); (try (refine Ad6 (by rfl) ?_; dsimp only)); refine Ae3 ?hg (N := 2) ?hd (cs := #[.slice A0_0 l0_0.length c0_0]) (t := 26) ?hr ?_; (case hd => rfl); (case hg => rfl); (case hr => first | (go_simp; done) | (go_simp; rfl)); intro gb333 hg w6 hbox hb; have BK333 := am (hbox); have GW333 := am (bz hg (hq HB.out)); replace HB := sb HB hb; have GE333 := GW333; clear hb hbox hg; have hcz7_0 : w6.cell? ⟨gb333, 0, none⟩ = some (.slice A0_0 l0_0.length c0_0) := (Aa0 BK333.out 0).trans rfl; have hfz7_0 := Aa1 BK333.out 0) | (refine gl (some 7) Tryz.func45 rfl #[.agg #[.slice A0_0 l0_0.length c0_0]] ?_; refine (impl_SignatureFault.calls k _ _ l0_0 t334 _ (cq (Kd.C_below HR0_0.out HB.out)) HC0_0.out A3.out).mono ?_; rintro e w8 ⟨rfl, hb⟩; refine ⟨_, rfl, ?_⟩; replace BK333 := bb BK333 hb; replace HB := sb HB hb; (try clear hb)))
  (try simp only [Act.put, lsp])
  go_cut [18] (fun v18 wc => ∃ (kq : Nat) (x18_4 : Bool), v18 = .bool x18_4 ∧ Aside0 (impl_TermFault.j0 kq l1 x18_4 l0_0 = some r) ∧ Aside0 (kq ≤ k) ∧ Aside0 (wc.heap[gb333]? = some (.cells #[(.slice A0_0 l0_0.length c0_0)] 26 (0, 0))) ∧ Aside0 (Below w.heap.size w wc))
  case first =>
   have H := HC5.out
   clear HC5
   by_cases c9 : (l1.length : Int) < 1
   ·rw [if_pos c9] at H
    have c9b0 : decide ((l1.length : Int) < 1) = true := decide_eq_true c9
    have c9b1 : decide (l1.length < 1) = true := decide_eq_true (by omega)
    clear c9
    (first | rw [c9b0] | (simp only [Ag7, Ah2]; rw [c9b0]) | skip)
    have H' := am H
    clear H
    go_wp2
    go_meet
    case rel => exact ⟨_, (true), et, H', ⟨by first | omega | exact Nat.le_refl _⟩, ⟨by refine bq ?_; exact BK333.out⟩, ⟨hs HB.out⟩⟩
   ·rw [if_neg c9] at H
    have c9b0 : decide ((l1.length : Int) < 1) = false := decide_eq_false c9
    have c9b1 : decide (l1.length < 1) = false := decide_eq_false (by omega)
    clear c9
    (first | rw [c9b0] | (simp only [Ag7, Ah2]; rw [c9b0]) | skip)
    have H' := am H
    clear H
    go_wp2
    go_meet
    case rel => exact ⟨_, (decide ((l1.length : Int) > 24)), et, H', ⟨by first | omega | exact Nat.le_refl _⟩, ⟨by refine bq ?_; exact BK333.out⟩, ⟨hs HB.out⟩⟩
  case rest =>
   clear HC5
   try clear c1; try clear c4; try clear c4b0; try clear c4b1; try clear c9; try clear c9b0; try clear c9b1; try clear hcz7_0; try clear hfz7_0
   obtain ⟨kq, x18_4, rfl, HA, HJ4, BK333, HB⟩ := hcut
   cases kq with
   | zero => exact absurd HA.out (by simp [impl_TermFault.j0])
   | succ kj4 =>
    have H := HA.out
    clear HA
    simp only [impl_TermFault.j0] at H
    by_cases c10 : x18_4 = true
    ·subst c10
     rw [if_pos rfl] at H
     obtain rfl := Option.some.inj H
     go_wp2
     go_ret
     exact ⟨er, hs HB.out⟩
    ·replace c10 := Bool.eq_false_iff.mpr c10
     subst c10
     rw [if_neg (show ¬ (false = true) by decide)] at H
     obtain ⟨t335, A11, H⟩ := ob H
     try dsimp only at H
     by_cases c12 : t335 = true
     ·subst c12
      rw [if_pos rfl] at H
      obtain rfl := Option.some.inj H
      go_wp2_with (first | (refine gl (some 21) Tryz.func36 rfl #[.slice A1 l1.length c1, .func (.func 59) #[] #[.pointer (some ⟨gb333, 0, none⟩)]] ?_; refine (slices_ContainsFunc_int64_int64_impl_TermFault_1.calls kj4 _ _ l1 _ [(⟨l0_0⟩ : S26)] true _ (cq (Kd.C_below HR1.out HB.out)) HC1.out (Ak3 (bq BK333.out) (cq (Kd.C_below HR0_0.out HB.out)) (by exact HC0_0.out)) A11.out).mono ?_; rintro e w13 ⟨rfl, hb⟩; refine ⟨_, rfl, ?_⟩; replace BK333 := bb BK333 hb; replace HB := sb HB hb; (try clear hb)))
      go_ret
      exact ⟨er, hs HB.out⟩
     ·replace c12 := Bool.eq_false_iff.mpr c12
      subst c12
      rw [if_neg (show ¬ (false = true) by decide)] at H
      obtain ⟨t336, A14, H⟩ := ob H
      try dsimp only at H
      by_cases c15 : t336 = (l1.length : Int)
      ·rw [if_pos c15] at H
       obtain ⟨c15b0, c15b1⟩ := bqt c15; clear c15
       obtain rfl := Option.some.inj H
       go_wp2_with (first | (refine gl (some 21) Tryz.func36 rfl #[.slice A1 l1.length c1, .func (.func 59) #[] #[.pointer (some ⟨gb333, 0, none⟩)]] ?_; refine (slices_ContainsFunc_int64_int64_impl_TermFault_1.calls kj4 _ _ l1 _ [(⟨l0_0⟩ : S26)] false _ (cq (Kd.C_below HR1.out HB.out)) HC1.out (Ak3 (bq BK333.out) (cq (Kd.C_below HR0_0.out HB.out)) (by exact HC0_0.out)) A11.out).mono ?_; rintro e w16 ⟨rfl, hb⟩; refine ⟨_, rfl, ?_⟩; replace BK333 := bb BK333 hb; replace HB := sb HB hb; (try clear hb); have hcz17_0 : w16.cell? ⟨gb333, 0, none⟩ = some (.slice A0_0 l0_0.length c0_0) := (Aa0 BK333.out 0).trans rfl; have hfz17_0 := Aa1 BK333.out 0) | (refine gl (some 24) Tryz.func61 rfl #[.agg #[.slice A0_0 l0_0.length c0_0], .slice A1 l1.length c1, .int .i64 0] ?_; refine (impl_endOf.calls kj4 _ _ l0_0 _ _ l1 0 t336 _ (cq (Kd.C_below HR0_0.out HB.out)) HC0_0.out (cq (Kd.C_below HR1.out HB.out)) HC1.out A14.out).mono ?_; rintro e w18 ⟨rfl, hb⟩; refine ⟨_, rfl, ?_⟩; replace BK333 := bb BK333 hb; replace HB := sb HB hb; (try clear hb)))
       go_ret
       exact ⟨er, hs HB.out⟩
      ·rw [if_neg c15] at H
       obtain ⟨c15b0, c15b1⟩ := bqf c15
       obtain rfl := Option.some.inj H
       go_wp2_with (first | (refine gl (some 21) Tryz.func36 rfl #[.slice A1 l1.length c1, .func (.func 59) #[] #[.pointer (some ⟨gb333, 0, none⟩)]] ?_; refine (slices_ContainsFunc_int64_int64_impl_TermFault_1.calls kj4 _ _ l1 _ [(⟨l0_0⟩ : S26)] false _ (cq (Kd.C_below HR1.out HB.out)) HC1.out (Ak3 (bq BK333.out) (cq (Kd.C_below HR0_0.out HB.out)) (by exact HC0_0.out)) A11.out).mono ?_; rintro e w19 ⟨rfl, hb⟩; refine ⟨_, rfl, ?_⟩; replace BK333 := bb BK333 hb; replace HB := sb HB hb; (try clear hb); have hcz20_0 : w19.cell? ⟨gb333, 0, none⟩ = some (.slice A0_0 l0_0.length c0_0) := (Aa0 BK333.out 0).trans rfl; have hfz20_0 := Aa1 BK333.out 0) | (refine gl (some 24) Tryz.func61 rfl #[.agg #[.slice A0_0 l0_0.length c0_0], .slice A1 l1.length c1, .int .i64 0] ?_; refine (impl_endOf.calls kj4 _ _ l0_0 _ _ l1 0 t336 _ (cq (Kd.C_below HR0_0.out HB.out)) HC0_0.out (cq (Kd.C_below HR1.out HB.out)) HC1.out A14.out).mono ?_; rintro e w21 ⟨rfl, hb⟩; refine ⟨_, rfl, ?_⟩; replace BK333 := bb BK333 hb; replace HB := sb HB hb; (try clear hb)))
       go_ret
       exact ⟨er, hs HB.out⟩
 ·rw [if_neg c4] at H
  obtain ⟨c4b0, c4b1⟩ := bqf c4
  obtain rfl := Option.some.inj H
  go_enter Tryz.func28, Tryz.ntmps28
  go_wp2_with (first | ((with_reducible refine Ad2 (N := 2) rfl ?_); (try (refine Ad6 (by rfl) ?_; dsimp only)); refine Ae3 ?hg (N := 2) ?hd (cs := #[.slice A0_0 l0_0.length c0_0]) (t := 26) ?hr ?_; (case hd => rfl); (case hg => rfl); (case hr => first | (go_simp; done) | (go_simp; rfl)); intro gb333 hg w22 hbox hb; have BK333 := am (hbox); have GW333 := am (bz hg (hq HB.out)); replace HB := sb HB hb; have GE333 := GW333; clear hb hbox hg; have hcz23_0 : w22.cell? ⟨gb333, 0, none⟩ = some (.slice A0_0 l0_0.length c0_0) := (Aa0 BK333.out 0).trans rfl; have hfz23_0 := Aa1 BK333.out 0) | (refine gl (some 7) Tryz.func45 rfl #[.agg #[.slice A0_0 l0_0.length c0_0]] ?_; refine (impl_SignatureFault.calls k _ _ l0_0 t334 _ (cq (Kd.C_below HR0_0.out HB.out)) HC0_0.out A3.out).mono ?_; rintro e w24 ⟨rfl, hb⟩; refine ⟨_, rfl, ?_⟩; replace BK333 := bb BK333 hb; replace HB := sb HB hb; (try clear hb)))
  go_ret
  exact ⟨er, hs HB.out⟩
def slices_Clone_int64_int64.f (l0 : List Int) : Option (List Int) := if l0.length < 17592186044416 then some l0 else none
set_option maxHeartbeats 8000000 in
set_option maxRecDepth 100000 in
theorem slices_Clone_int64_int64.calls (A0 : Option Addr) (c0 : Nat) (l0 : List Int) (r : List Int) (w : World) (hr0 : Kd.C (Kd.int .i64) w A0 l0.length l0) (hc0 : l0.length ≤ c0) (h : slices_Clone_int64_int64.f l0 = some r) :
  Calls Tryz.prog 69 #[.slice A0 l0.length c0] w fun e w' => ∃ v0_ : Value, e = .returned (v0_) ∧ Kd.R (Kd.int .i64) 2 w' w.heap.size (fun _ => True) v0_ r ∧ Below w.heap.size w w' := by
 unfold slices_Clone_int64_int64.f at h
 by_cases c2 : l0.length < 17592186044416
 case neg => rw [if_neg c2] at h; cases h
 rw [if_pos c2] at h
 obtain rfl := Option.some.inj h
 have q_ : ∀ (w : World) (a : Option Addr) (n c n' c' : Nat), (binOp .eql 27 (.slice a n c) (.slice none n' c')).run Tryz.prog w = .ok (.bool a.isNone) w := fun w a n c n' c' => Lib.run_eql_slice_nil w _ _ a n c n' c' Tryz.underlying27
 cases A0 with
 | none =>
  have h0 : l0 = [] := by
   rcases Nat.eq_zero_or_pos l0.length with h | h
   ·exact List.eq_nil_of_length_eq_zero h
   ·obtain ⟨ad, e, _⟩ := hr0.2.2 h
    cases e
  subst h0
  go_enter Tryz.func69, Tryz.ntmps69
  go_wp2
  go_ret
  exact ⟨_, rfl, Kd.R_nil _ _ _ _ _, Below.refl _ _⟩
 | some ad =>
  have HR0 := am hr0
  have HC0 := am hc0
  clear hr0 hc0 h
  have HB := am (Below.refl w.heap.size w)
  have LMc2 := am c2
  clear c2
  obtain ⟨y0_, hy0_⟩ : ∃ y_ : List Int, y_ = ([] : List Int) := ⟨_, rfl⟩
  have Ny0_ := am hy0_
  clear hy0_
  obtain ⟨y1_, hy1_⟩ : ∃ y_ : List Int, y_ = y0_ ++ l0 := ⟨_, rfl⟩
  have Ny1_ := am hy1_
  have Nz_ := am (show y1_ = l0 by rw [hy1_, Ny0_.out]; rfl)
  clear hy1_
  go_enter Tryz.func69, Tryz.ntmps69
  go_wp2_with (first | (refine rl 5 rfl 2 [] ?_; intro v467 w3 ho4 hb hg_ hnew_; clear hg_ hnew_; (first | rw [← Ny0_.out] at ho4 | (simp only [Int.reduceToNat] at ho4; rw [← Ny0_.out] at ho4)); have HO468 := am (Kd.R_lower ho4 (Aa8 (hq HB.out))); replace HB := sb HB hb; clear hb ho4) | ((with_reducible refine Ae8 (b := .append) (xs := #[.tmp 5, .tmp 6]) rfl ?_); at_builtin; refine Kd.R_append_rows (Kd.int .i64) (w0 := w) w.heap.size rfl (.tmp 5) (.tmp 6) 27 2 (.int .i64 0) 8 rfl Tryz.underlying27 An3 rfl (by decide) (by omega) v467 y0_ l0 _ _ _ (fun _ => True) (fun _ => False) rfl rfl ?aO ?aR (fun _ _ h => h) (fun _ h => h.elim) ?aF ?aB ?aS ?aL ?_; (case aR => exact cq (Kd.C_below HR0.out HB.out)); (case aB => exact (hq HB.out)); (case aF => exact (fun _ _ => trivial)); (case aO => exact (rq HO468.out)); (case aS => exact (Aa8 (hq HB.out))); (case aL => have := LMc2.out; rw [Ny0_.out, List.length_nil]; omega); intro v470 w5 ho hb hg hat; rw [← Ny1_.out] at ho; replace HB := am (hb); have HO471 := am (ho); clear HO468; clear ho hb hg hat))
  go_ret
  exact ⟨_, rfl, by rw [← Nz_.out]; (with_reducible repeat (first | apply Kd.R_alloc | apply Kd.R_drewN | apply Kd.R_drew)); exact HO471.out, hq HB.out⟩
def impl_ownEquation.f (l0_0 : List Int) (l0_1 : List Int) : Option (List Int × List Int) := (slices_Clone_int64_int64.f l0_0).bind fun t339 => ((slices_Clone_int64_int64.f l0_1).bind fun t342 => (some (t339, t342)))
def impl_ownEquation.T1 : Bool × List (List Nat × List Nat) := (true, [([], []), ([0], [0]), ([1], [1]), ([], []), ([3], [3]), ([4, 2], [4]), ([2, 5], [2, 5]), ([6, 5, 0, 1, 2, 3, 4, 5, 6], [6])])
def impl_ownEquation.B1 : List Nat := [0, 1, 3, 0, 8, 31, 63, 127]
theorem impl_ownEquation.tab1 : Am6 .any (Ar3 Tryz.f62 1) = impl_ownEquation.T1 := by kernel_rfl
theorem impl_ownEquation.bits1 : Ai2 impl_ownEquation.T1.2 impl_ownEquation.B1 = true := by kernel_rfl
set_option maxHeartbeats 8000000 in
set_option maxRecDepth 100000 in
theorem impl_ownEquation.calls (A0_0 : Option Addr) (c0_0 : Nat) (l0_0 : List Int) (A0_1 : Option Addr) (c0_1 : Nat) (l0_1 : List Int) (r1 : List Int) (r2 : List Int) (w : World) (hr0_0 : Kd.C (Kd.int .i64) w A0_0 l0_0.length l0_0) (hc0_0 : l0_0.length ≤ c0_0) (hr0_1 : Kd.C (Kd.int .i64) w A0_1 l0_1.length l0_1) (hc0_1 : l0_1.length ≤ c0_1) (h : impl_ownEquation.f l0_0 l0_1 = some (r1, r2)) :
  Calls Tryz.prog 62 #[.agg #[.slice A0_0 l0_0.length c0_0, .slice A0_1 l0_1.length c0_1]] w fun e w' => ∃ v0_ v1_ : Value, e = .returned (.agg #[v0_, v1_]) ∧ Kd.R (Kd.int .i64) 2 w' w.heap.size (fun k_ => some k_ ≠ (v1_ : Value).ownBlock) v0_ r1 ∧ Kd.R (Kd.int .i64) 2 w' w.heap.size (fun k_ => some k_ ≠ (v0_ : Value).ownBlock) v1_ r2 ∧ Below w.heap.size w w' := by
 have hu29 := Tryz.underlying29
 have HR0_0 := am hr0_0
 have HC0_0 := am hc0_0
 clear hr0_0 hc0_0
 have HR0_1 := am hr0_1
 have HC0_1 := am hc0_1
 clear hr0_1 hc0_1
 have HB := am (Below.refl w.heap.size w)
 have H : ((slices_Clone_int64_int64.f l0_0).bind fun t339 => ((slices_Clone_int64_int64.f l0_1).bind fun t342 => (some (t339, t342)))) = some (r1, r2) := h
 clear h
 obtain ⟨t339, A2, H⟩ := ob H
 try dsimp only at H
 obtain ⟨t342, A3, H⟩ := ob H
 try dsimp only at H
 simp only [Option.some.injEq, Prod.mk.injEq] at H
 obtain ⟨rfl, rfl⟩ := H
 go_enter Tryz.func62, Tryz.ntmps62
 try go_wp2_with (first | (refine bx 1 rfl #[.slice A0_0 l0_0.length c0_0, .slice A0_1 l0_1.length c0_1] 29 ?_; intro gb337 hg w4 hbox hb; have BK337 := am (hbox); have GW337 := am (bz hg (hq HB.out)); replace HB := sb HB hb; have GE337 := GW337; clear hb hbox hg) | (refine bx 2 rfl #[.slice none 0 0, .slice none 0 0] 29 ?_; intro gb338 hg w5 hbox hb; have BK338 := am (hbox); have GW338 := am (bz hg (hs HB.out)); replace HB := sb HB hb; have GE338 := GW338; have NB337_338 := nl hg BK337; have NB338_337 := ng hg BK337; replace BK337 := bb BK337 hb; clear hb hbox hg))
 replace BK337 := am (Ad0 BK337.out)
 replace BK338 := am (Ad0 BK338.out)
 replace HB := am (Ab3 HB.out)
 refine Ak0 (n := 8) (S := fun w' => w'.cell? ⟨gb337, 0, none⟩ = some (.slice A0_0 l0_0.length c0_0) ∧ w'.cell? ⟨gb337, 1, none⟩ = some (.slice A0_1 l0_1.length c0_1)) (ds := []) #[false, false, false, false, false, false, false, false] (by kernel_rfl) rfl rfl ⟨(Aa0 BK337.out 0).trans rfl, (Aa0 BK337.out 1).trans rfl⟩ (fun hHeld => ?_); refine Af6 impl_ownEquation.tab1 impl_ownEquation.bits1 (fun HT_ HW_ => ?_)
 generalize w5.drew = w6 at BK337 BK338 HB hHeld ⊢
 refine pu 0 3 rfl rfl HT_ ?_
 refine pu 3 6 rfl rfl HT_ ?_
 refine tk 1 4 rfl rfl HT_ HW_ hHeld ?_
 refine tk 4 7 rfl rfl HT_ HW_ hHeld ?_
 refine on_ 2 (some 5) rfl rfl HT_ (fun K hK => ?_)
 refine gs Tryz.func69 #[.slice A0_0 l0_0.length c0_0] ?_
 refine (slices_Clone_int64_int64.calls _ _ l0_0 t339 _ (cq (Kd.C_below HR0_0.out HB.out)) HC0_0.out A2.out).mono ?_
 rintro e w7 ⟨v340, rfl, ho0, hb⟩
 refine ⟨_, rfl, ?_⟩
 have HO341 := am (Kd.R_lower ho0 (Aa8 (hs HB.out)))
 replace BK337 := bb BK337 hb
 replace BK338 := bb BK338 hb
 replace HB := sb HB hb
 (try clear hb)
 (try clear hk)
 (try clear ho0)
 refine hK.out _ _ ⟨(Aa0 BK337.out 0).trans rfl, (Aa0 BK337.out 1).trans rfl⟩ (fun hHeld => ?_)
 clear hK K
 refine nr (some 5) ?_
 refine on_ 5 (some 8) rfl rfl HT_ (fun K hK => ?_)
 refine gs Tryz.func69 #[.slice A0_1 l0_1.length c0_1] ?_
 refine (slices_Clone_int64_int64.calls _ _ l0_1 t342 _ (cq (Kd.C_below HR0_1.out HB.out)) HC0_1.out A3.out).mono ?_
 rintro e w8 ⟨v343, rfl, ho0, hb⟩
 refine ⟨_, rfl, ?_⟩
 have HO344 := am (Kd.R_lower (Kd.R_new' ho0 (Kd.R_lt (rq HO341.out))) (Aa8 (hs HB.out)))
 replace HO341 := am (Kd.R_elder' (rq HO341.out) (Kd.R_base ho0) hb)
 replace BK337 := bb BK337 hb
 replace BK338 := bb BK338 hb
 replace HB := sb HB hb
 (try clear hb)
 (try clear hk)
 (try clear ho0)
 obtain ⟨Ao9, co9, eo9⟩ := Kd.R_slice HO344.out
 (first | subst eo9 | (injection eo9 with f1_ f2_ f3_; have f4_ := f1_.symm; have f5_ := f3_.symm; clear f1_ f2_ f3_; subst f4_; subst f5_))
 obtain ⟨Ao10, co10, eo10⟩ := Kd.R_slice HO341.out
 (first | subst eo10 | (injection eo10 with f1_ f2_ f3_; have f4_ := f1_.symm; have f5_ := f3_.symm; clear f1_ f2_ f3_; subst f4_; subst f5_))
 refine hK.out _ _ ⟨(Aa0 BK337.out 0).trans rfl, (Aa0 BK337.out 1).trans rfl⟩ (fun hHeld => ?_)
 clear hK K
 refine nr (some 8) ?_
 refine pu 6 9 rfl rfl HT_ ?_
 refine on_ 7 none rfl rfl HT_ (fun K hK => ?_)
 have hs11 : w8.cell? ⟨gb338, 0, none⟩ = some (.slice none 0 0) := (Aa0 BK338.out 0).trans rfl
 have hfs11 := Aa1 BK338.out 0
 have hns11_0 := NB337_338.out
 have hms11_0 := NB338_337.out
 have hs12 : w8.cell? ⟨gb338, 1, none⟩ = some (.slice none 0 0) := (Aa0 BK338.out 1).trans rfl
 have hfs12 := Aa1 BK338.out 1
 have hns12_0 := NB337_338.out
 have hms12_0 := NB338_337.out
 refine At8 (w1 := ?_) (by rfl) rfl ?_ ?_
 rotate_left
 ·go_simp
  rfl
 refine hK.out _ _ ⟨((Af9 (p := ⟨gb338, _, none⟩) NB337_338.out _).trans (((Af9 (p := ⟨gb338, _, none⟩) NB337_338.out _).trans (hHeld.1)))), ((Af9 (p := ⟨gb338, _, none⟩) NB337_338.out _).trans (((Af9 (p := ⟨gb338, _, none⟩) NB337_338.out _).trans (hHeld.2))))⟩ (fun hHeld => ?_)
 clear hK K
 refine Am5 (Ai6 HT_.out (by kernel_rfl)) ?_
 try go_wp2
 refine bodyPost_ret (results_cell_row rfl _ _ gb338 29 #[.slice Ao10 t339.length co10, .slice Ao9 t342.length co9] (0, 0) _ rfl (by refine bq ?_; refine Aa6 (cs := #[.slice Ao10 t339.length co10, .slice none 0 0]) ?_ 1 _ rfl; refine bq ?_; refine Aa6 (cs := #[.slice none 0 0, .slice none 0 0]) ?_ 0 _ rfl; refine bq ?_; exact BK338.out) Tryz.underlying29 rfl (by kernel_rfl)) rfl ?_
 exact ⟨_, _, er, rq (Kd.R_mono (Kd.R_far (p := ⟨gb338, 1, none⟩) (Kd.R_far (p := ⟨gb338, 0, none⟩) (Kd.R_types HO341.out BK338.out (by decide)) (fun _ hk => hk.2) (.slice Ao10 t339.length co10)) (fun _ hk => hk.2) (.slice Ao9 t342.length co9)) (fun _ hk => hk.1.2)), rq (Kd.R_mono (Kd.R_far (p := ⟨gb338, 1, none⟩) (Kd.R_far (p := ⟨gb338, 0, none⟩) (Kd.R_types HO344.out BK338.out (by decide)) (fun _ hk => hk.2) (.slice Ao10 t339.length co10)) (fun _ hk => hk.2) (.slice Ao9 t342.length co9)) (fun _ hk => hk.1.2)), hs HB.out⟩
def slices_Index_int64_int64.l0 : Nat → List Int → Int → Int → Int → Option (Int)
 | 0, _, _, _, _ => none
 | k + 1, x0, x1, x7, x8 => if x8 < x7 then (if 0 ≤ x8 then (if x8 < (x0.length : Int) then (if x1 = (rd x0 x8) then (some x8) else (slices_Index_int64_int64.l0 k x0 x1 x7 (wrap64 (x8 + 1)))) else (none)) else (none)) else (some (-1))
def slices_Index_int64_int64.f (k : Nat) (l0 : List Int) (a1 : Int) : Option (Int) := slices_Index_int64_int64.l0 k l0 a1 (l0.length : Int) 0
set_option maxHeartbeats 8000000 in
set_option maxRecDepth 100000 in
theorem slices_Index_int64_int64.calls (k : Nat) (A0 : Option Addr) (c0 : Nat) (l0 : List Int) (a1 : Int) (r : Int) (w : World) (hr0 : Kd.C (Kd.int .i64) w A0 l0.length l0) (hc0 : l0.length ≤ c0) (h : slices_Index_int64_int64.f k l0 a1 = some r) :
  Calls Tryz.prog 64 #[.slice A0 l0.length c0, .int .i64 a1] w fun e w' => e = .returned (.int .i64 r) ∧ Drawn0 w w' := by
 have HR0 := am hr0
 have HC0 := am hc0
 clear hr0 hc0
 have H : (slices_Index_int64_int64.l0 k l0 a1 (l0.length : Int) 0) = some r := h
 clear h
 have H' := am H
 clear H
 go_enter Tryz.func64, Tryz.ntmps64
 go_wp2
 go_loopg [8] k (fun kq v8 w' => ∃ (x8_1 : Int), v8 = .int .i64 x8_1 ∧ Aside0 (slices_Index_int64_int64.l0 kq l0 a1 (l0.length : Int) x8_1 = some r) ∧ Aside0 (kq ≤ k) ∧ Drawn0 w w')
 case atStart => exact ⟨(0), et, H', ⟨Nat.le_refl _⟩, by repeat (first | exact Drawn0.refl _ | apply Drawn0.step)⟩
 case round =>
  clear H'
  obtain ⟨x8_1, rfl, HA, HK1, ⟨m1, rfl⟩⟩ := hrel
  cases gk with
  | zero => exact absurd HA.out (by simp [slices_Index_int64_int64.l0])
  | succ k1 =>
   have H := HA.out
   clear HA
   simp only [slices_Index_int64_int64.l0] at H
   by_cases c3 : x8_1 < (l0.length : Int)
   ·rw [if_pos c3] at H
    have c3b0 : decide (x8_1 < (l0.length : Int)) = true := decide_eq_true c3
    clear c3
    obtain ⟨c4b0, H⟩ := ife H
    obtain ⟨c5b0, H⟩ := ife H
    by_cases c6 : a1 = (rd l0 x8_1)
    ·rw [if_pos c6] at H
     obtain ⟨c6b0, c6b1⟩ := bqt c6; clear c6
     obtain rfl := Option.some.inj H
     have p345 : 0 ≤ (x8_1 : Int) := od
     have q345 : x8_1 < (l0.length : Int) := od
     obtain ⟨ad345, e345, hx345_0⟩ := Kd.at_int HR0.out x8_1 p345 q345
     cases e345
     replace p345 := eq_true p345
     replace q345 := eq_true q345
     go_wp2
     go_ret
     exact ⟨et, by repeat (first | exact Drawn0.refl _ | apply Drawn0.step)⟩
    ·rw [if_neg c6] at H
     obtain ⟨c6b0, c6b1⟩ := bqf c6
     have H' := am H
     clear H
     have p345 : 0 ≤ (x8_1 : Int) := od
     have q345 : x8_1 < (l0.length : Int) := od
     obtain ⟨ad345, e345, hx345_0⟩ := Kd.at_int HR0.out x8_1 p345 q345
     cases e345
     replace p345 := eq_true p345
     replace q345 := eq_true q345
     go_wp2
     go_roundg k1
     case measure => have := HK1.out; omega
     case rel => exact ⟨(wrap64 (x8_1 + 1)), et, H', ⟨by have := HK1.out; omega⟩, by repeat (first | exact Drawn0.refl _ | apply Drawn0.step)⟩
   ·rw [if_neg c3] at H
    have c3b0 : decide (x8_1 < (l0.length : Int)) = false := decide_eq_false c3
    clear c3
    obtain rfl := Option.some.inj H
    go_wp2
    go_ret
    exact ⟨et, by repeat (first | exact Drawn0.refl _ | apply Drawn0.step)⟩
def slices_Contains_int64_int64.f (k : Nat) (l0 : List Int) (a1 : Int) : Option (Bool) := (slices_Index_int64_int64.f k l0 a1).bind fun t346 => (some (decide (t346 ≥ 0)))
set_option maxHeartbeats 8000000 in
set_option maxRecDepth 100000 in
theorem slices_Contains_int64_int64.calls (k : Nat) (A0 : Option Addr) (c0 : Nat) (l0 : List Int) (a1 : Int) (r : Bool) (w : World) (hr0 : Kd.C (Kd.int .i64) w A0 l0.length l0) (hc0 : l0.length ≤ c0) (h : slices_Contains_int64_int64.f k l0 a1 = some r) :
  Calls Tryz.prog 63 #[.slice A0 l0.length c0, .int .i64 a1] w fun e w' => e = .returned (.bool r) ∧ Drawn0 w w' := by
 have HR0 := am hr0
 have HC0 := am hc0
 clear hr0 hc0
 have H : ((slices_Index_int64_int64.f k l0 a1).bind fun t346 => (some (decide (t346 ≥ 0)))) = some r := h
 clear h
 obtain ⟨t346, A3, H⟩ := ob H
 try dsimp only at H
 obtain rfl := Option.some.inj H
 go_enter Tryz.func63, Tryz.ntmps63
 go_wp2_with (first | (refine gl (some 7) Tryz.func64 rfl #[.slice A0 l0.length c0, .int .i64 a1] ?_; refine (slices_Index_int64_int64.calls k _ _ l0 a1 t346 _ (cq HR0.out) HC0.out A3.out).mono ?_; rintro e w' ⟨rfl, ⟨nd, rfl⟩⟩; refine ⟨_, rfl, ?_⟩))
 go_ret
 exact ⟨et, by repeat (first | exact Drawn0.refl _ | apply Drawn0.step)⟩
end Go.Proofs.YtbdpnkpienpnaaaGreatDoor.P
