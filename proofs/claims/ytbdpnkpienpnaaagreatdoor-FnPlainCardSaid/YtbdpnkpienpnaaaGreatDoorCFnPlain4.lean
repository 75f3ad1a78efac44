/- A part of the proof of the law FnPlain. -/
import Derived.Laws.StructEq
import Derived.Test.YtbdpnkpienpnaaaGreatDoorCFnPlain0
import Derived.Test.YtbdpnkpienpnaaaGreatDoorCFnPlain1
import Derived.Test.YtbdpnkpienpnaaaGreatDoorCFnPlain2
import Derived.Test.YtbdpnkpienpnaaaGreatDoorCFnPlain3
import Derived.Test.YtbdpnkpienpnaaaGreatDoorCFnPlain20
namespace Go.Proofs.YtbdpnkpienpnaaaGreatDoor.P
open Go.RowKit Go.Proofs.YtbdpnkpienpnaaaGreatDoorW.PrintWords Go.Proofs.YtbdpnkpienpnaaaGreatDoorW.PrintLast Go.Proofs.YtbdpnkpienpnaaaGreatDoorW.PrintMore
attribute [local go_sem] Ae7 Ae6 Af7 Af8 Ad8 Ad9 Ae2 Ae4   -- for this text's walks alone
set_option linter.unusedVariables false
set_option linter.unusedSimpArgs false
mutual
def spec_l2Bent.l0 : Nat → Int → Int → List Int → Int → List (S90) → Option ((List (S90)) × Int)
 | 0, _, _, _, _, _ => none
 | k + 1, x4, x5, x1000, x1001, x139000 => if x5 < x4 then (if 0 ≤ x5 then (if x5 < (x139000.length : Int) then (spec_l2Bent.l0 k x4 (wrap64 (x5 + 1)) x1000 x1001 (x139000.set (x5 : Int).toNat (⟨(Aa7 x139000 x5).f0, 1⟩ : S90))) else (none)) else (none)) else (some (x139000, x1001))
def spec_l2Bent.l1 : Nat → List Int → Int → List (S90) → Option ((List (S90)) × Int)
 | 0, _, _, _ => none
 | k + 1, x1000, x1001, x139000 => if (x139000.length : Int) < 7 then (if x139000.length < 5864062014805 then (spec_l2Bent.l1 k x1000 x1001 (x139000 ++ [(⟨(⟨#[122]⟩ : ByteArray), 0⟩ : S90)])) else (none)) else (some (x139000, x1001))
end
def spec_l2Bent.f (k : Nat) (s0_0 : List Int) (s0_1 : Int) : Option ((List (S90)) × Int) := (spec_l2Sig.f k s0_0 s0_1).bind fun bt134 => ((spec_l1Chance.f s0_0 bt134.2 9).bind fun bt139 => (if bt139.1 = true then ((spec_l1Next.f s0_0 bt139.2 7).bind fun bt141 => (if bt141.1 = 0 then (some (([] : List (S90)), bt141.2)) else (if bt141.1 = 1 then (if 0 ≤ (wrap64 ((bt134.1.length : Int) - 1)) then (if (wrap64 ((bt134.1.length : Int) - 1)) < (bt134.1.length : Int) then (some ((bt134.1.set ((wrap64 ((bt134.1.length : Int) - 1)) : Int).toNat (⟨(⟨#[97, 98, 99, 100]⟩ : ByteArray), (Aa7 bt134.1 (wrap64 ((bt134.1.length : Int) - 1))).f1⟩ : S90)), bt141.2)) else (none)) else (none)) else (if bt141.1 = 2 then ((spec_l1Next.f s0_0 bt141.2 (bt134.1.length : Int)).bind fun bt144 => (if 0 ≤ bt144.1 then (if bt144.1 < (bt134.1.length : Int) then (some ((bt134.1.set (bt144.1 : Int).toNat (⟨(⟨#[97, 66]⟩ : ByteArray), (Aa7 bt134.1 bt144.1).f1⟩ : S90)), bt144.2)) else (none)) else (none))) else (if bt141.1 = 3 then ((spec_l1Next.f s0_0 bt141.2 (bt134.1.length : Int)).bind fun bt147 => ((spec_l1Pick.f s0_0 bt147.2 (([3, (-1)] : List Int))).bind fun bt152 => (if 0 ≤ bt147.1 then (if bt147.1 < (bt134.1.length : Int) then (some ((bt134.1.set (bt147.1 : Int).toNat (⟨(Aa7 bt134.1 bt147.1).f0, bt152.1⟩ : S90)), bt152.2)) else (none)) else (none)))) else (if bt141.1 = 4 then (if 0 < (bt134.1.length : Int) then (if bt134.1.length < 5864062014805 then (some ((bt134.1 ++ [(⟨(Aa7 bt134.1 0).f0, (Aa7 bt134.1 0).f1⟩ : S90)]), bt141.2)) else (none)) else (none)) else (if bt141.1 = 5 then (spec_l2Bent.l0 k (bt134.1.length : Int) 0 s0_0 bt141.2 bt134.1) else (spec_l2Bent.l1 k s0_0 bt141.2 bt134.1)))))))) else (some (bt134.1, bt139.2))))
def spec_l2Bent.T13 : Bool × List (List Nat × List Nat) := (true, [([], []), ([0], [0]), ([], []), ([], []), ([2, 3], [2, 3]), ([1, 4, 0, 1, 2, 3, 4], [1, 4]), ([5, 0, 1, 2, 3, 4], [5]), ([6, 4, 0, 1, 2, 3, 4], [6])])
def spec_l2Bent.B13 : List Nat := [0, 1, 0, 0, 12, 31, 63, 127]
theorem spec_l2Bent.tab13 : Am6 .any (Ar3 Tryz.f24 13) = spec_l2Bent.T13 := by kernel_rfl
theorem spec_l2Bent.bits13 : Ai2 spec_l2Bent.T13.2 spec_l2Bent.B13 = true := by kernel_rfl
def spec_l2Bent.T15 : Bool × List (List Nat × List Nat) := (true, [([], []), ([0], [0]), ([], []), ([], []), ([2, 3], [2, 3]), ([], []), ([], []), ([5, 6, 4], [5, 6]), ([1, 4, 0, 1, 2, 3, 4, 5, 6, 7], [1, 4]), ([8, 0, 1, 2, 3, 4, 5, 6, 7], [8]), ([9, 7, 7, 0, 1, 2, 3, 4, 5, 6, 7], [7, 9])])
def spec_l2Bent.B15 : List Nat := [0, 1, 0, 0, 12, 0, 0, 124, 255, 511, 1023]
theorem spec_l2Bent.tab15 : Am6 .any (Ar3 Tryz.f24 15) = spec_l2Bent.T15 := by kernel_rfl
theorem spec_l2Bent.bits15 : Ai2 spec_l2Bent.T15.2 spec_l2Bent.B15 = true := by kernel_rfl
def spec_l2Bent.T17 : Bool × List (List Nat × List Nat) := (true, [([], []), ([0], [0]), ([], []), ([2], [2]), ([3], [3]), ([4], [4]), ([5], [5]), ([1, 6], [1, 6]), ([0, 1, 2, 3, 4, 5, 6, 7], []), ([8, 7, 7, 0, 1, 2, 3, 4, 5, 6, 7], [7, 8])])
def spec_l2Bent.B17 : List Nat := [0, 1, 0, 4, 12, 28, 60, 127, 255, 511]
theorem spec_l2Bent.tab17 : Am6 .any (Ar3 Tryz.f24 17) = spec_l2Bent.T17 := by kernel_rfl
theorem spec_l2Bent.bits17 : Ai2 spec_l2Bent.T17.2 spec_l2Bent.B17 = true := by kernel_rfl
set_option maxHeartbeats 8000000 in
set_option maxRecDepth 100000 in
theorem spec_l2Bent.calls (k : Nat) (g : Nat) (s0_0 : List Int) (s0_1 : Int) (r1 : List (S90)) (r2 : Int) (w0 w : World) (hI : Aa2 w0 w g s0_0 s0_1) (hB : Below w0.heap.size w0 w) (h : spec_l2Bent.f k s0_0 s0_1 = some (r1, r2)) :
  Calls Tryz.prog 24 #[.pointer (some ⟨g, 0, none⟩)] w fun e w' => ∃ v0_ : Value, e = .returned (.agg #[v0_]) ∧ Kd.R k90 90 w' w.heap.size (fun _ => True) v0_ r1 ∧ Aa2 w0 w' g s0_0 r2 ∧ Below w0.heap.size w0 w' ∧ Aa3 w w' g none := by
 have hu26 := Tryz.underlying26
 have hu90 := Tryz.underlying90
 have HI0 := am hI
 have HK := am (Aa3.refl w g none)
 have HL := am hB.size
 clear hI
 have HW0 := am hB.size
 have HB := am hB
 clear hB
 have H : ((spec_l2Sig.f k s0_0 s0_1).bind fun bt134 => ((spec_l1Chance.f s0_0 bt134.2 9).bind fun bt139 => (if bt139.1 = true then ((spec_l1Next.f s0_0 bt139.2 7).bind fun bt141 => (if bt141.1 = 0 then (some (([] : List (S90)), bt141.2)) else (if bt141.1 = 1 then (if 0 ≤ (wrap64 ((bt134.1.length : Int) - 1)) then (if (wrap64 ((bt134.1.length : Int) - 1)) < (bt134.1.length : Int) then (some ((bt134.1.set ((wrap64 ((bt134.1.length : Int) - 1)) : Int).toNat (⟨(⟨#[97, 98, 99, 100]⟩ : ByteArray), (Aa7 bt134.1 (wrap64 ((bt134.1.length : Int) - 1))).f1⟩ : S90)), bt141.2)) else (none)) else (none)) else (if bt141.1 = 2 then ((spec_l1Next.f s0_0 bt141.2 (bt134.1.length : Int)).bind fun bt144 => (if 0 ≤ bt144.1 then (if bt144.1 < (bt134.1.length : Int) then (some ((bt134.1.set (bt144.1 : Int).toNat (⟨(⟨#[97, 66]⟩ : ByteArray), (Aa7 bt134.1 bt144.1).f1⟩ : S90)), bt144.2)) else (none)) else (none))) else (if bt141.1 = 3 then ((spec_l1Next.f s0_0 bt141.2 (bt134.1.length : Int)).bind fun bt147 => ((spec_l1Pick.f s0_0 bt147.2 (([3, (-1)] : List Int))).bind fun bt152 => (if 0 ≤ bt147.1 then (if bt147.1 < (bt134.1.length : Int) then (some ((bt134.1.set (bt147.1 : Int).toNat (⟨(Aa7 bt134.1 bt147.1).f0, bt152.1⟩ : S90)), bt152.2)) else (none)) else (none)))) else (if bt141.1 = 4 then (if 0 < (bt134.1.length : Int) then (if bt134.1.length < 5864062014805 then (some ((bt134.1 ++ [(⟨(Aa7 bt134.1 0).f0, (Aa7 bt134.1 0).f1⟩ : S90)]), bt141.2)) else (none)) else (none)) else (if bt141.1 = 5 then (spec_l2Bent.l0 k (bt134.1.length : Int) 0 s0_0 bt141.2 bt134.1) else (spec_l2Bent.l1 k s0_0 bt141.2 bt134.1)))))))) else (some (bt134.1, bt139.2))))) = some (r1, r2) := h
 clear h
 obtain ⟨⟨t134, t137⟩, A2, H⟩ := ob H
 try dsimp only at H
 obtain ⟨⟨t139, t140⟩, A3, H⟩ := ob H
 try dsimp only at H
 by_cases c4 : t139 = true
 ·subst c4
  rw [if_pos rfl] at H
  obtain ⟨⟨t141, t142⟩, A5, H⟩ := ob H
  try dsimp only at H
  by_cases c6 : t141 = 0
  ·rw [if_pos c6] at H
   obtain ⟨c6b0, c6b1⟩ := bqt c6; clear c6
   simp only [Option.some.injEq, Prod.mk.injEq] at H
   obtain ⟨rfl, rfl⟩ := H
   go_enter Tryz.func24, Tryz.ntmps24
   go_wp2_with (first | (refine bx 2 rfl #[.slice none 0 0] 26 ?_; intro gb133 hg w7 hbox hb; replace HB := am (Ab8 (hsk HB.out (Aa2.ge HI0.out)) hb); have BK133 := am (hbox); have GW133 := am ((by rw [hg]; exact (Ab7 (w := w) (g := g) (row := none) (kq HK.out)) : w.heap.size ≤ gb133)); replace HK := am (Aa3.trans (kq HK.out) (Aa3.of_below hb g none) (.inl rfl)); have GE133 := am (Nat.le_trans HW0.out GW133.out); have NB0_133 := am ((by rw [hg]; exact Nat.ne_of_lt (Aa2.lt (show Aa2 w0 _ g s0_0 s0_1 from Aa2.q HI0.out)) : g ≠ gb133)); replace HI0 := Aa2.bl HI0 hb; have NB133_0 := am NB0_133.out.symm; clear hb hbox hg) | (refine gl (some 7) Tryz.func54 rfl #[.pointer (some ⟨g, 0, none⟩)] ?_; refine (spec_l2Sig.calls k g s0_0 s0_1 t134 t137 w0 _ (Aa2.q HI0.out) (hsk HB.out (Aa2.ge HI0.out)) A2.out).mono ?_; rintro e w8 ⟨v135, rfl, ho0, hi, hb, hk⟩; refine ⟨_, rfl, ?_⟩; replace BK133 := kb hk BK133 NB133_0; have HO136 := am (Kd.R_lower ho0 (Ab7 (w := w) (g := g) (row := none) (ks HK.out))); replace HK := am (Aa3.trans (ks HK.out) hk (.inl rfl)); replace HB := am (hb); replace HI0 := am (hi); (try clear hb); (try clear hk); (try clear hi); (try clear ho0)) | (refine bx 3 rfl #[.slice none 0 0] 26 ?_; intro gb138 hg w9 hbox hb; replace HO136 := rb HO136 hb; replace HB := am (Ab8 (hsk HB.out (Aa2.ge HI0.out)) hb); have BK138 := am (hbox); have GW138 := am ((by rw [hg]; exact (Ab7 (w := w) (g := g) (row := none) (ks HK.out)) : w.heap.size ≤ gb138)); replace HK := am (Aa3.trans (ks HK.out) (Aa3.of_below hb g none) (.inl rfl)); have GE138 := am (Nat.le_trans HW0.out GW138.out); have NB133_138 := nl hg BK133; have NB138_133 := ng hg BK133; replace BK133 := bb BK133 hb; have NB0_138 := am ((by rw [hg]; exact Nat.ne_of_lt (Aa2.lt (show Aa2 w0 _ g s0_0 t137 from Aa2.q HI0.out)) : g ≠ gb138)); replace HI0 := Aa2.bl HI0 hb; have NB138_0 := am NB0_138.out.symm; clear hb hbox hg; obtain ⟨Ao10, co10, rfl⟩ := Kd.R_slice HO136.out; have hnb11 := NB138_133.out; have hnc11 := NB133_138.out; have hnb12 := NB138_0.out; have hnc12 := NB0_138.out; have hcz13_0 : w9.cell? ⟨gb138, 0, none⟩ = some (.slice none 0 0) := (Aa0 BK138.out 0).trans rfl; have hfz13_0 := Aa1 BK138.out 0) | (refine gl (some 12) Tryz.func55 rfl #[.pointer (some ⟨g, 0, none⟩), .int .i64 9] ?_; refine (spec_l1Chance.calls g s0_0 t137 9 true t140 w0 _ (Aa2.q HI0.out) (hsk HB.out (Aa2.ge HI0.out)) A3.out).mono ?_; rintro e w14 ⟨rfl, hi, hb, hk⟩; refine ⟨_, rfl, ?_⟩; replace BK133 := am (Aa3.blk hk (g' := gb133) (o := .cells #[.slice none 0 0] 26 (0, 0)) (by refine bq ?_; refine Aa4 ?_ NB133_138.out _; refine bq ?_; exact BK133.out) NB133_0.out (by simp)); replace HO136 := am (Kd.R_mono (Kd.R_keep (Aa2.apart (show Aa2 w0 _ g s0_0 t137 from Aa2.q HI0.out) (rq ((Kd.R_mono (Kd.R_far (p := ⟨gb138, 0, none⟩) (Kd.R_types HO136.out BK138.out (by decide)) (fun _ hk => hk.2) (.slice Ao10 t134.length co10)) (fun _ h_ => h_.1)))) (by decide)) hk (fun _ h => h.2)) (fun _ h => h.1)); replace BK138 := am (Aa3.blk hk (g' := gb138) (o := .cells #[.slice Ao10 t134.length co10] 26 (0, 0)) (by refine bq ?_; refine Aa6 (cs := #[.slice none 0 0]) ?_ 0 _ rfl; refine bq ?_; exact BK138.out) NB138_0.out (by simp)); replace HK := am (Aa3.trans (ks HK.out) hk (.inl rfl)); replace HB := am (hb); replace HI0 := am (hi); (try clear hb); (try clear hk); (try clear hi)) | (refine gl (some 16) Tryz.func56 rfl #[.pointer (some ⟨g, 0, none⟩), .int .i64 7] ?_; refine (spec_l1Next.calls g s0_0 t140 7 t141 t142 w0 _ (Aa2.q HI0.out) (hsk HB.out (Aa2.ge HI0.out)) A5.out).mono ?_; rintro e w15 ⟨rfl, hi, hb, hk⟩; refine ⟨_, rfl, ?_⟩; replace BK133 := kb hk BK133 NB133_0; replace HO136 := Aa2.rk HI0 HO136 hk; replace BK138 := kb hk BK138 NB138_0; replace HK := am (Aa3.trans (ks HK.out) hk (.inl rfl)); replace HB := am (hb); replace HI0 := am (hi); (try clear hb); (try clear hk); (try clear hi); have hnb16 := NB133_0.out; have hnc16 := NB0_133.out; have hcz17_0 : w15.cell? ⟨gb133, 0, none⟩ = some (.slice none 0 0) := (Aa0 BK133.out 0).trans rfl; have hfz17_0 := Aa1 BK133.out 0))
   refine bodyPost_ret (results_cell_row rfl _ _ gb133 26 #[.slice none 0 0] (0, 0) _ rfl (by refine bq ?_; refine Aa6 (cs := #[.slice none 0 0]) ?_ 0 _ rfl; refine bq ?_; exact BK133.out) Tryz.underlying26 rfl (by kernel_rfl)) rfl ?_
   exact ⟨_, er, by first | exact Kd.R_nil _ _ _ _ _ | exact Kd.N_nil _ _ _ _ _ | exact Kd.V_nil _ _ _ _ _ | exact Kd.Q_nil _ _ _ _ _ | exact Kd.S_nil _ _ _ _ _, Aa2.q HI0.out, hsk HB.out (Aa2.ge HI0.out), ks HK.out⟩
  ·rw [if_neg c6] at H
   obtain ⟨c6b0, c6b1⟩ := bqf c6
   by_cases c18 : t141 = 1
   ·rw [if_pos c18] at H
    obtain ⟨c18b0, c18b1⟩ := bqt c18; clear c18
    obtain ⟨ji19, hji19⟩ : ∃ j_ : Int, (wrap64 ((t134.length : Int) - 1)) = j_ := ⟨_, rfl⟩
    replace H : (if 0 ≤ (ji19) then (if (ji19) < (t134.length : Int) then (some ((t134.set ((ji19) : Int).toNat (⟨(⟨#[97, 98, 99, 100]⟩ : ByteArray), (Aa7 t134 (ji19)).f1⟩ : S90)), t142)) else (none)) else (none)) = some (r1, r2) := by first | (rw [hji19] at H; exact H) | (simp only [hji19] at H ⊢; exact H)
    (try rw [hji19] at A2)
    (try rw [hji19] at A3)
    (try rw [hji19] at A5)
    have hji19w : (IntKind.i64.wrap ((t134.length : Int) - 1)) = ji19 := (Ag7 _).trans hji19
    obtain ⟨c20b0, H⟩ := ife H
    obtain ⟨c21b0, H⟩ := ife H
    obtain ⟨y143, hy143⟩ : ∃ y_ : List (S90), y_ = (t134.set ((ji19) : Int).toNat (⟨(⟨#[97, 98, 99, 100]⟩ : ByteArray), (Aa7 t134 (ji19)).f1⟩ : S90)) := ⟨_, rfl⟩
    replace H : (some (y143, t142)) = some (r1, r2) := by first | (rw [hy143]; with_reducible exact H) | (have H2_ := (Option.bind_some _ _).symm.trans H; rw [hy143]; with_reducible exact H2_) | (have H2_ := (Option.bind_some _ _).symm.trans H; with_reducible exact H2_) | with_reducible exact H | (rw [hy143]; exact H) | exact H
    have Ny143 := am hy143
    clear hy143
    simp only [Option.some.injEq, Prod.mk.injEq] at H
    obtain ⟨rfl, rfl⟩ := H
    go_enter Tryz.func24, Tryz.ntmps24
    go_wp2_with (first | (refine bx 2 rfl #[.slice none 0 0] 26 ?_; intro gb133 hg w23 hbox hb; replace HB := am (Ab8 (hsk HB.out (Aa2.ge HI0.out)) hb); have BK133 := am (hbox); have GW133 := am ((by rw [hg]; exact (Ab7 (w := w) (g := g) (row := none) (kq HK.out)) : w.heap.size ≤ gb133)); replace HK := am (Aa3.trans (kq HK.out) (Aa3.of_below hb g none) (.inl rfl)); have GE133 := am (Nat.le_trans HW0.out GW133.out); have NB0_133 := am ((by rw [hg]; exact Nat.ne_of_lt (Aa2.lt (show Aa2 w0 _ g s0_0 s0_1 from Aa2.q HI0.out)) : g ≠ gb133)); replace HI0 := Aa2.bl HI0 hb; have NB133_0 := am NB0_133.out.symm; clear hb hbox hg) | (refine gl (some 7) Tryz.func54 rfl #[.pointer (some ⟨g, 0, none⟩)] ?_; refine (spec_l2Sig.calls k g s0_0 s0_1 t134 t137 w0 _ (Aa2.q HI0.out) (hsk HB.out (Aa2.ge HI0.out)) A2.out).mono ?_; rintro e w24 ⟨v135, rfl, ho0, hi, hb, hk⟩; refine ⟨_, rfl, ?_⟩; replace BK133 := kb hk BK133 NB133_0; have HO136 := am (Kd.R_lower ho0 (Ab7 (w := w) (g := g) (row := none) (ks HK.out))); replace HK := am (Aa3.trans (ks HK.out) hk (.inl rfl)); replace HB := am (hb); replace HI0 := am (hi); (try clear hb); (try clear hk); (try clear hi); (try clear ho0)) | (refine bx 3 rfl #[.slice none 0 0] 26 ?_; intro gb138 hg w25 hbox hb; replace HO136 := rb HO136 hb; replace HB := am (Ab8 (hsk HB.out (Aa2.ge HI0.out)) hb); have BK138 := am (hbox); have GW138 := am ((by rw [hg]; exact (Ab7 (w := w) (g := g) (row := none) (ks HK.out)) : w.heap.size ≤ gb138)); replace HK := am (Aa3.trans (ks HK.out) (Aa3.of_below hb g none) (.inl rfl)); have GE138 := am (Nat.le_trans HW0.out GW138.out); have NB133_138 := nl hg BK133; have NB138_133 := ng hg BK133; replace BK133 := bb BK133 hb; have NB0_138 := am ((by rw [hg]; exact Nat.ne_of_lt (Aa2.lt (show Aa2 w0 _ g s0_0 t137 from Aa2.q HI0.out)) : g ≠ gb138)); replace HI0 := Aa2.bl HI0 hb; have NB138_0 := am NB0_138.out.symm; clear hb hbox hg; obtain ⟨Ao26, co26, rfl⟩ := Kd.R_slice HO136.out; have hnb27 := NB138_133.out; have hnc27 := NB133_138.out; have hnb28 := NB138_0.out; have hnc28 := NB0_138.out; have hcz29_0 : w25.cell? ⟨gb138, 0, none⟩ = some (.slice none 0 0) := (Aa0 BK138.out 0).trans rfl; have hfz29_0 := Aa1 BK138.out 0) | (refine gl (some 12) Tryz.func55 rfl #[.pointer (some ⟨g, 0, none⟩), .int .i64 9] ?_; refine (spec_l1Chance.calls g s0_0 t137 9 true t140 w0 _ (Aa2.q HI0.out) (hsk HB.out (Aa2.ge HI0.out)) A3.out).mono ?_; rintro e w30 ⟨rfl, hi, hb, hk⟩; refine ⟨_, rfl, ?_⟩; replace BK133 := am (Aa3.blk hk (g' := gb133) (o := .cells #[.slice none 0 0] 26 (0, 0)) (by refine bq ?_; refine Aa4 ?_ NB133_138.out _; refine bq ?_; exact BK133.out) NB133_0.out (by simp)); replace HO136 := am (Kd.R_mono (Kd.R_keep (Aa2.apart (show Aa2 w0 _ g s0_0 t137 from Aa2.q HI0.out) (rq ((Kd.R_mono (Kd.R_far (p := ⟨gb138, 0, none⟩) (Kd.R_types HO136.out BK138.out (by decide)) (fun _ hk => hk.2) (.slice Ao26 t134.length co26)) (fun _ h_ => h_.1)))) (by decide)) hk (fun _ h => h.2)) (fun _ h => h.1)); replace BK138 := am (Aa3.blk hk (g' := gb138) (o := .cells #[.slice Ao26 t134.length co26] 26 (0, 0)) (by refine bq ?_; refine Aa6 (cs := #[.slice none 0 0]) ?_ 0 _ rfl; refine bq ?_; exact BK138.out) NB138_0.out (by simp)); replace HK := am (Aa3.trans (ks HK.out) hk (.inl rfl)); replace HB := am (hb); replace HI0 := am (hi); (try clear hb); (try clear hk); (try clear hi)) | (refine gl (some 16) Tryz.func56 rfl #[.pointer (some ⟨g, 0, none⟩), .int .i64 7] ?_; refine (spec_l1Next.calls g s0_0 t140 7 t141 t142 w0 _ (Aa2.q HI0.out) (hsk HB.out (Aa2.ge HI0.out)) A5.out).mono ?_; rintro e w31 ⟨rfl, hi, hb, hk⟩; refine ⟨_, rfl, ?_⟩; replace BK133 := kb hk BK133 NB133_0; replace HO136 := Aa2.rk HI0 HO136 hk; replace BK138 := kb hk BK138 NB138_0; replace HK := am (Aa3.trans (ks HK.out) hk (.inl rfl)); replace HB := am (hb); replace HI0 := am (hi); (try clear hb); (try clear hk); (try clear hi); have hcz32_0 : w31.cell? ⟨gb138, 0, none⟩ = some (.slice Ao26 t134.length co26) := (Aa0 BK138.out 0).trans rfl; have hfz32_0 := Aa1 BK138.out 0; have p22 : 0 ≤ ((ji19) : Int) := od; have q22 : ((ji19) : Int) < ((t134.length : Int) : Int) := od; obtain ⟨go22, co22, eo22, gb22, gl22, cl22, HG22⟩ := Kd.R_form HO136.out (by omega); (first | cases eo22 | (injection eo22 with ea_ en_ ec_; (first | subst ea_ | (injection ea_ with ea_; subst ea_)); subst ec_; clear en_)); have GB22 := am gb22; have GG22 := am HG22; clear gb22 gl22 HG22; obtain ⟨ce22, hcl22, hM22, hcc22, hfr22⟩ := Kd.R_elem HO136.out z90 ((ji19) : Int) p22 q22; obtain rfl := Aj9 hM22; have hx22_0 : w31.cell? ⟨go22, ((ji19) : Int).toNat * 2, none⟩ = some (.string ((Aa7 t134 (ji19)).f0)) := hcc22 0 _ rfl; have hx22_1 : w31.cell? ⟨go22, ((ji19) : Int).toNat * 2 + 1, none⟩ = some (.int .i64 ((Aa7 t134 (ji19)).f1)) := hcc22 1 _ rfl; have hf22_0 : w31.frozen? ⟨go22, ((ji19) : Int).toNat * 2, none⟩ = false := hfr22 0; have hf22_1 : w31.frozen? ⟨go22, ((ji19) : Int).toNat * 2 + 1, none⟩ = false := hfr22 1; clear hcl22 hcc22 hfr22; (try clear hM22); replace p22 := eq_true p22; replace q22 := eq_true q22; have HX33 := am (show Kd.R k90 90 w31 w.heap.size (fun _ => True) (.slice (some ⟨go22, 0, none⟩) t134.length co26) t134 from (rq HO136.out)); obtain ⟨ce33, hcl33, hM33, hcc33, hfr33⟩ := Kd.R_elem HX33.out z90 ((ji19) : Int) od (by have h_ : ((ji19) : Int) < ((t134.length : Int) : Int) := od; first | exact h_ | (have e_ := (Kd.R_reads' HO136.out).1; omega) | simpa using h_); obtain rfl := Aj9 hM33; have HP33 := Kd.R_seg HX33.out ((ji19) : Int) od (by have h_ : ((ji19) : Int) < ((t134.length : Int) : Int) := od; first | exact h_ | (have e_ := (Kd.R_reads' HO136.out).1; omega) | simpa using h_) (seg := [.string (⟨#[97, 98, 99, 100]⟩ : ByteArray)]) (j := 0) hcl33 hcc33 (show 1 ≤ 2 from by decide) (x' := (⟨(⟨#[97, 98, 99, 100]⟩ : ByteArray), (Aa7 t134 (ji19)).f1⟩ : S90)) (Af3 _ _ _ (⟨(⟨#[97, 98, 99, 100]⟩ : ByteArray), (Aa7 t134 (ji19)).f1⟩ : S90) ) (fun _ hk => hk); have hx33_0 := hcc33 0 _ rfl; (try simp only [show (k90).sz = 2 from rfl, Nat.mul_one, Nat.add_zero] at hx33_0); have hf33_0 := hfr33 0; (try simp only [show (k90).sz = 2 from rfl, Nat.mul_one, Nat.add_zero] at hf33_0); clear hcl33 hcc33 hfr33; (try clear hM33)) | ((with_reducible refine Ah9 (t := 9) (p := 37) rfl ?_); refine Ah0 (t := 9) (p := 37) (v := ?vo_w34) (w1 := (w31.setCell ⟨go22, ((ji19) : Int).toNat * 2, none⟩ (.string (⟨#[97, 98, 99, 100]⟩ : ByteArray)))) ?hg ?ho ?hn ?hr ?_; (case ho => rfl); (case hg => rfl); (case hn => rfl); (case hr => first | (go_simp; done) | (go_simp; rfl)); intro w34 hw; have hg : w31.grownBy w34 (some go22) := (by rw [hw]; exact HP33.2); have hp_ : Kd.R k90 90 w34 w.heap.size (fun _ => True) (.slice (some ⟨go22, 0, none⟩) t134.length co26) y143 := (by rw [hw, Ny143.out]; exact HP33.1); clear HP33; replace HI0 := am (Aa2.grown (Aa2.q HI0.out) hg (Aa2.own_ne HI0.out HO136.out (by decide))); replace BK133 := am (Ac9 (bq BK133.out) hg (Kd.R_ne HO136.out BK133.out (by decide))); replace BK138 := am (Ac9 (bq BK138.out) hg (Kd.R_ne HO136.out BK138.out (by decide))); replace HB := am ((by rw [hw]; exact Ac2 (HB.out) (Nat.le_trans HL.out GB22.out) : Below w0.heap.size w0 w34)); replace HK := am (Aa3.trans (ks HK.out) (Aa3.of_grown hg g) (Kd.R_base2 HO136.out)); replace HO136 := am (hp_); clear hg hw hp_; have hcz35_0 : w34.cell? ⟨gb138, 0, none⟩ = some (.slice (some ⟨go22, 0, none⟩) t134.length co26) := (Aa0 BK138.out 0).trans rfl; have hfz35_0 := Aa1 BK138.out 0; have hnb36 := NB133_0.out; have hnc36 := NB0_133.out; have hcz37_0 : w34.cell? ⟨gb133, 0, none⟩ = some (.slice none 0 0) := (Aa0 BK133.out 0).trans rfl; have hfz37_0 := Aa1 BK133.out 0))
    refine bodyPost_ret (results_cell_row rfl _ _ gb133 26 #[.slice (some ⟨go22, 0, none⟩) t134.length co26] (0, 0) _ rfl (by refine bq ?_; refine Aa6 (cs := #[.slice none 0 0]) ?_ 0 _ rfl; refine bq ?_; exact BK133.out) Tryz.underlying26 rfl (by kernel_rfl)) rfl ?_
    exact ⟨_, by first | rfl | (simp [Ad4, Ad3] <;> rfl) | (simp only [← hji19]; first | rfl | (simp [Ad4, Ad3] <;> rfl)) | (simp [*, Ad4, Ad3] <;> rfl), rq (Kd.R_mono (Kd.R_far (p := ⟨gb133, 0, none⟩) (Kd.R_types HO136.out BK133.out (by decide)) (fun _ hk => hk.2) (.slice (some ⟨go22, 0, none⟩) t134.length co26)) (fun _ hk => trivial)), Aa2.q HI0.out, hsk HB.out (Aa2.ge HI0.out), ks HK.out⟩
   ·rw [if_neg c18] at H
    obtain ⟨c18b0, c18b1⟩ := bqf c18
    by_cases c38 : t141 = 2
    ·rw [if_pos c38] at H
     obtain ⟨c38b0, c38b1⟩ := bqt c38; clear c38
     obtain ⟨⟨t144, t145⟩, A39, H⟩ := ob H
     try dsimp only at H
     obtain ⟨c40b0, H⟩ := ife H
     obtain ⟨c41b0, H⟩ := ife H
     obtain ⟨y146, hy146⟩ : ∃ y_ : List (S90), y_ = (t134.set (t144 : Int).toNat (⟨(⟨#[97, 66]⟩ : ByteArray), (Aa7 t134 t144).f1⟩ : S90)) := ⟨_, rfl⟩
     replace H : (some (y146, t145)) = some (r1, r2) := by first | (rw [hy146]; with_reducible exact H) | (have H2_ := (Option.bind_some _ _).symm.trans H; rw [hy146]; with_reducible exact H2_) | (have H2_ := (Option.bind_some _ _).symm.trans H; with_reducible exact H2_) | with_reducible exact H | (rw [hy146]; exact H) | exact H
     have Ny146 := am hy146
     clear hy146
     simp only [Option.some.injEq, Prod.mk.injEq] at H
     obtain ⟨rfl, rfl⟩ := H
     go_enter Tryz.func24, Tryz.ntmps24
     try go_wp2_with (first | (refine bx 2 rfl #[.slice none 0 0] 26 ?_; intro gb133 hg w43 hbox hb; replace HB := am (Ab8 (hsk HB.out (Aa2.ge HI0.out)) hb); have BK133 := am (hbox); have GW133 := am ((by rw [hg]; exact (Ab7 (w := w) (g := g) (row := none) (kq HK.out)) : w.heap.size ≤ gb133)); replace HK := am (Aa3.trans (kq HK.out) (Aa3.of_below hb g none) (.inl rfl)); have GE133 := am (Nat.le_trans HW0.out GW133.out); have NB0_133 := am ((by rw [hg]; exact Nat.ne_of_lt (Aa2.lt (show Aa2 w0 _ g s0_0 s0_1 from Aa2.q HI0.out)) : g ≠ gb133)); replace HI0 := Aa2.bl HI0 hb; have NB133_0 := am NB0_133.out.symm; clear hb hbox hg) | (refine gl (some 7) Tryz.func54 rfl #[.pointer (some ⟨g, 0, none⟩)] ?_; refine (spec_l2Sig.calls k g s0_0 s0_1 t134 t137 w0 _ (Aa2.q HI0.out) (hsk HB.out (Aa2.ge HI0.out)) A2.out).mono ?_; rintro e w44 ⟨v135, rfl, ho0, hi, hb, hk⟩; refine ⟨_, rfl, ?_⟩; replace BK133 := kb hk BK133 NB133_0; have HO136 := am (Kd.R_lower ho0 (Ab7 (w := w) (g := g) (row := none) (ks HK.out))); replace HK := am (Aa3.trans (ks HK.out) hk (.inl rfl)); replace HB := am (hb); replace HI0 := am (hi); (try clear hb); (try clear hk); (try clear hi); (try clear ho0)) | (refine bx 3 rfl #[.slice none 0 0] 26 ?_; intro gb138 hg w45 hbox hb; replace HO136 := rb HO136 hb; replace HB := am (Ab8 (hsk HB.out (Aa2.ge HI0.out)) hb); have BK138 := am (hbox); have GW138 := am ((by rw [hg]; exact (Ab7 (w := w) (g := g) (row := none) (ks HK.out)) : w.heap.size ≤ gb138)); replace HK := am (Aa3.trans (ks HK.out) (Aa3.of_below hb g none) (.inl rfl)); have GE138 := am (Nat.le_trans HW0.out GW138.out); have NB133_138 := nl hg BK133; have NB138_133 := ng hg BK133; replace BK133 := bb BK133 hb; have NB0_138 := am ((by rw [hg]; exact Nat.ne_of_lt (Aa2.lt (show Aa2 w0 _ g s0_0 t137 from Aa2.q HI0.out)) : g ≠ gb138)); replace HI0 := Aa2.bl HI0 hb; have NB138_0 := am NB0_138.out.symm; clear hb hbox hg; obtain ⟨Ao46, co46, rfl⟩ := Kd.R_slice HO136.out; have hnb47 := NB138_133.out; have hnc47 := NB133_138.out; have hnb48 := NB138_0.out; have hnc48 := NB0_138.out; have hcz49_0 : w45.cell? ⟨gb138, 0, none⟩ = some (.slice none 0 0) := (Aa0 BK138.out 0).trans rfl; have hfz49_0 := Aa1 BK138.out 0) | (refine gl (some 12) Tryz.func55 rfl #[.pointer (some ⟨g, 0, none⟩), .int .i64 9] ?_; refine (spec_l1Chance.calls g s0_0 t137 9 true t140 w0 _ (Aa2.q HI0.out) (hsk HB.out (Aa2.ge HI0.out)) A3.out).mono ?_; rintro e w50 ⟨rfl, hi, hb, hk⟩; refine ⟨_, rfl, ?_⟩; replace BK133 := am (Aa3.blk hk (g' := gb133) (o := .cells #[.slice none 0 0] 26 (0, 0)) (by refine bq ?_; refine Aa4 ?_ NB133_138.out _; refine bq ?_; exact BK133.out) NB133_0.out (by simp)); replace HO136 := am (Kd.R_mono (Kd.R_keep (Aa2.apart (show Aa2 w0 _ g s0_0 t137 from Aa2.q HI0.out) (rq ((Kd.R_mono (Kd.R_far (p := ⟨gb138, 0, none⟩) (Kd.R_types HO136.out BK138.out (by decide)) (fun _ hk => hk.2) (.slice Ao46 t134.length co46)) (fun _ h_ => h_.1)))) (by decide)) hk (fun _ h => h.2)) (fun _ h => h.1)); replace BK138 := am (Aa3.blk hk (g' := gb138) (o := .cells #[.slice Ao46 t134.length co46] 26 (0, 0)) (by refine bq ?_; refine Aa6 (cs := #[.slice none 0 0]) ?_ 0 _ rfl; refine bq ?_; exact BK138.out) NB138_0.out (by simp)); replace HK := am (Aa3.trans (ks HK.out) hk (.inl rfl)); replace HB := am (hb); replace HI0 := am (hi); (try clear hb); (try clear hk); (try clear hi)) | (refine gl (some 16) Tryz.func56 rfl #[.pointer (some ⟨g, 0, none⟩), .int .i64 7] ?_; refine (spec_l1Next.calls g s0_0 t140 7 t141 t142 w0 _ (Aa2.q HI0.out) (hsk HB.out (Aa2.ge HI0.out)) A5.out).mono ?_; rintro e w51 ⟨rfl, hi, hb, hk⟩; refine ⟨_, rfl, ?_⟩; replace BK133 := kb hk BK133 NB133_0; replace HO136 := Aa2.rk HI0 HO136 hk; replace BK138 := kb hk BK138 NB138_0; replace HK := am (Aa3.trans (ks HK.out) hk (.inl rfl)); replace HB := am (hb); replace HI0 := am (hi); (try clear hb); (try clear hk); (try clear hi)))
     replace HO136 := am (Kd.R_drew HO136.out)
     replace BK133 := am (Ad0 BK133.out)
     replace BK138 := am (Ad0 BK138.out)
     replace HI0 := am (Aa2.drew HI0.out)
     replace HK := am (Ac4 HK.out)
     replace HB := am (Ab3 HB.out)
     refine Ak0 (n := 8) (S := fun w' => w'.cell? ⟨gb138, 0, none⟩ = some (.slice Ao46 t134.length co46)) (ds := [7]) #[false, false, false, false, false, false, false, false] (by kernel_rfl) rfl rfl ((Aa0 BK138.out 0).trans rfl) (fun hHeld => ?_); refine Af6 spec_l2Bent.tab13 spec_l2Bent.bits13 (fun HT_ HW_ => ?_)
     generalize w51.drew = w52 at HO136 BK133 BK138 HI0 HK HB hHeld ⊢
     refine pu 0 40 rfl rfl HT_ ?_
     refine pu 2 42 rfl rfl HT_ ?_
     refine pu 3 43 rfl rfl HT_ ?_
     refine tk 1 41 rfl rfl HT_ HW_ hHeld ?_
     refine on_ 4 (some 44) rfl rfl HT_ (fun K hK => ?_)
     refine gs Tryz.func56 #[.pointer (some ⟨g, 0, none⟩), .int .i64 (t134.length : Int)] ?_
     refine (spec_l1Next.calls g s0_0 t142 (t134.length : Int) t144 t145 w0 _ (Aa2.q HI0.out) (hsk HB.out (Aa2.ge HI0.out)) A39.out).mono ?_
     rintro e w53 ⟨rfl, hi, hb, hk⟩
     refine ⟨_, rfl, ?_⟩
     replace BK133 := kb hk BK133 NB133_0
     replace HO136 := Aa2.rk HI0 HO136 hk
     replace BK138 := kb hk BK138 NB138_0
     replace HK := am (Aa3.trans (ks HK.out) hk (.inl rfl))
     replace HB := am (hb)
     replace HI0 := am (hi)
     (try clear hb)
     (try clear hk)
     (try clear hi)
     have p42 : 0 ≤ (t144 : Int) := od
     have q42 : (t144 : Int) < ((t134.length : Int) : Int) := od
     obtain ⟨go42, co42, eo42, gb42, gl42, cl42, HG42⟩ := Kd.R_form HO136.out (by omega)
     (first | cases eo42 | (injection eo42 with ea_ en_ ec_; (first | subst ea_ | (injection ea_ with ea_; subst ea_)); subst ec_; clear en_))
     have GB42 := am gb42
     have GG42 := am HG42
     clear gb42 gl42 HG42
     obtain ⟨ce42, hcl42, hM42, hcc42, hfr42⟩ := Kd.R_elem HO136.out z90 (t144 : Int) p42 q42
     obtain rfl := Aj9 hM42
     have hx42_0 : World.cell? _ ⟨go42, (t144 : Int).toNat * 2, none⟩ = some (.string ((Aa7 t134 t144).f0)) := hcc42 0 _ rfl
     have hx42_1 : World.cell? _ ⟨go42, (t144 : Int).toNat * 2 + 1, none⟩ = some (.int .i64 ((Aa7 t134 t144).f1)) := hcc42 1 _ rfl
     have hf42_0 : World.frozen? _ ⟨go42, (t144 : Int).toNat * 2, none⟩ = false := hfr42 0
     have hf42_1 : World.frozen? _ ⟨go42, (t144 : Int).toNat * 2 + 1, none⟩ = false := hfr42 1
     clear hcl42 hcc42 hfr42; (try clear hM42)
     replace p42 := eq_true p42
     replace q42 := eq_true q42
     have HN0_go42 := am (show g ≠ go42 from by have h_ := Aa2.own_ne HI0.out HO136.out (by decide); intro e_; exact h_ (by rw [e_]; rfl))
     obtain ⟨ce54, hcl54, hM54, hcc54, hfr54⟩ := Kd.R_elem HO136.out z90 (t144 : Int) od (by have h_ : (t144 : Int) < ((t134.length : Int) : Int) := od; first | exact h_ | (have e_ := (Kd.R_reads' HO136.out).1; omega) | simpa using h_)
     obtain rfl := Aj9 hM54
     have HP54 := (Kd.R_seg HO136.out (t144 : Int) od (by have h_ : (t144 : Int) < ((t134.length : Int) : Int) := od; first | exact h_ | (have e_ := (Kd.R_reads' HO136.out).1; omega) | simpa using h_) (seg := [.string (⟨#[97, 66]⟩ : ByteArray)]) (j := 0) hcl54 hcc54 (show 1 ≤ 2 from by decide) (x' := (⟨(⟨#[97, 66]⟩ : ByteArray), (Aa7 t134 t144).f1⟩ : S90)) (Af3 _ _ _ (⟨(⟨#[97, 66]⟩ : ByteArray), (Aa7 t134 t144).f1⟩ : S90) ) (fun _ hk => hk)).1
     rw [← Ny146.out] at HP54
     have HQ54 := am HP54
     clear hcl54 hcc54 hfr54 HP54; (try clear hM54)
     refine hK.out _ _ ((Aa0 BK138.out 0).trans rfl) (fun hHeld => ?_)
     clear hK K
     refine nr (some 44) ?_
     refine pu 5 45 rfl rfl HT_ ?_
     refine pu 6 46 rfl rfl HT_ ?_
     refine Aw8 (i := 7) (N := none) #[true, true, true, true, true, true, true, true] rfl rfl (Ar7 HT_.out (by kernel_rfl)) (by decide) (fun K hK => ?_)
     refine At8 (w1 := ?_) (by rfl) rfl ?_ ?_
     rotate_left
     ·go_simp
      rfl
     refine hK.out _ _ ?_
     clear hK K
     refine Am5 (Ai6 HT_.out (by kernel_rfl)) ?_
     have n0_ : Aside0 (Kd.R k90 90 (w53.setCell ⟨go42, (t144 : Int).toNat * 2, none⟩ (.string (⟨#[97, 66]⟩ : ByteArray))) w.heap.size (fun _ => True) (.slice (some ⟨go42, 0, none⟩) t134.length co46) y146) := ⟨rq HQ54.out⟩
     have n1_ : Aside0 ((w53.setCell ⟨go42, (t144 : Int).toNat * 2, none⟩ (.string (⟨#[97, 66]⟩ : ByteArray))).heap[gb133]? = some (.cells #[.slice none 0 0] 26 (0, 0))) := ⟨by refine bq ?_; refine Aa4 ?_ (by have h_ := Kd.R_ne HO136.out BK133.out (by decide); intro e_; exact h_ (by rw [e_]; rfl)) _; refine bq ?_; exact BK133.out⟩
     have n2_ : Aside0 ((w53.setCell ⟨go42, (t144 : Int).toNat * 2, none⟩ (.string (⟨#[97, 66]⟩ : ByteArray))).heap[gb138]? = some (.cells #[.slice (some ⟨go42, 0, none⟩) t134.length co46] 26 (0, 0))) := ⟨by refine bq ?_; refine Aa4 ?_ (by have h_ := Kd.R_ne HO136.out BK138.out (by decide); intro e_; exact h_ (by rw [e_]; rfl)) _; refine bq ?_; exact BK138.out⟩
     have n3_ : Aside0 (Aa2 w0 (w53.setCell ⟨go42, (t144 : Int).toNat * 2, none⟩ (.string (⟨#[97, 66]⟩ : ByteArray))) g s0_0 t145) := ⟨Aa2.q HI0.out⟩
     have n4_ : Aside0 (Aa3 w (w53.setCell ⟨go42, (t144 : Int).toNat * 2, none⟩ (.string (⟨#[97, 66]⟩ : ByteArray))) g none) := ⟨ks HK.out⟩
     have n5_ : Aside0 (Below w0.heap.size w0 (w53.setCell ⟨go42, (t144 : Int).toNat * 2, none⟩ (.string (⟨#[97, 66]⟩ : ByteArray)))) := ⟨by repeat (first | (with_reducible first | exact HB.out | apply Ab6 | apply Ab1 | apply Ab3 | refine Ac2 ?_ (Nat.le_trans HL.out GB42.out) | refine Ac2 ?_ (Aa2.ge HI0.out) | refine Ac2 ?_ GE133.out | refine Ac2 ?_ GE138.out) | exact HB.out)⟩
     (try clear HO136)
     (try clear BK133)
     (try clear BK138)
     (try clear HI0)
     (try clear HK)
     (try clear HB)
     (try simp only [Go.IntKind.wrap_u8])
     generalize (w53.setCell ⟨go42, (t144 : Int).toNat * 2, none⟩ (.string (⟨#[97, 66]⟩ : ByteArray))) = w55 at n0_ n1_ n2_ n3_ n4_ n5_ ⊢
     have HO136 := n0_
     have BK133 := n1_
     have BK138 := n2_
     have HI0 := n3_
     have HK := n4_
     have HB := n5_
     clear n0_ n1_ n2_ n3_ n4_ n5_
     have hcz56_0 : w55.cell? ⟨gb138, 0, none⟩ = some (.slice (some ⟨go42, 0, none⟩) t134.length co46) := (Aa0 BK138.out 0).trans rfl
     have hfz56_0 := Aa1 BK138.out 0
     have hnb57 := NB133_0.out
     have hnc57 := NB0_133.out
     have hcz58_0 : w55.cell? ⟨gb133, 0, none⟩ = some (.slice none 0 0) := (Aa0 BK133.out 0).trans rfl
     have hfz58_0 := Aa1 BK133.out 0
     try go_wp2
     refine bodyPost_ret (results_cell_row rfl _ _ gb133 26 #[.slice (some ⟨go42, 0, none⟩) t134.length co46] (0, 0) _ rfl (by refine bq ?_; refine Aa6 (cs := #[.slice none 0 0]) ?_ 0 _ rfl; refine bq ?_; exact BK133.out) Tryz.underlying26 rfl (by kernel_rfl)) rfl ?_
     exact ⟨_, er, rq (Kd.R_mono (Kd.R_far (p := ⟨gb133, 0, none⟩) (Kd.R_types HO136.out BK133.out (by decide)) (fun _ hk => hk.2) (.slice (some ⟨go42, 0, none⟩) t134.length co46)) (fun _ hk => trivial)), Aa2.q HI0.out, hsk HB.out (Aa2.ge HI0.out), ks HK.out⟩
    ·rw [if_neg c38] at H
     obtain ⟨c38b0, c38b1⟩ := bqf c38
     by_cases c59 : t141 = 3
     ·rw [if_pos c59] at H
      obtain ⟨c59b0, c59b1⟩ := bqt c59; clear c59
      obtain ⟨⟨t147, t148⟩, A60, H⟩ := ob H
      try dsimp only at H
      obtain ⟨y149, hy149⟩ : ∃ y_ : List Int, y_ = (([3, (-1)] : List Int)) := ⟨_, rfl⟩
      replace H : ((spec_l1Pick.f s0_0 t148 y149).bind fun bt152 => (if 0 ≤ t147 then (if t147 < (t134.length : Int) then (some ((t134.set (t147 : Int).toNat (⟨(Aa7 t134 t147).f0, bt152.1⟩ : S90)), bt152.2)) else (none)) else (none))) = some (r1, r2) := by first | (rw [hy149]; with_reducible exact H) | (have H2_ := (Option.bind_some _ _).symm.trans H; rw [hy149]; with_reducible exact H2_) | (have H2_ := (Option.bind_some _ _).symm.trans H; with_reducible exact H2_) | with_reducible exact H | (rw [hy149]; exact H) | exact H
      have Ny149 := am hy149
      clear hy149
      obtain ⟨⟨t152, t153⟩, A61, H⟩ := ob H
      try dsimp only at H
      obtain ⟨c62b0, H⟩ := ife H
      obtain ⟨c63b0, H⟩ := ife H
      obtain ⟨y154, hy154⟩ : ∃ y_ : List (S90), y_ = (t134.set (t147 : Int).toNat (⟨(Aa7 t134 t147).f0, t152⟩ : S90)) := ⟨_, rfl⟩
      replace H : (some (y154, t153)) = some (r1, r2) := by first | (rw [hy154]; with_reducible exact H) | (have H2_ := (Option.bind_some _ _).symm.trans H; rw [hy154]; with_reducible exact H2_) | (have H2_ := (Option.bind_some _ _).symm.trans H; with_reducible exact H2_) | with_reducible exact H | (rw [hy154]; exact H) | exact H
      have Ny154 := am hy154
      clear hy154
      simp only [Option.some.injEq, Prod.mk.injEq] at H
      obtain ⟨rfl, rfl⟩ := H
      go_enter Tryz.func24, Tryz.ntmps24
      try go_wp2_with (first | (refine bx 2 rfl #[.slice none 0 0] 26 ?_; intro gb133 hg w65 hbox hb; replace HB := am (Ab8 (hsk HB.out (Aa2.ge HI0.out)) hb); have BK133 := am (hbox); have GW133 := am ((by rw [hg]; exact (Ab7 (w := w) (g := g) (row := none) (kq HK.out)) : w.heap.size ≤ gb133)); replace HK := am (Aa3.trans (kq HK.out) (Aa3.of_below hb g none) (.inl rfl)); have GE133 := am (Nat.le_trans HW0.out GW133.out); have NB0_133 := am ((by rw [hg]; exact Nat.ne_of_lt (Aa2.lt (show Aa2 w0 _ g s0_0 s0_1 from Aa2.q HI0.out)) : g ≠ gb133)); replace HI0 := Aa2.bl HI0 hb; have NB133_0 := am NB0_133.out.symm; clear hb hbox hg) | (refine gl (some 7) Tryz.func54 rfl #[.pointer (some ⟨g, 0, none⟩)] ?_; refine (spec_l2Sig.calls k g s0_0 s0_1 t134 t137 w0 _ (Aa2.q HI0.out) (hsk HB.out (Aa2.ge HI0.out)) A2.out).mono ?_; rintro e w66 ⟨v135, rfl, ho0, hi, hb, hk⟩; refine ⟨_, rfl, ?_⟩; replace BK133 := kb hk BK133 NB133_0; have HO136 := am (Kd.R_lower ho0 (Ab7 (w := w) (g := g) (row := none) (ks HK.out))); replace HK := am (Aa3.trans (ks HK.out) hk (.inl rfl)); replace HB := am (hb); replace HI0 := am (hi); (try clear hb); (try clear hk); (try clear hi); (try clear ho0)) | (refine bx 3 rfl #[.slice none 0 0] 26 ?_; intro gb138 hg w67 hbox hb; replace HO136 := rb HO136 hb; replace HB := am (Ab8 (hsk HB.out (Aa2.ge HI0.out)) hb); have BK138 := am (hbox); have GW138 := am ((by rw [hg]; exact (Ab7 (w := w) (g := g) (row := none) (ks HK.out)) : w.heap.size ≤ gb138)); replace HK := am (Aa3.trans (ks HK.out) (Aa3.of_below hb g none) (.inl rfl)); have GE138 := am (Nat.le_trans HW0.out GW138.out); have NB133_138 := nl hg BK133; have NB138_133 := ng hg BK133; replace BK133 := bb BK133 hb; have NB0_138 := am ((by rw [hg]; exact Nat.ne_of_lt (Aa2.lt (show Aa2 w0 _ g s0_0 t137 from Aa2.q HI0.out)) : g ≠ gb138)); replace HI0 := Aa2.bl HI0 hb; have NB138_0 := am NB0_138.out.symm; clear hb hbox hg; obtain ⟨Ao68, co68, rfl⟩ := Kd.R_slice HO136.out; have hnb69 := NB138_133.out; have hnc69 := NB133_138.out; have hnb70 := NB138_0.out; have hnc70 := NB0_138.out; have hcz71_0 : w67.cell? ⟨gb138, 0, none⟩ = some (.slice none 0 0) := (Aa0 BK138.out 0).trans rfl; have hfz71_0 := Aa1 BK138.out 0) | (refine gl (some 12) Tryz.func55 rfl #[.pointer (some ⟨g, 0, none⟩), .int .i64 9] ?_; refine (spec_l1Chance.calls g s0_0 t137 9 true t140 w0 _ (Aa2.q HI0.out) (hsk HB.out (Aa2.ge HI0.out)) A3.out).mono ?_; rintro e w72 ⟨rfl, hi, hb, hk⟩; refine ⟨_, rfl, ?_⟩; replace BK133 := am (Aa3.blk hk (g' := gb133) (o := .cells #[.slice none 0 0] 26 (0, 0)) (by refine bq ?_; refine Aa4 ?_ NB133_138.out _; refine bq ?_; exact BK133.out) NB133_0.out (by simp)); replace HO136 := am (Kd.R_mono (Kd.R_keep (Aa2.apart (show Aa2 w0 _ g s0_0 t137 from Aa2.q HI0.out) (rq ((Kd.R_mono (Kd.R_far (p := ⟨gb138, 0, none⟩) (Kd.R_types HO136.out BK138.out (by decide)) (fun _ hk => hk.2) (.slice Ao68 t134.length co68)) (fun _ h_ => h_.1)))) (by decide)) hk (fun _ h => h.2)) (fun _ h => h.1)); replace BK138 := am (Aa3.blk hk (g' := gb138) (o := .cells #[.slice Ao68 t134.length co68] 26 (0, 0)) (by refine bq ?_; refine Aa6 (cs := #[.slice none 0 0]) ?_ 0 _ rfl; refine bq ?_; exact BK138.out) NB138_0.out (by simp)); replace HK := am (Aa3.trans (ks HK.out) hk (.inl rfl)); replace HB := am (hb); replace HI0 := am (hi); (try clear hb); (try clear hk); (try clear hi)) | (refine gl (some 16) Tryz.func56 rfl #[.pointer (some ⟨g, 0, none⟩), .int .i64 7] ?_; refine (spec_l1Next.calls g s0_0 t140 7 t141 t142 w0 _ (Aa2.q HI0.out) (hsk HB.out (Aa2.ge HI0.out)) A5.out).mono ?_; rintro e w73 ⟨rfl, hi, hb, hk⟩; refine ⟨_, rfl, ?_⟩; replace BK133 := kb hk BK133 NB133_0; replace HO136 := Aa2.rk HI0 HO136 hk; replace BK138 := kb hk BK138 NB138_0; replace HK := am (Aa3.trans (ks HK.out) hk (.inl rfl)); replace HB := am (hb); replace HI0 := am (hi); (try clear hb); (try clear hk); (try clear hi)))
      replace HO136 := am (Kd.R_drew HO136.out)
      replace BK133 := am (Ad0 BK133.out)
      replace BK138 := am (Ad0 BK138.out)
      replace HI0 := am (Aa2.drew HI0.out)
      replace HK := am (Ac4 HK.out)
      replace HB := am (Ab3 HB.out)
      refine Ak0 (n := 11) (S := fun w' => w'.cell? ⟨gb138, 0, none⟩ = some (.slice Ao68 t134.length co68)) (ds := [10]) #[false, false, false, false, false, false, false, false, false, false, false] (by kernel_rfl) rfl rfl ((Aa0 BK138.out 0).trans rfl) (fun hHeld => ?_); refine Af6 spec_l2Bent.tab15 spec_l2Bent.bits15 (fun HT_ HW_ => ?_)
      generalize w73.drew = w74 at HO136 BK133 BK138 HI0 HK HB hHeld ⊢
      refine pu 0 49 rfl rfl HT_ ?_
      refine pu 2 51 rfl rfl HT_ ?_
      refine pu 3 52 rfl rfl HT_ ?_
      refine pu 5 54 rfl rfl HT_ ?_
      refine tk 1 50 rfl rfl HT_ HW_ hHeld ?_
      refine Ax6 (σ := Value) 4 #[true, true, true, true, true, true, true, false, false, false, false] (fun s_ => [(53, .int .i64 t147), (55, s_)]) (fun s_ w' => (w'.cell? ⟨gb138, 0, none⟩ = some (.slice Ao68 t134.length co68)) ∧ (Kd.R k90 90 w' w.heap.size (fun _ => True) (.slice Ao68 t134.length co68) t134) ∧ (Kd.R (Kd.int .i64) 2 w' w.heap.size (fun _ => True) s_ y149) ∧ (w'.heap[gb133]? = some (.cells #[.slice none 0 0] 26 (0, 0))) ∧ (w'.heap[gb138]? = some (.cells #[.slice Ao68 t134.length co68] 26 (0, 0))) ∧ (Aa2 w0 w' g s0_0 t148) ∧ (Aa3 w w' g none) ∧ (Below w0.heap.size w0 w')) ?_ ?_
      rotate_left
      ·intro hCont
       refine Ay2 (i := 4) (j := 6) (Ni := some 53) (Nj := some 55) #[true, true, true, true, true, true, false, false, false, false, false] #[true, true, true, true, false, true, true, false, false, false, false] rfl rfl rfl rfl (Au2 HT_.out (by kernel_rfl)) (by decide) (by decide) (fun K hK => ?_) (fun K hK => ?_)
       ·skip
        refine gs Tryz.func56 #[.pointer (some ⟨g, 0, none⟩), .int .i64 (t134.length : Int)] ?_
        refine (spec_l1Next.calls g s0_0 t142 (t134.length : Int) t147 t148 w0 _ (Aa2.q HI0.out) (hsk HB.out (Aa2.ge HI0.out)) A60.out).mono ?_
        rintro e w75 ⟨rfl, hi, hb, hk⟩
        refine ⟨_, rfl, ?_⟩
        replace BK133 := kb hk BK133 NB133_0
        replace HO136 := Aa2.rk HI0 HO136 hk
        replace BK138 := kb hk BK138 NB138_0
        replace HK := am (Aa3.trans (ks HK.out) hk (.inl rfl))
        replace HB := am (hb)
        replace HI0 := am (hi)
        (try clear hb)
        (try clear hk)
        (try clear hi)
        refine hK.out _ _ ((Aa0 BK138.out 0).trans rfl) (fun hHeld => ?_)
        clear hK K
        refine nr (some 53) ?_
        refine on_ 6 (some 55) rfl rfl HT_ (fun K hK => ?_)
        refine Kd.R_lit_step (Kd.int .i64) _ 2 ?hg (N := 55) ?hd (xs := ([3, (-1)] : List Int)) (inner := [.int .i64 3, .int .i64 (-1)]) (ok := fun _ => True) (okp := fun _ => True) ?hr ?hp (fun _ hk => hk) trivial (Below.refl _ _) (Nat.le_refl _) (by simp) ?_; (case hd => rfl); (case hg => rfl); (case hr => first | (go_simp; done) | (go_simp; rfl)); (case hp => exact (Ad5.one (show Kd.M (Kd.int .i64) _ _ _ 3 [.int .i64 3] from rfl) (Ad5.one (show Kd.M (Kd.int .i64) _ _ _ (-1) [.int .i64 (-1)] from rfl) (Ad5.none _ _))))
        intro v150 w76 ho77 hb hg_ hnew_
        clear hg_ hnew_
        (first | rw [← Ny149.out] at ho77 | (simp only [Int.reduceToNat] at ho77; rw [← Ny149.out] at ho77))
        replace HO136 := rb HO136 hb
        have HO151 := am (Kd.R_lower ho77 (Ab7 (w := w) (g := g) (row := none) (ks HK.out)))
        replace BK133 := bb BK133 hb
        replace BK138 := bb BK138 hb
        replace HK := am (Aa3.trans (ks HK.out) (Aa3.of_below hb g none) (.inl rfl))
        replace HB := am (Ab8 (hsk HB.out (Aa2.ge HI0.out)) hb)
        replace HI0 := Aa2.bl HI0 hb
        clear hb ho77
        refine hK.out _ _ ((Aa0 BK138.out 0).trans rfl) (fun hHeld => ?_)
        clear hK K
        refine nr (some 55) ?_
        exact nj (hCont (v150) _ ⟨hHeld, (rq HO136.out), (rq HO151.out), (bq BK133.out), (bq BK138.out), (Aa2.q HI0.out), (ks HK.out), (hsk HB.out (Aa2.ge HI0.out))⟩)
       ·skip
        refine Kd.R_lit_step (Kd.int .i64) _ 2 ?hg (N := 55) ?hd (xs := ([3, (-1)] : List Int)) (inner := [.int .i64 3, .int .i64 (-1)]) (ok := fun _ => True) (okp := fun _ => True) ?hr ?hp (fun _ hk => hk) trivial (Below.refl _ _) (Nat.le_refl _) (by simp) ?_; (case hd => rfl); (case hg => rfl); (case hr => first | (go_simp; done) | (go_simp; rfl)); (case hp => exact (Ad5.one (show Kd.M (Kd.int .i64) _ _ _ 3 [.int .i64 3] from rfl) (Ad5.one (show Kd.M (Kd.int .i64) _ _ _ (-1) [.int .i64 (-1)] from rfl) (Ad5.none _ _))))
        intro v150 w75 ho76 hb hg_ hnew_
        clear hg_ hnew_
        (first | rw [← Ny149.out] at ho76 | (simp only [Int.reduceToNat] at ho76; rw [← Ny149.out] at ho76))
        replace HO136 := rb HO136 hb
        have HO151 := am (Kd.R_lower ho76 (Ab7 (w := w) (g := g) (row := none) (ks HK.out)))
        replace BK133 := bb BK133 hb
        replace BK138 := bb BK138 hb
        replace HK := am (Aa3.trans (ks HK.out) (Aa3.of_below hb g none) (.inl rfl))
        replace HB := am (Ab8 (hsk HB.out (Aa2.ge HI0.out)) hb)
        replace HI0 := Aa2.bl HI0 hb
        clear hb ho76
        refine hK.out _ _ ((Aa0 BK138.out 0).trans rfl) (fun hHeld => ?_)
        clear hK K
        refine nr (some 55) ?_
        refine on_ 4 (some 53) rfl rfl HT_ (fun K hK => ?_)
        refine gs Tryz.func56 #[.pointer (some ⟨g, 0, none⟩), .int .i64 (t134.length : Int)] ?_
        refine (spec_l1Next.calls g s0_0 t142 (t134.length : Int) t147 t148 w0 _ (Aa2.q HI0.out) (hsk HB.out (Aa2.ge HI0.out)) A60.out).mono ?_
        rintro e w77 ⟨rfl, hi, hb, hk⟩
        refine ⟨_, rfl, ?_⟩
        replace BK133 := kb hk BK133 NB133_0
        replace HO136 := Aa2.rk HI0 HO136 hk
        replace BK138 := kb hk BK138 NB138_0
        replace HO151 := Aa2.rk HI0 HO151 hk
        replace HK := am (Aa3.trans (ks HK.out) hk (.inl rfl))
        replace HB := am (hb)
        replace HI0 := am (hi)
        (try clear hb)
        (try clear hk)
        (try clear hi)
        refine hK.out _ _ ((Aa0 BK138.out 0).trans rfl) (fun hHeld => ?_)
        clear hK K
        refine nr (some 53) ?_
        exact nj (hCont (v150) _ ⟨hHeld, (rq HO136.out), (rq HO151.out), (bq BK133.out), (bq BK138.out), (Aa2.q HI0.out), (ks HK.out), (hsk HB.out (Aa2.ge HI0.out))⟩)
      clear HO136 BK133 BK138 HI0 HK HB
      rintro v150 w78 ⟨hS_, h0_, h1_, h2_, h3_, h4_, h5_, h6_⟩
      try dsimp only at hS_ h0_ h1_ h2_ h3_ h4_ h5_ h6_
      have HO136 := am h0_; have HO151 := am h1_; have BK133 := am h2_; have BK138 := am h3_; have HI0 := am h4_; have HK := am h5_; have HB := am h6_; clear h0_ h1_ h2_ h3_ h4_ h5_ h6_; have hHeld := hS_
      obtain ⟨Ao79, co79, eo79⟩ := Kd.R_slice HO151.out
      (first | subst eo79 | (injection eo79 with f1_ f2_ f3_; have f4_ := f1_.symm; have f5_ := f3_.symm; clear f1_ f2_ f3_; subst f4_; subst f5_))
      refine nj ?_
      refine on_ 7 (some 56) rfl rfl HT_ (fun K hK => ?_)
      refine gs Tryz.func26 #[.pointer (some ⟨g, 0, none⟩), .slice Ao79 y149.length co79] ?_
      refine (spec_l1Pick.calls g s0_0 t148 _ _ y149 t152 t153 w0 _ (Aa2.q HI0.out) (hsk HB.out (Aa2.ge HI0.out)) (cq (Kd.R_reads' HO151.out).2.2) ((Kd.R_reads' HO151.out).2.1) (Aj4 (Aa2.own_ne HI0.out HO151.out (by decide))) A61.out).mono ?_
      rintro e w80 ⟨rfl, hi, hb, hk⟩
      refine ⟨_, rfl, ?_⟩
      replace BK133 := kb hk BK133 NB133_0
      replace HO136 := Aa2.rk HI0 HO136 hk
      replace BK138 := kb hk BK138 NB138_0
      replace HO151 := Aa2.rk HI0 HO151 hk
      replace HK := am (Aa3.trans (ks HK.out) hk (.inl rfl))
      replace HB := am (hb)
      replace HI0 := am (hi)
      (try clear hb)
      (try clear hk)
      (try clear hi)
      have p64 : 0 ≤ (t147 : Int) := od
      have q64 : (t147 : Int) < ((t134.length : Int) : Int) := od
      obtain ⟨go64, co64, eo64, gb64, gl64, cl64, HG64⟩ := Kd.R_form HO136.out (by omega)
      (first | cases eo64 | (injection eo64 with ea_ en_ ec_; (first | subst ea_ | (injection ea_ with ea_; subst ea_)); subst ec_; clear en_))
      have GB64 := am gb64
      have GG64 := am HG64
      clear gb64 gl64 HG64
      obtain ⟨ce64, hcl64, hM64, hcc64, hfr64⟩ := Kd.R_elem HO136.out z90 (t147 : Int) p64 q64
      obtain rfl := Aj9 hM64
      have hx64_0 : World.cell? _ ⟨go64, (t147 : Int).toNat * 2, none⟩ = some (.string ((Aa7 t134 t147).f0)) := hcc64 0 _ rfl
      have hx64_1 : World.cell? _ ⟨go64, (t147 : Int).toNat * 2 + 1, none⟩ = some (.int .i64 ((Aa7 t134 t147).f1)) := hcc64 1 _ rfl
      have hf64_0 : World.frozen? _ ⟨go64, (t147 : Int).toNat * 2, none⟩ = false := hfr64 0
      have hf64_1 : World.frozen? _ ⟨go64, (t147 : Int).toNat * 2 + 1, none⟩ = false := hfr64 1
      clear hcl64 hcc64 hfr64; (try clear hM64)
      replace p64 := eq_true p64
      replace q64 := eq_true q64
      have HN0_go64 := am (show g ≠ go64 from by have h_ := Aa2.own_ne HI0.out HO136.out (by decide); intro e_; exact h_ (by rw [e_]; rfl))
      obtain ⟨ce81, hcl81, hM81, hcc81, hfr81⟩ := Kd.R_elem HO136.out z90 (t147 : Int) od (by have h_ : (t147 : Int) < ((t134.length : Int) : Int) := od; first | exact h_ | (have e_ := (Kd.R_reads' HO136.out).1; omega) | simpa using h_)
      obtain rfl := Aj9 hM81
      have HP81 := (Kd.R_seg HO136.out (t147 : Int) od (by have h_ : (t147 : Int) < ((t134.length : Int) : Int) := od; first | exact h_ | (have e_ := (Kd.R_reads' HO136.out).1; omega) | simpa using h_) (seg := [.int .i64 t152]) (j := 1) hcl81 hcc81 (show 2 ≤ 2 from by decide) (x' := (⟨(Aa7 t134 t147).f0, t152⟩ : S90)) (Af3 _ _ _ (⟨(Aa7 t134 t147).f0, t152⟩ : S90) ) (fun _ hk => hk)).1
      rw [← Ny154.out] at HP81
      have HQ81 := am HP81
      clear hcl81 hcc81 hfr81 HP81; (try clear hM81)
      refine hK.out _ _ ((Aa0 BK138.out 0).trans rfl) (fun hHeld => ?_)
      clear hK K
      refine nr (some 56) ?_
      refine pu 8 57 rfl rfl HT_ ?_
      refine pu 9 58 rfl rfl HT_ ?_
      refine Aw8 (i := 10) (N := none) #[true, true, true, true, true, true, true, true, true, true, true] rfl rfl (Ar7 HT_.out (by kernel_rfl)) (by decide) (fun K hK => ?_)
      refine At8 (w1 := ?_) (by rfl) rfl ?_ ?_
      rotate_left
      ·go_simp
       rfl
      refine hK.out _ _ ?_
      clear hK K
      refine Am5 (Ai6 HT_.out (by kernel_rfl)) ?_
      have n0_ : Aside0 (Kd.R k90 90 (w80.setCell ⟨go64, (t147 : Int).toNat * 2 + 1, none⟩ (.int .i64 t152)) w.heap.size (fun _ => True) (.slice (some ⟨go64, 0, none⟩) t134.length co68) y154) := ⟨rq HQ81.out⟩
      have n1_ : Aside0 (Kd.R (Kd.int .i64) 2 (w80.setCell ⟨go64, (t147 : Int).toNat * 2 + 1, none⟩ (.int .i64 t152)) w.heap.size (fun _ => True) (.slice Ao79 y149.length co79) y149) := ⟨rq (Kd.R_mono (Kd.R_far (p := ⟨go64, (t147 : Int).toNat * 2 + 1, none⟩) (Kd.R_types HO151.out GG64.out (by decide)) (fun _ hk => hk.2) (.int .i64 t152)) (fun _ hk => trivial))⟩
      have n2_ : Aside0 ((w80.setCell ⟨go64, (t147 : Int).toNat * 2 + 1, none⟩ (.int .i64 t152)).heap[gb133]? = some (.cells #[.slice none 0 0] 26 (0, 0))) := ⟨by refine bq ?_; refine Aa4 ?_ (by have h_ := Kd.R_ne HO136.out BK133.out (by decide); intro e_; exact h_ (by rw [e_]; rfl)) _; refine bq ?_; exact BK133.out⟩
      have n3_ : Aside0 ((w80.setCell ⟨go64, (t147 : Int).toNat * 2 + 1, none⟩ (.int .i64 t152)).heap[gb138]? = some (.cells #[.slice (some ⟨go64, 0, none⟩) t134.length co68] 26 (0, 0))) := ⟨by refine bq ?_; refine Aa4 ?_ (by have h_ := Kd.R_ne HO136.out BK138.out (by decide); intro e_; exact h_ (by rw [e_]; rfl)) _; refine bq ?_; exact BK138.out⟩
      have n4_ : Aside0 (Aa2 w0 (w80.setCell ⟨go64, (t147 : Int).toNat * 2 + 1, none⟩ (.int .i64 t152)) g s0_0 t153) := ⟨Aa2.q HI0.out⟩
      have n5_ : Aside0 (Aa3 w (w80.setCell ⟨go64, (t147 : Int).toNat * 2 + 1, none⟩ (.int .i64 t152)) g none) := ⟨ks HK.out⟩
      have n6_ : Aside0 (Below w0.heap.size w0 (w80.setCell ⟨go64, (t147 : Int).toNat * 2 + 1, none⟩ (.int .i64 t152))) := ⟨by repeat (first | (with_reducible first | exact HB.out | apply Ab6 | apply Ab1 | apply Ab3 | refine Ac2 ?_ (Nat.le_trans HL.out GB64.out) | refine Ac2 ?_ (Aa2.ge HI0.out) | refine Ac2 ?_ GE133.out | refine Ac2 ?_ GE138.out) | exact HB.out)⟩
      (try clear HO136)
      (try clear HO151)
      (try clear BK133)
      (try clear BK138)
      (try clear HI0)
      (try clear HK)
      (try clear HB)
      (try simp only [Go.IntKind.wrap_u8])
      generalize (w80.setCell ⟨go64, (t147 : Int).toNat * 2 + 1, none⟩ (.int .i64 t152)) = w82 at n0_ n1_ n2_ n3_ n4_ n5_ n6_ ⊢
      have HO136 := n0_
      have HO151 := n1_
      have BK133 := n2_
      have BK138 := n3_
      have HI0 := n4_
      have HK := n5_
      have HB := n6_
      clear n0_ n1_ n2_ n3_ n4_ n5_ n6_
      have hcz83_0 : w82.cell? ⟨gb138, 0, none⟩ = some (.slice (some ⟨go64, 0, none⟩) t134.length co68) := (Aa0 BK138.out 0).trans rfl
      have hfz83_0 := Aa1 BK138.out 0
      have hnb84 := NB133_0.out
      have hnc84 := NB0_133.out
      have hcz85_0 : w82.cell? ⟨gb133, 0, none⟩ = some (.slice none 0 0) := (Aa0 BK133.out 0).trans rfl
      have hfz85_0 := Aa1 BK133.out 0
      try go_wp2
      refine bodyPost_ret (results_cell_row rfl _ _ gb133 26 #[.slice (some ⟨go64, 0, none⟩) t134.length co68] (0, 0) _ rfl (by refine bq ?_; refine Aa6 (cs := #[.slice none 0 0]) ?_ 0 _ rfl; refine bq ?_; exact BK133.out) Tryz.underlying26 rfl (by kernel_rfl)) rfl ?_
      exact ⟨_, er, rq (Kd.R_mono (Kd.R_far (p := ⟨gb133, 0, none⟩) (Kd.R_types HO136.out BK133.out (by decide)) (fun _ hk => hk.2) (.slice (some ⟨go64, 0, none⟩) t134.length co68)) (fun _ hk => trivial)), Aa2.q HI0.out, hsk HB.out (Aa2.ge HI0.out), ks HK.out⟩
     ·rw [if_neg c59] at H
      obtain ⟨c59b0, c59b1⟩ := bqf c59
      by_cases c86 : t141 = 4
      ·rw [if_pos c86] at H
       obtain ⟨c86b0, c86b1⟩ := bqt c86; clear c86
       obtain ⟨c87, H⟩ := ifs H
       have c87b0 : decide (0 < (t134.length : Int)) = true := decide_eq_true c87
       have c87b1 : decide (0 < t134.length) = true := decide_eq_true (by omega)
       clear c87
       obtain ⟨c88, H⟩ := ifs H
       have LMc88 := am c88
       clear c88
       obtain ⟨y156, hy156⟩ : ∃ y_ : List (S90), y_ = (t134 ++ [(⟨(Aa7 t134 0).f0, (Aa7 t134 0).f1⟩ : S90)]) := ⟨_, rfl⟩
       replace H : (some (y156, t142)) = some (r1, r2) := by first | (rw [hy156]; with_reducible exact H) | (have H2_ := (Option.bind_some _ _).symm.trans H; rw [hy156]; with_reducible exact H2_) | (have H2_ := (Option.bind_some _ _).symm.trans H; with_reducible exact H2_) | with_reducible exact H | (rw [hy156]; exact H) | exact H
       have Ny156 := am hy156
       clear hy156
       simp only [Option.some.injEq, Prod.mk.injEq] at H
       obtain ⟨rfl, rfl⟩ := H
       go_enter Tryz.func24, Tryz.ntmps24
       try go_wp2_with (first | (refine bx 2 rfl #[.slice none 0 0] 26 ?_; intro gb133 hg w89 hbox hb; replace HB := am (Ab8 (hsk HB.out (Aa2.ge HI0.out)) hb); have BK133 := am (hbox); have GW133 := am ((by rw [hg]; exact (Ab7 (w := w) (g := g) (row := none) (kq HK.out)) : w.heap.size ≤ gb133)); replace HK := am (Aa3.trans (kq HK.out) (Aa3.of_below hb g none) (.inl rfl)); have GE133 := am (Nat.le_trans HW0.out GW133.out); have NB0_133 := am ((by rw [hg]; exact Nat.ne_of_lt (Aa2.lt (show Aa2 w0 _ g s0_0 s0_1 from Aa2.q HI0.out)) : g ≠ gb133)); replace HI0 := Aa2.bl HI0 hb; have NB133_0 := am NB0_133.out.symm; clear hb hbox hg) | (refine gl (some 7) Tryz.func54 rfl #[.pointer (some ⟨g, 0, none⟩)] ?_; refine (spec_l2Sig.calls k g s0_0 s0_1 t134 t137 w0 _ (Aa2.q HI0.out) (hsk HB.out (Aa2.ge HI0.out)) A2.out).mono ?_; rintro e w90 ⟨v135, rfl, ho0, hi, hb, hk⟩; refine ⟨_, rfl, ?_⟩; replace BK133 := kb hk BK133 NB133_0; have HO136 := am (Kd.R_lower ho0 (Ab7 (w := w) (g := g) (row := none) (ks HK.out))); replace HK := am (Aa3.trans (ks HK.out) hk (.inl rfl)); replace HB := am (hb); replace HI0 := am (hi); (try clear hb); (try clear hk); (try clear hi); (try clear ho0)) | (refine bx 3 rfl #[.slice none 0 0] 26 ?_; intro gb138 hg w91 hbox hb; replace HO136 := rb HO136 hb; replace HB := am (Ab8 (hsk HB.out (Aa2.ge HI0.out)) hb); have BK138 := am (hbox); have GW138 := am ((by rw [hg]; exact (Ab7 (w := w) (g := g) (row := none) (ks HK.out)) : w.heap.size ≤ gb138)); replace HK := am (Aa3.trans (ks HK.out) (Aa3.of_below hb g none) (.inl rfl)); have GE138 := am (Nat.le_trans HW0.out GW138.out); have NB133_138 := nl hg BK133; have NB138_133 := ng hg BK133; replace BK133 := bb BK133 hb; have NB0_138 := am ((by rw [hg]; exact Nat.ne_of_lt (Aa2.lt (show Aa2 w0 _ g s0_0 t137 from Aa2.q HI0.out)) : g ≠ gb138)); replace HI0 := Aa2.bl HI0 hb; have NB138_0 := am NB0_138.out.symm; clear hb hbox hg; obtain ⟨Ao92, co92, rfl⟩ := Kd.R_slice HO136.out; have hnb93 := NB138_133.out; have hnc93 := NB133_138.out; have hnb94 := NB138_0.out; have hnc94 := NB0_138.out; have hcz95_0 : w91.cell? ⟨gb138, 0, none⟩ = some (.slice none 0 0) := (Aa0 BK138.out 0).trans rfl; have hfz95_0 := Aa1 BK138.out 0) | (refine gl (some 12) Tryz.func55 rfl #[.pointer (some ⟨g, 0, none⟩), .int .i64 9] ?_; refine (spec_l1Chance.calls g s0_0 t137 9 true t140 w0 _ (Aa2.q HI0.out) (hsk HB.out (Aa2.ge HI0.out)) A3.out).mono ?_; rintro e w96 ⟨rfl, hi, hb, hk⟩; refine ⟨_, rfl, ?_⟩; replace BK133 := am (Aa3.blk hk (g' := gb133) (o := .cells #[.slice none 0 0] 26 (0, 0)) (by refine bq ?_; refine Aa4 ?_ NB133_138.out _; refine bq ?_; exact BK133.out) NB133_0.out (by simp)); replace HO136 := am (Kd.R_mono (Kd.R_keep (Aa2.apart (show Aa2 w0 _ g s0_0 t137 from Aa2.q HI0.out) (rq ((Kd.R_mono (Kd.R_far (p := ⟨gb138, 0, none⟩) (Kd.R_types HO136.out BK138.out (by decide)) (fun _ hk => hk.2) (.slice Ao92 t134.length co92)) (fun _ h_ => h_.1)))) (by decide)) hk (fun _ h => h.2)) (fun _ h => h.1)); replace BK138 := am (Aa3.blk hk (g' := gb138) (o := .cells #[.slice Ao92 t134.length co92] 26 (0, 0)) (by refine bq ?_; refine Aa6 (cs := #[.slice none 0 0]) ?_ 0 _ rfl; refine bq ?_; exact BK138.out) NB138_0.out (by simp)); replace HK := am (Aa3.trans (ks HK.out) hk (.inl rfl)); replace HB := am (hb); replace HI0 := am (hi); (try clear hb); (try clear hk); (try clear hi)) | (refine gl (some 16) Tryz.func56 rfl #[.pointer (some ⟨g, 0, none⟩), .int .i64 7] ?_; refine (spec_l1Next.calls g s0_0 t140 7 t141 t142 w0 _ (Aa2.q HI0.out) (hsk HB.out (Aa2.ge HI0.out)) A5.out).mono ?_; rintro e w97 ⟨rfl, hi, hb, hk⟩; refine ⟨_, rfl, ?_⟩; replace BK133 := kb hk BK133 NB133_0; replace HO136 := Aa2.rk HI0 HO136 hk; replace BK138 := kb hk BK138 NB138_0; replace HK := am (Aa3.trans (ks HK.out) hk (.inl rfl)); replace HB := am (hb); replace HI0 := am (hi); (try clear hb); (try clear hk); (try clear hi)))
       replace HO136 := am (Kd.R_drew HO136.out)
       replace BK133 := am (Ad0 BK133.out)
       replace BK138 := am (Ad0 BK138.out)
       replace HI0 := am (Aa2.drew HI0.out)
       replace HK := am (Ac4 HK.out)
       replace HB := am (Ab3 HB.out)
       have p155 : 0 ≤ (0 : Int) := (by omega)
       have q155 : 0 < (t134.length : Int) := od
       obtain ⟨ad155, e155, hx155_0, hx155_1⟩ := Ae9 (Kd.R_reads' HO136.out).2.2 0 p155 q155
       cases e155
       have qi155 : (0 < t134.length) = True := eq_true (by omega)
       (try rw [show ((0 : Int)).toNat = 0 from rfl] at hx155_0)
       (try rw [show 0 * 2 = 0 from rfl] at hx155_0)
       (try rw [Addr.add_zero'] at hx155_0)
       (try rw [show ((0 : Int)).toNat = 0 from rfl] at hx155_1)
       (try rw [show 0 * 2 = 0 from rfl] at hx155_1)
       (try rw [Addr.add_zero'] at hx155_1)
       replace p155 := eq_true p155
       replace q155 := eq_true q155
       refine Ak0 (n := 10) (S := fun w' => w'.cell? ⟨gb138, 0, none⟩ = some (.slice (some ad155) t134.length co92) ∧ w'.cell? ad155 = some (.string ((Aa7 t134 0).f0)) ∧ w'.cell? ⟨ad155.block, ad155.off + 1, none⟩ = some (.int .i64 ((Aa7 t134 0).f1))) (ds := [7, 9]) #[false, false, false, false, false, false, false, false, false, false] (by kernel_rfl) rfl rfl ⟨(Aa0 BK138.out 0).trans rfl, hx155_0, hx155_1⟩ (fun hHeld => ?_); refine Af6 spec_l2Bent.tab17 spec_l2Bent.bits17 (fun HT_ HW_ => ?_)
       generalize w97.drew = w98 at HO136 BK133 BK138 HI0 HK HB hx155_0 hx155_1 hHeld ⊢
       refine pu 0 61 rfl rfl HT_ ?_
       refine pu 2 63 rfl rfl HT_ ?_
       refine tk 1 62 rfl rfl HT_ HW_ hHeld ?_
       refine tk 3 64 rfl rfl HT_ HW_ hHeld ?_
       refine pu 4 65 rfl rfl HT_ ?_
       refine tk 5 66 rfl rfl HT_ HW_ hHeld ?_
       refine on_ 6 (some 67) rfl rfl HT_ (fun K hK => ?_)
       refine value_ (w1 := ?_) (v := ?_) (by rfl) rfl ?_ ?_
       rotate_left 2
       ·go_simp
        constructor
        ·rfl
        ·rfl
       refine hK.out _ _ ⟨(Aa0 (Al5 BK138.out _) 0).trans rfl, (World.cell?_alloc_lt _ _ _ (World.block_lt_of_cell? _ _ (hHeld.2.1))).trans (hHeld.2.1), (World.cell?_alloc_lt _ _ _ (World.block_lt_of_cell? _ _ (hHeld.2.2))).trans (hHeld.2.2)⟩ (fun hHeld => ?_)
       clear hK K
       refine nr (some 67) ?_
       refine Aw8 (i := 7) (N := some 68) #[true, true, true, true, true, true, true, true, false, false] rfl rfl (Ar7 HT_.out (by kernel_rfl)) (by decide) (fun K hK => ?_)
       refine Kd.R_append_step k90 w.heap.size (by rfl) (.tmp 62) (.tmp 67) 24 90 (.agg #[(.string ⟨#[]⟩), (.int .i64 0)]) 24 rfl Tryz.underlying24 info90 rfl (by decide) (by omega) (.slice (some ad155) t134.length co92) t134 (⟨(Aa7 t134 0).f0, (Aa7 t134 0).f1⟩ : S90) [.string ((Aa7 t134 0).f0), .int .i64 ((Aa7 t134 0).f1)] (fun _ => True) (fun _ => False) rfl rfl ?aP (fun _ hk => hk.elim) ?aF ?aO (Below.refl _ _) ?aS ?aL ?_
       (case aP => exact Af3 _ _ _ (⟨(Aa7 t134 0).f0, (Aa7 t134 0).f1⟩ : S90))
       (case aF => exact (fun _ _ => trivial))
       (case aO => exact (rq HO136.out))
       (case aS => exact (Ab7 (w := w) (g := g) (row := none) (ks HK.out)))
       (case aL => have := LMc88.out; omega)
       intro v157 w99 ho hb hg hat
       rw [← Ny156.out] at ho
       replace BK133 := am (Ac9 (bq BK133.out) hg (Kd.R_ne HO136.out BK133.out (by decide)))
       replace BK138 := am (Ac9 (bq BK138.out) hg (Kd.R_ne HO136.out BK138.out (by decide)))
       replace HB := am (Ah7 (hsk HB.out (Aa2.ge HI0.out)) HL.out hb)
       replace HI0 := am (Aa2.grown (Aa2.q HI0.out) hg (Aa2.own_ne HI0.out HO136.out (by decide)))
       replace HK := am (Aa3.trans (ks HK.out) (Aa3.of_grown hg g) (Kd.R_base2 HO136.out))
       have HO158 := am (ho)
       clear HO136
       clear ho hb hg hat
       obtain ⟨Ao100, co100, eo100⟩ := Kd.R_slice HO158.out
       (first | subst eo100 | (injection eo100 with f1_ f2_ f3_; have f4_ := f1_.symm; have f5_ := f3_.symm; clear f1_ f2_ f3_; subst f4_; subst f5_))
       refine hK.out _ _ ?_
       clear hK K
       refine nr (some 68) ?_
       refine pu 8 69 rfl rfl HT_ ?_
       refine Aw8 (i := 9) (N := none) #[true, true, true, true, true, true, true, true, true, true] rfl rfl (Ar7 HT_.out (by kernel_rfl)) (by decide) (fun K hK => ?_)
       have hs101 : w99.cell? ⟨gb138, 0, none⟩ = some (.slice (some ad155) t134.length co92) := (Aa0 BK138.out 0).trans rfl
       have hfs101 := Aa1 BK138.out 0
       have hns101_0 := NB133_138.out
       have hms101_0 := NB138_133.out
       refine At8 (w1 := ?_) (by rfl) rfl ?_ ?_
       rotate_left
       ·go_simp
        rfl
       refine hK.out _ _ ?_
       clear hK K
       refine Am5 (Ai6 HT_.out (by kernel_rfl)) ?_
       have hcz102_0 : w99.cell? ⟨gb138, 0, none⟩ = some (.slice (some ad155) t134.length co92) := (Aa0 BK138.out 0).trans rfl
       have hfz102_0 := Aa1 BK138.out 0
       have hnb103 := NB133_0.out
       have hnc103 := NB0_133.out
       have hcz104_0 : w99.cell? ⟨gb133, 0, none⟩ = some (.slice none 0 0) := (Aa0 BK133.out 0).trans rfl
       have hfz104_0 := Aa1 BK133.out 0
       try go_wp2
       refine bodyPost_ret (results_cell_row rfl _ _ gb133 26 #[.slice Ao100 y156.length co100] (0, 0) _ rfl (by refine bq ?_; refine Aa6 (cs := #[.slice none 0 0]) ?_ 0 _ rfl; refine bq ?_; refine Aa4 ?_ NB133_138.out _; refine bq ?_; exact BK133.out) Tryz.underlying26 rfl (by kernel_rfl)) rfl ?_
       exact ⟨_, er, rq (Kd.R_mono (Kd.R_far (p := ⟨gb133, 0, none⟩) (Kd.R_far (p := ⟨gb138, 0, none⟩) (Kd.R_types (Kd.R_types HO158.out BK138.out (by decide)) BK133.out (by decide)) (fun _ hk => hk.1.2) (.slice Ao100 y156.length co100)) (fun _ hk => hk.2) (.slice Ao100 y156.length co100)) (fun _ hk => trivial)), Aa2.q HI0.out, hsk HB.out (Aa2.ge HI0.out), ks HK.out⟩
      ·rw [if_neg c86] at H
       obtain ⟨c86b0, c86b1⟩ := bqf c86
       by_cases c105 : t141 = 5
       ·rw [if_pos c105] at H
        obtain ⟨c105b0, c105b1⟩ := bqt c105; clear c105
        have H' := am H
        clear H
        go_enter Tryz.func24, Tryz.ntmps24
        go_wp2_with (first | (refine bx 2 rfl #[.slice none 0 0] 26 ?_; intro gb133 hg w106 hbox hb; replace HB := am (Ab8 (hsk HB.out (Aa2.ge HI0.out)) hb); have BK133 := am (hbox); have GW133 := am ((by rw [hg]; exact (Ab7 (w := w) (g := g) (row := none) (kq HK.out)) : w.heap.size ≤ gb133)); replace HK := am (Aa3.trans (kq HK.out) (Aa3.of_below hb g none) (.inl rfl)); have GE133 := am (Nat.le_trans HW0.out GW133.out); have NB0_133 := am ((by rw [hg]; exact Nat.ne_of_lt (Aa2.lt (show Aa2 w0 _ g s0_0 s0_1 from Aa2.q HI0.out)) : g ≠ gb133)); replace HI0 := Aa2.bl HI0 hb; have NB133_0 := am NB0_133.out.symm; clear hb hbox hg) | (refine gl (some 7) Tryz.func54 rfl #[.pointer (some ⟨g, 0, none⟩)] ?_; refine (spec_l2Sig.calls k g s0_0 s0_1 t134 t137 w0 _ (Aa2.q HI0.out) (hsk HB.out (Aa2.ge HI0.out)) A2.out).mono ?_; rintro e w107 ⟨v135, rfl, ho0, hi, hb, hk⟩; refine ⟨_, rfl, ?_⟩; replace BK133 := kb hk BK133 NB133_0; have HO136 := am (Kd.R_lower ho0 (Ab7 (w := w) (g := g) (row := none) (ks HK.out))); replace HK := am (Aa3.trans (ks HK.out) hk (.inl rfl)); replace HB := am (hb); replace HI0 := am (hi); (try clear hb); (try clear hk); (try clear hi); (try clear ho0)) | (refine bx 3 rfl #[.slice none 0 0] 26 ?_; intro gb138 hg w108 hbox hb; replace HO136 := rb HO136 hb; replace HB := am (Ab8 (hsk HB.out (Aa2.ge HI0.out)) hb); have BK138 := am (hbox); have GW138 := am ((by rw [hg]; exact (Ab7 (w := w) (g := g) (row := none) (ks HK.out)) : w.heap.size ≤ gb138)); replace HK := am (Aa3.trans (ks HK.out) (Aa3.of_below hb g none) (.inl rfl)); have GE138 := am (Nat.le_trans HW0.out GW138.out); have NB133_138 := nl hg BK133; have NB138_133 := ng hg BK133; replace BK133 := bb BK133 hb; have NB0_138 := am ((by rw [hg]; exact Nat.ne_of_lt (Aa2.lt (show Aa2 w0 _ g s0_0 t137 from Aa2.q HI0.out)) : g ≠ gb138)); replace HI0 := Aa2.bl HI0 hb; have NB138_0 := am NB0_138.out.symm; clear hb hbox hg; obtain ⟨Ao109, co109, rfl⟩ := Kd.R_slice HO136.out; have hnb110 := NB138_133.out; have hnc110 := NB133_138.out; have hnb111 := NB138_0.out; have hnc111 := NB0_138.out; have hcz112_0 : w108.cell? ⟨gb138, 0, none⟩ = some (.slice none 0 0) := (Aa0 BK138.out 0).trans rfl; have hfz112_0 := Aa1 BK138.out 0) | (refine gl (some 12) Tryz.func55 rfl #[.pointer (some ⟨g, 0, none⟩), .int .i64 9] ?_; refine (spec_l1Chance.calls g s0_0 t137 9 true t140 w0 _ (Aa2.q HI0.out) (hsk HB.out (Aa2.ge HI0.out)) A3.out).mono ?_; rintro e w113 ⟨rfl, hi, hb, hk⟩; refine ⟨_, rfl, ?_⟩; replace BK133 := am (Aa3.blk hk (g' := gb133) (o := .cells #[.slice none 0 0] 26 (0, 0)) (by refine bq ?_; refine Aa4 ?_ NB133_138.out _; refine bq ?_; exact BK133.out) NB133_0.out (by simp)); replace HO136 := am (Kd.R_mono (Kd.R_keep (Aa2.apart (show Aa2 w0 _ g s0_0 t137 from Aa2.q HI0.out) (rq ((Kd.R_mono (Kd.R_far (p := ⟨gb138, 0, none⟩) (Kd.R_types HO136.out BK138.out (by decide)) (fun _ hk => hk.2) (.slice Ao109 t134.length co109)) (fun _ h_ => h_.1)))) (by decide)) hk (fun _ h => h.2)) (fun _ h => h.1)); replace BK138 := am (Aa3.blk hk (g' := gb138) (o := .cells #[.slice Ao109 t134.length co109] 26 (0, 0)) (by refine bq ?_; refine Aa6 (cs := #[.slice none 0 0]) ?_ 0 _ rfl; refine bq ?_; exact BK138.out) NB138_0.out (by simp)); replace HK := am (Aa3.trans (ks HK.out) hk (.inl rfl)); replace HB := am (hb); replace HI0 := am (hi); (try clear hb); (try clear hk); (try clear hi)) | (refine gl (some 16) Tryz.func56 rfl #[.pointer (some ⟨g, 0, none⟩), .int .i64 7] ?_; refine (spec_l1Next.calls g s0_0 t140 7 t141 t142 w0 _ (Aa2.q HI0.out) (hsk HB.out (Aa2.ge HI0.out)) A5.out).mono ?_; rintro e w114 ⟨rfl, hi, hb, hk⟩; refine ⟨_, rfl, ?_⟩; replace BK133 := kb hk BK133 NB133_0; replace HO136 := Aa2.rk HI0 HO136 hk; replace BK138 := kb hk BK138 NB138_0; replace HK := am (Aa3.trans (ks HK.out) hk (.inl rfl)); replace HB := am (hb); replace HI0 := am (hi); (try clear hb); (try clear hk); (try clear hi)))
        go_loopg [5] k (fun kq v5 w' => ∃ (x5_1 : Int) (x139000_1 : List (S90)) (u139000 : Value), v5 = .int .i64 x5_1 ∧ Aside0 (spec_l2Bent.l0 kq (t134.length : Int) x5_1 s0_0 t142 x139000_1 = some (r1, r2)) ∧ Aside0 (kq ≤ k) ∧ Aside0 (Kd.R k90 90 w' w.heap.size (fun _ => True) u139000 x139000_1) ∧ Aside0 (w'.heap[gb133]? = some (.cells #[(.slice none 0 0)] 26 (0, 0))) ∧ Aside0 (w'.heap[gb138]? = some (.cells #[u139000] 26 (0, 0))) ∧ Aside0 (Aa2 w0 w' g s0_0 t142) ∧ Aside0 (Aa3 w w' g none) ∧ Aside0 (Below w0.heap.size w0 w'))
        case atStart => exact ⟨(0), (t134), (.slice Ao109 t134.length co109), et, H', ⟨Nat.le_refl _⟩, ⟨rq HO136.out⟩, ⟨by refine bq ?_; exact BK133.out⟩, ⟨by refine bq ?_; exact BK138.out⟩, ⟨Aa2.q HI0.out⟩, ⟨ks HK.out⟩, ⟨hsk HB.out (Aa2.ge HI0.out)⟩⟩
        case round =>
         clear H'
         try clear c6; try clear c59; try clear c59b0; try clear c59b1; try clear c62b0; try clear c63b0; try clear p64; try clear q64; try clear c86; try clear c86b0; try clear c86b1; try clear c87; try clear c87b0; try clear c87b1; try clear c88; try clear c105; try clear c105b0; try clear c105b1; try clear hcz102_0; try clear hcz104_0; try clear hcz112_0; try clear hcz71_0; try clear hcz83_0; try clear hcz85_0; try clear hcz95_0; try clear hfz102_0; try clear hfz104_0; try clear hfz112_0; try clear hfz71_0; try clear hfz83_0; try clear hfz85_0; try clear hfz95_0; try clear hx155_0; try clear hx155_1; try clear hx64_0; try clear hx64_1; try clear p155; try clear p64; try clear q155; try clear q64
         obtain ⟨x5_1, x139000_1, u139000, rfl, HA, HK1, HO_139000, BK133, BK138, HI0, HK, HB⟩ := hrel
         cases gk with
         | zero => exact absurd HA.out (by simp [spec_l2Bent.l0])
         | succ k1 =>
          have H := HA.out
          clear HA
          simp only [spec_l2Bent.l0] at H
          by_cases c115 : x5_1 < (t134.length : Int)
          ·rw [if_pos c115] at H
           have c115b0 : decide (x5_1 < (t134.length : Int)) = true := decide_eq_true c115
           clear c115
           obtain ⟨c116b0, H⟩ := ife H
           obtain ⟨c117b0, H⟩ := ife H
           obtain ⟨y159, hy159⟩ : ∃ y_ : List (S90), y_ = (x139000_1.set (x5_1 : Int).toNat (⟨(Aa7 x139000_1 x5_1).f0, 1⟩ : S90)) := ⟨_, rfl⟩
           replace H : (spec_l2Bent.l0 k1 (t134.length : Int) (wrap64 (x5_1 + 1)) s0_0 t142 y159) = some (r1, r2) := by first | (rw [hy159]; with_reducible exact H) | (have H2_ := (Option.bind_some _ _).symm.trans H; rw [hy159]; with_reducible exact H2_) | (have H2_ := (Option.bind_some _ _).symm.trans H; with_reducible exact H2_) | with_reducible exact H | (rw [hy159]; exact H) | exact H
           have Ny159 := am hy159
           clear hy159
           have H' := am H
           clear H
           have hnb119 := NB138_133.out
           have hnc119 := NB133_138.out
           have hnb120 := NB138_0.out
           have hnc120 := NB0_138.out
           have hcz121_0 : wr.cell? ⟨gb138, 0, none⟩ = some (u139000) := (Aa0 BK138.out 0).trans rfl
           have hfz121_0 := Aa1 BK138.out 0
           have p118 : 0 ≤ (x5_1 : Int) := od
           have q118 : (x5_1 : Int) < ((x139000_1.length : Int) : Int) := od
           obtain ⟨go118, co118, eo118, gb118, gl118, cl118, HG118⟩ := Kd.R_form HO_139000.out (by omega)
           (first | cases eo118 | (injection eo118 with ea_ en_ ec_; (first | subst ea_ | (injection ea_ with ea_; subst ea_)); subst ec_; clear en_))
           have GB118 := am gb118
           have GG118 := am HG118
           clear gb118 gl118 HG118
           obtain ⟨ce118, hcl118, hM118, hcc118, hfr118⟩ := Kd.R_elem HO_139000.out z90 (x5_1 : Int) p118 q118
           obtain rfl := Aj9 hM118
           have hx118_0 : wr.cell? ⟨go118, (x5_1 : Int).toNat * 2, none⟩ = some (.string ((Aa7 x139000_1 x5_1).f0)) := hcc118 0 _ rfl
           have hx118_1 : wr.cell? ⟨go118, (x5_1 : Int).toNat * 2 + 1, none⟩ = some (.int .i64 ((Aa7 x139000_1 x5_1).f1)) := hcc118 1 _ rfl
           have hf118_0 : wr.frozen? ⟨go118, (x5_1 : Int).toNat * 2, none⟩ = false := hfr118 0
           have hf118_1 : wr.frozen? ⟨go118, (x5_1 : Int).toNat * 2 + 1, none⟩ = false := hfr118 1
           clear hcl118 hcc118 hfr118; (try clear hM118)
           replace p118 := eq_true p118
           replace q118 := eq_true q118
           have HX122 := am (show Kd.R k90 90 wr w.heap.size (fun _ => True) (.slice (some ⟨go118, 0, none⟩) x139000_1.length co118) x139000_1 from (rq HO_139000.out))
           obtain ⟨ce122, hcl122, hM122, hcc122, hfr122⟩ := Kd.R_elem HX122.out z90 (x5_1 : Int) od (by have h_ : (x5_1 : Int) < ((x139000_1.length : Int) : Int) := od; first | exact h_ | (have e_ := (Kd.R_reads' HO_139000.out).1; omega) | simpa using h_)
           obtain rfl := Aj9 hM122
           have HP122 := Kd.R_seg HX122.out (x5_1 : Int) od (by have h_ : (x5_1 : Int) < ((x139000_1.length : Int) : Int) := od; first | exact h_ | (have e_ := (Kd.R_reads' HO_139000.out).1; omega) | simpa using h_) (seg := [.int .i64 1]) (j := 1) hcl122 hcc122 (show 2 ≤ 2 from by decide) (x' := (⟨(Aa7 x139000_1 x5_1).f0, 1⟩ : S90)) (Af3 _ _ _ (⟨(Aa7 x139000_1 x5_1).f0, 1⟩ : S90) ) (fun _ hk => hk)
           have hx122_1 := hcc122 1 _ rfl
           (try simp only [show (k90).sz = 2 from rfl, Nat.mul_one, Nat.add_zero] at hx122_1)
           have hf122_1 := hfr122 1
           (try simp only [show (k90).sz = 2 from rfl, Nat.mul_one, Nat.add_zero] at hf122_1)
           clear hcl122 hcc122 hfr122; (try clear hM122)
           go_wp2_with (first | ((with_reducible refine Ah9 (t := 2) (p := 81) rfl ?_); refine Ah0 (t := 2) (p := 81) (v := ?vo_w123) (w1 := (wr.setCell ⟨go118, (x5_1 : Int).toNat * 2 + 1, none⟩ (.int .i64 1))) ?hg ?ho ?hn ?hr ?_; (case ho => rfl); (case hg => rfl); (case hn => rfl); (case hr => first | (go_simp; done) | (go_simp; rfl)); intro w123 hw; have hg : wr.grownBy w123 (some go118) := (by rw [hw]; exact HP122.2); have hp_ : Kd.R k90 90 w123 w.heap.size (fun _ => True) (.slice (some ⟨go118, 0, none⟩) x139000_1.length co118) y159 := (by rw [hw, Ny159.out]; exact HP122.1); clear HP122; replace BK133 := am (Ac9 (bq BK133.out) hg (Kd.R_ne HO_139000.out BK133.out (by decide))); replace BK138 := am (Ac9 (bq BK138.out) hg (Kd.R_ne HO_139000.out BK138.out (by decide))); replace HI0 := am (Aa2.grown (Aa2.q HI0.out) hg (Aa2.own_ne HI0.out HO_139000.out (by decide))); replace HB := am ((by rw [hw]; exact Ac2 (HB.out) (Nat.le_trans HL.out GB118.out) : Below w0.heap.size w0 w123)); replace HK := am (Aa3.trans (ks HK.out) (Aa3.of_grown hg g) (Kd.R_base2 HO_139000.out)); replace HO_139000 := am (hp_); clear hg hw hp_))
           go_roundg k1
           case measure => have := HK1.out; omega
           case rel => exact ⟨(wrap64 (x5_1 + 1)), (y159), (.slice (some ⟨go118, 0, none⟩) x139000_1.length co118), et, H', ⟨by have := HK1.out; omega⟩, ⟨rq HO_139000.out⟩, ⟨by refine bq ?_; exact BK133.out⟩, ⟨by refine bq ?_; exact BK138.out⟩, ⟨Aa2.q HI0.out⟩, ⟨ks HK.out⟩, ⟨hsk HB.out (Aa2.ge HI0.out)⟩⟩
          ·rw [if_neg c115] at H
           have c115b0 : decide (x5_1 < (t134.length : Int)) = false := decide_eq_false c115
           clear c115
           simp only [Option.some.injEq, Prod.mk.injEq] at H
           obtain ⟨rfl, rfl⟩ := H
           have hnb124 := NB138_133.out
           have hnc124 := NB133_138.out
           have hnb125 := NB138_0.out
           have hnc125 := NB0_138.out
           have hcz126_0 : wr.cell? ⟨gb138, 0, none⟩ = some (u139000) := (Aa0 BK138.out 0).trans rfl
           have hfz126_0 := Aa1 BK138.out 0
           obtain ⟨Ao127, co127, eo127⟩ := Kd.R_slice HO_139000.out
           subst eo127
           have hnb128 := NB133_0.out
           have hnc128 := NB0_133.out
           have hcz129_0 : wr.cell? ⟨gb133, 0, none⟩ = some (.slice none 0 0) := (Aa0 BK133.out 0).trans rfl
           have hfz129_0 := Aa1 BK133.out 0
           go_wp2
           refine bodyPost_ret (results_cell_row rfl _ _ gb133 26 #[.slice Ao127 x139000_1.length co127] (0, 0) _ rfl (by refine bq ?_; refine Aa6 (cs := #[.slice none 0 0]) ?_ 0 _ rfl; refine bq ?_; exact BK133.out) Tryz.underlying26 rfl (by kernel_rfl)) rfl ?_
           exact ⟨_, er, rq (Kd.R_mono (Kd.R_far (p := ⟨gb133, 0, none⟩) (Kd.R_types HO_139000.out BK133.out (by decide)) (fun _ hk => hk.2) (.slice Ao127 x139000_1.length co127)) (fun _ hk => trivial)), Aa2.q HI0.out, hsk HB.out (Aa2.ge HI0.out), ks HK.out⟩
       ·rw [if_neg c105] at H
        obtain ⟨c105b0, c105b1⟩ := bqf c105
        have H' := am H
        clear H
        go_enter Tryz.func24, Tryz.ntmps24
        go_wp2_with (first | (refine bx 2 rfl #[.slice none 0 0] 26 ?_; intro gb133 hg w130 hbox hb; replace HB := am (Ab8 (hsk HB.out (Aa2.ge HI0.out)) hb); have BK133 := am (hbox); have GW133 := am ((by rw [hg]; exact (Ab7 (w := w) (g := g) (row := none) (kq HK.out)) : w.heap.size ≤ gb133)); replace HK := am (Aa3.trans (kq HK.out) (Aa3.of_below hb g none) (.inl rfl)); have GE133 := am (Nat.le_trans HW0.out GW133.out); have NB0_133 := am ((by rw [hg]; exact Nat.ne_of_lt (Aa2.lt (show Aa2 w0 _ g s0_0 s0_1 from Aa2.q HI0.out)) : g ≠ gb133)); replace HI0 := Aa2.bl HI0 hb; have NB133_0 := am NB0_133.out.symm; clear hb hbox hg) | (refine gl (some 7) Tryz.func54 rfl #[.pointer (some ⟨g, 0, none⟩)] ?_; refine (spec_l2Sig.calls k g s0_0 s0_1 t134 t137 w0 _ (Aa2.q HI0.out) (hsk HB.out (Aa2.ge HI0.out)) A2.out).mono ?_; rintro e w131 ⟨v135, rfl, ho0, hi, hb, hk⟩; refine ⟨_, rfl, ?_⟩; replace BK133 := kb hk BK133 NB133_0; have HO136 := am (Kd.R_lower ho0 (Ab7 (w := w) (g := g) (row := none) (ks HK.out))); replace HK := am (Aa3.trans (ks HK.out) hk (.inl rfl)); replace HB := am (hb); replace HI0 := am (hi); (try clear hb); (try clear hk); (try clear hi); (try clear ho0)) | (refine bx 3 rfl #[.slice none 0 0] 26 ?_; intro gb138 hg w132 hbox hb; replace HO136 := rb HO136 hb; replace HB := am (Ab8 (hsk HB.out (Aa2.ge HI0.out)) hb); have BK138 := am (hbox); have GW138 := am ((by rw [hg]; exact (Ab7 (w := w) (g := g) (row := none) (ks HK.out)) : w.heap.size ≤ gb138)); replace HK := am (Aa3.trans (ks HK.out) (Aa3.of_below hb g none) (.inl rfl)); have GE138 := am (Nat.le_trans HW0.out GW138.out); have NB133_138 := nl hg BK133; have NB138_133 := ng hg BK133; replace BK133 := bb BK133 hb; have NB0_138 := am ((by rw [hg]; exact Nat.ne_of_lt (Aa2.lt (show Aa2 w0 _ g s0_0 t137 from Aa2.q HI0.out)) : g ≠ gb138)); replace HI0 := Aa2.bl HI0 hb; have NB138_0 := am NB0_138.out.symm; clear hb hbox hg; obtain ⟨Ao133, co133, rfl⟩ := Kd.R_slice HO136.out; have hnb134 := NB138_133.out; have hnc134 := NB133_138.out; have hnb135 := NB138_0.out; have hnc135 := NB0_138.out; have hcz136_0 : w132.cell? ⟨gb138, 0, none⟩ = some (.slice none 0 0) := (Aa0 BK138.out 0).trans rfl; have hfz136_0 := Aa1 BK138.out 0) | (refine gl (some 12) Tryz.func55 rfl #[.pointer (some ⟨g, 0, none⟩), .int .i64 9] ?_; refine (spec_l1Chance.calls g s0_0 t137 9 true t140 w0 _ (Aa2.q HI0.out) (hsk HB.out (Aa2.ge HI0.out)) A3.out).mono ?_; rintro e w137 ⟨rfl, hi, hb, hk⟩; refine ⟨_, rfl, ?_⟩; replace BK133 := am (Aa3.blk hk (g' := gb133) (o := .cells #[.slice none 0 0] 26 (0, 0)) (by refine bq ?_; refine Aa4 ?_ NB133_138.out _; refine bq ?_; exact BK133.out) NB133_0.out (by simp)); replace HO136 := am (Kd.R_mono (Kd.R_keep (Aa2.apart (show Aa2 w0 _ g s0_0 t137 from Aa2.q HI0.out) (rq ((Kd.R_mono (Kd.R_far (p := ⟨gb138, 0, none⟩) (Kd.R_types HO136.out BK138.out (by decide)) (fun _ hk => hk.2) (.slice Ao133 t134.length co133)) (fun _ h_ => h_.1)))) (by decide)) hk (fun _ h => h.2)) (fun _ h => h.1)); replace BK138 := am (Aa3.blk hk (g' := gb138) (o := .cells #[.slice Ao133 t134.length co133] 26 (0, 0)) (by refine bq ?_; refine Aa6 (cs := #[.slice none 0 0]) ?_ 0 _ rfl; refine bq ?_; exact BK138.out) NB138_0.out (by simp)); replace HK := am (Aa3.trans (ks HK.out) hk (.inl rfl)); replace HB := am (hb); replace HI0 := am (hi); (try clear hb); (try clear hk); (try clear hi)) | (refine gl (some 16) Tryz.func56 rfl #[.pointer (some ⟨g, 0, none⟩), .int .i64 7] ?_; refine (spec_l1Next.calls g s0_0 t140 7 t141 t142 w0 _ (Aa2.q HI0.out) (hsk HB.out (Aa2.ge HI0.out)) A5.out).mono ?_; rintro e w138 ⟨rfl, hi, hb, hk⟩; refine ⟨_, rfl, ?_⟩; replace BK133 := kb hk BK133 NB133_0; replace HO136 := Aa2.rk HI0 HO136 hk; replace BK138 := kb hk BK138 NB138_0; replace HK := am (Aa3.trans (ks HK.out) hk (.inl rfl)); replace HB := am (hb); replace HI0 := am (hi); (try clear hb); (try clear hk); (try clear hi)))
        go_loopg [] k (fun kq w' => ∃ (x139000_1 : List (S90)) (u139000 : Value), Aside0 (spec_l2Bent.l1 kq s0_0 t142 x139000_1 = some (r1, r2)) ∧ Aside0 (kq ≤ k) ∧ Aside0 (Kd.R k90 90 w' w.heap.size (fun _ => True) u139000 x139000_1) ∧ Aside0 (w'.heap[gb133]? = some (.cells #[(.slice none 0 0)] 26 (0, 0))) ∧ Aside0 (w'.heap[gb138]? = some (.cells #[u139000] 26 (0, 0))) ∧ Aside0 (Aa2 w0 w' g s0_0 t142) ∧ Aside0 (Aa3 w w' g none) ∧ Aside0 (Below w0.heap.size w0 w'))
        case atStart => exact ⟨(t134), (.slice Ao133 t134.length co133), H', ⟨Nat.le_refl _⟩, ⟨rq HO136.out⟩, ⟨by refine bq ?_; exact BK133.out⟩, ⟨by refine bq ?_; exact BK138.out⟩, ⟨Aa2.q HI0.out⟩, ⟨ks HK.out⟩, ⟨hsk HB.out (Aa2.ge HI0.out)⟩⟩
        case round =>
         clear H'
         try clear c6; try clear c59; try clear c59b0; try clear c59b1; try clear c62b0; try clear c63b0; try clear p64; try clear q64; try clear c86; try clear c86b0; try clear c86b1; try clear c87; try clear c87b0; try clear c87b1; try clear c88; try clear c105; try clear c105b0; try clear c105b1; try clear c115; try clear c115b0; try clear c116b0; try clear c117b0; try clear p118; try clear q118; try clear hcz102_0; try clear hcz104_0; try clear hcz112_0; try clear hcz121_0; try clear hcz126_0; try clear hcz129_0; try clear hcz136_0; try clear hcz71_0; try clear hcz83_0; try clear hcz85_0; try clear hcz95_0; try clear hfz102_0; try clear hfz104_0; try clear hfz112_0; try clear hfz121_0; try clear hfz126_0; try clear hfz129_0; try clear hfz136_0; try clear hfz71_0; try clear hfz83_0; try clear hfz85_0; try clear hfz95_0; try clear hx118_0; try clear hx118_1; try clear hx122_1; try clear hx155_0; try clear hx155_1; try clear hx64_0; try clear hx64_1; try clear p118; try clear p155; try clear p64; try clear q118; try clear q155; try clear q64
         obtain ⟨x139000_1, u139000, HA, HK1, HO_139000, BK133, BK138, HI0, HK, HB⟩ := hrel
         cases gk with
         | zero => exact absurd HA.out (by simp [spec_l2Bent.l1])
         | succ k1 =>
          have H := HA.out
          clear HA
          simp only [spec_l2Bent.l1] at H
          by_cases c139 : (x139000_1.length : Int) < 7
          ·rw [if_pos c139] at H
           have c139b0 : decide ((x139000_1.length : Int) < 7) = true := decide_eq_true c139
           have c139b1 : decide (x139000_1.length < 7) = true := decide_eq_true (by omega)
           clear c139
           obtain ⟨c140, H⟩ := ifs H
           have LMc140 := am c140
           clear c140
           obtain ⟨y160, hy160⟩ : ∃ y_ : List (S90), y_ = (x139000_1 ++ [(⟨(⟨#[122]⟩ : ByteArray), 0⟩ : S90)]) := ⟨_, rfl⟩
           replace H : (spec_l2Bent.l1 k1 s0_0 t142 y160) = some (r1, r2) := by first | (rw [hy160]; with_reducible exact H) | (have H2_ := (Option.bind_some _ _).symm.trans H; rw [hy160]; with_reducible exact H2_) | (have H2_ := (Option.bind_some _ _).symm.trans H; with_reducible exact H2_) | with_reducible exact H | (rw [hy160]; exact H) | exact H
           have Ny160 := am hy160
           clear hy160
           have H' := am H
           clear H
           have hnb141 := NB138_133.out
           have hnc141 := NB133_138.out
           have hnb142 := NB138_0.out
           have hnc142 := NB0_138.out
           have hcz143_0 : wr.cell? ⟨gb138, 0, none⟩ = some (u139000) := (Aa0 BK138.out 0).trans rfl
           have hfz143_0 := Aa1 BK138.out 0
           obtain ⟨Ao144, co144, eo144⟩ := Kd.R_slice HO_139000.out
           subst eo144
           go_wp2_with (first | ((with_reducible refine Ae8 (b := .append) (xs := #[.tmp 22, .tmp 24]) rfl ?_); at_builtin; refine Kd.R_append k90 w.heap.size rfl (.tmp 22) (.tmp 24) 24 90 (.agg #[(.string ⟨#[]⟩), (.int .i64 0)]) 24 rfl Tryz.underlying24 info90 rfl (by decide) (by omega) (.slice Ao144 x139000_1.length co144) x139000_1 (⟨(⟨#[122]⟩ : ByteArray), 0⟩ : S90) [.string (⟨#[122]⟩ : ByteArray), .int .i64 0] (fun _ => True) (fun _ => False) rfl rfl ?aP (fun _ hk => hk.elim) ?aF ?aO (Below.refl _ _) ?aS ?aL ?_; (case aP => exact Af3 _ _ _ (⟨(⟨#[122]⟩ : ByteArray), 0⟩ : S90)); (case aF => exact (fun _ _ => trivial)); (case aO => exact (rq HO_139000.out)); (case aS => exact (Ab7 (w := w) (g := g) (row := none) (ks HK.out))); (case aL => have := LMc140.out; omega); intro v161 w145 ho hb hg hat; rw [← Ny160.out] at ho; replace BK133 := am (Ac9 (bq BK133.out) hg (Kd.R_ne HO_139000.out BK133.out (by decide))); replace BK138 := am (Ac9 (bq BK138.out) hg (Kd.R_ne HO_139000.out BK138.out (by decide))); replace HB := am (Ah7 (hsk HB.out (Aa2.ge HI0.out)) HL.out hb); replace HI0 := am (Aa2.grown (Aa2.q HI0.out) hg (Aa2.own_ne HI0.out HO_139000.out (by decide))); replace HK := am (Aa3.trans (ks HK.out) (Aa3.of_grown hg g) (Kd.R_base2 HO_139000.out)); have HO162 := am (ho); clear HO_139000; clear ho hb hg hat; obtain ⟨Ao146, co146, rfl⟩ := Kd.R_slice HO162.out; have hcz147_0 : w145.cell? ⟨gb138, 0, none⟩ = some (.slice Ao144 x139000_1.length co144) := (Aa0 BK138.out 0).trans rfl; have hfz147_0 := Aa1 BK138.out 0))
           go_roundg k1
           case measure => have := HK1.out; omega
           case rel => exact ⟨(y160), (.slice Ao146 y160.length co146), H', ⟨by have := HK1.out; omega⟩, ⟨rq (Kd.R_mono (Kd.R_far (p := ⟨gb138, 0, none⟩) (Kd.R_types HO162.out BK138.out (by decide)) (fun _ hk => hk.2) (.slice Ao146 y160.length co146)) (fun _ hk => trivial))⟩, ⟨by refine bq ?_; refine Aa4 ?_ NB133_138.out _; refine bq ?_; exact BK133.out⟩, ⟨by refine bq ?_; refine Aa6 (cs := #[.slice Ao144 x139000_1.length co144]) ?_ 0 _ rfl; refine bq ?_; exact BK138.out⟩, ⟨Aa2.q HI0.out⟩, ⟨ks HK.out⟩, ⟨hsk HB.out (Aa2.ge HI0.out)⟩⟩
          ·rw [if_neg c139] at H
           have c139b0 : decide ((x139000_1.length : Int) < 7) = false := decide_eq_false c139
           have c139b1 : decide (x139000_1.length < 7) = false := decide_eq_false (by omega)
           clear c139
           simp only [Option.some.injEq, Prod.mk.injEq] at H
           obtain ⟨rfl, rfl⟩ := H
           have hnb148 := NB138_133.out
           have hnc148 := NB133_138.out
           have hnb149 := NB138_0.out
           have hnc149 := NB0_138.out
           have hcz150_0 : wr.cell? ⟨gb138, 0, none⟩ = some (u139000) := (Aa0 BK138.out 0).trans rfl
           have hfz150_0 := Aa1 BK138.out 0
           obtain ⟨Ao151, co151, eo151⟩ := Kd.R_slice HO_139000.out
           subst eo151
           have hnb152 := NB133_0.out
           have hnc152 := NB0_133.out
           have hcz153_0 : wr.cell? ⟨gb133, 0, none⟩ = some (.slice none 0 0) := (Aa0 BK133.out 0).trans rfl
           have hfz153_0 := Aa1 BK133.out 0
           go_wp2
           refine bodyPost_ret (results_cell_row rfl _ _ gb133 26 #[.slice Ao151 x139000_1.length co151] (0, 0) _ rfl (by refine bq ?_; refine Aa6 (cs := #[.slice none 0 0]) ?_ 0 _ rfl; refine bq ?_; exact BK133.out) Tryz.underlying26 rfl (by kernel_rfl)) rfl ?_
           exact ⟨_, er, rq (Kd.R_mono (Kd.R_far (p := ⟨gb133, 0, none⟩) (Kd.R_types HO_139000.out BK133.out (by decide)) (fun _ hk => hk.2) (.slice Ao151 x139000_1.length co151)) (fun _ hk => trivial)), Aa2.q HI0.out, hsk HB.out (Aa2.ge HI0.out), ks HK.out⟩
 ·replace c4 := Bool.eq_false_iff.mpr c4
  subst c4
  rw [if_neg (show ¬ (false = true) by decide)] at H
  simp only [Option.some.injEq, Prod.mk.injEq] at H
  obtain ⟨rfl, rfl⟩ := H
  go_enter Tryz.func24, Tryz.ntmps24
  go_wp2_with (first | (refine bx 2 rfl #[.slice none 0 0] 26 ?_; intro gb133 hg w154 hbox hb; replace HB := am (Ab8 (hsk HB.out (Aa2.ge HI0.out)) hb); have BK133 := am (hbox); have GW133 := am ((by rw [hg]; exact (Ab7 (w := w) (g := g) (row := none) (kq HK.out)) : w.heap.size ≤ gb133)); replace HK := am (Aa3.trans (kq HK.out) (Aa3.of_below hb g none) (.inl rfl)); have GE133 := am (Nat.le_trans HW0.out GW133.out); have NB0_133 := am ((by rw [hg]; exact Nat.ne_of_lt (Aa2.lt (show Aa2 w0 _ g s0_0 s0_1 from Aa2.q HI0.out)) : g ≠ gb133)); replace HI0 := Aa2.bl HI0 hb; have NB133_0 := am NB0_133.out.symm; clear hb hbox hg) | (refine gl (some 7) Tryz.func54 rfl #[.pointer (some ⟨g, 0, none⟩)] ?_; refine (spec_l2Sig.calls k g s0_0 s0_1 t134 t137 w0 _ (Aa2.q HI0.out) (hsk HB.out (Aa2.ge HI0.out)) A2.out).mono ?_; rintro e w155 ⟨v135, rfl, ho0, hi, hb, hk⟩; refine ⟨_, rfl, ?_⟩; replace BK133 := kb hk BK133 NB133_0; have HO136 := am (Kd.R_lower ho0 (Ab7 (w := w) (g := g) (row := none) (ks HK.out))); replace HK := am (Aa3.trans (ks HK.out) hk (.inl rfl)); replace HB := am (hb); replace HI0 := am (hi); (try clear hb); (try clear hk); (try clear hi); (try clear ho0)) | (refine bx 3 rfl #[.slice none 0 0] 26 ?_; intro gb138 hg w156 hbox hb; replace HO136 := rb HO136 hb; replace HB := am (Ab8 (hsk HB.out (Aa2.ge HI0.out)) hb); have BK138 := am (hbox); have GW138 := am ((by rw [hg]; exact (Ab7 (w := w) (g := g) (row := none) (ks HK.out)) : w.heap.size ≤ gb138)); replace HK := am (Aa3.trans (ks HK.out) (Aa3.of_below hb g none) (.inl rfl)); have GE138 := am (Nat.le_trans HW0.out GW138.out); have NB133_138 := nl hg BK133; have NB138_133 := ng hg BK133; replace BK133 := bb BK133 hb; have NB0_138 := am ((by rw [hg]; exact Nat.ne_of_lt (Aa2.lt (show Aa2 w0 _ g s0_0 t137 from Aa2.q HI0.out)) : g ≠ gb138)); replace HI0 := Aa2.bl HI0 hb; have NB138_0 := am NB0_138.out.symm; clear hb hbox hg; obtain ⟨Ao157, co157, rfl⟩ := Kd.R_slice HO136.out; have hnb158 := NB138_133.out; have hnc158 := NB133_138.out; have hnb159 := NB138_0.out; have hnc159 := NB0_138.out; have hcz160_0 : w156.cell? ⟨gb138, 0, none⟩ = some (.slice none 0 0) := (Aa0 BK138.out 0).trans rfl; have hfz160_0 := Aa1 BK138.out 0) | (refine gl (some 12) Tryz.func55 rfl #[.pointer (some ⟨g, 0, none⟩), .int .i64 9] ?_; refine (spec_l1Chance.calls g s0_0 t137 9 false t140 w0 _ (Aa2.q HI0.out) (hsk HB.out (Aa2.ge HI0.out)) A3.out).mono ?_; rintro e w161 ⟨rfl, hi, hb, hk⟩; refine ⟨_, rfl, ?_⟩; replace BK133 := am (Aa3.blk hk (g' := gb133) (o := .cells #[.slice none 0 0] 26 (0, 0)) (by refine bq ?_; refine Aa4 ?_ NB133_138.out _; refine bq ?_; exact BK133.out) NB133_0.out (by simp)); replace HO136 := am (Kd.R_mono (Kd.R_keep (Aa2.apart (show Aa2 w0 _ g s0_0 t137 from Aa2.q HI0.out) (rq ((Kd.R_mono (Kd.R_far (p := ⟨gb138, 0, none⟩) (Kd.R_types HO136.out BK138.out (by decide)) (fun _ hk => hk.2) (.slice Ao157 t134.length co157)) (fun _ h_ => h_.1)))) (by decide)) hk (fun _ h => h.2)) (fun _ h => h.1)); replace BK138 := am (Aa3.blk hk (g' := gb138) (o := .cells #[.slice Ao157 t134.length co157] 26 (0, 0)) (by refine bq ?_; refine Aa6 (cs := #[.slice none 0 0]) ?_ 0 _ rfl; refine bq ?_; exact BK138.out) NB138_0.out (by simp)); replace HK := am (Aa3.trans (ks HK.out) hk (.inl rfl)); replace HB := am (hb); replace HI0 := am (hi); (try clear hb); (try clear hk); (try clear hi); have hcz162_0 : w161.cell? ⟨gb138, 0, none⟩ = some (.slice Ao157 t134.length co157) := (Aa0 BK138.out 0).trans rfl; have hfz162_0 := Aa1 BK138.out 0; have hnb163 := NB133_0.out; have hnc163 := NB0_133.out; have hcz164_0 : w161.cell? ⟨gb133, 0, none⟩ = some (.slice none 0 0) := (Aa0 BK133.out 0).trans rfl; have hfz164_0 := Aa1 BK133.out 0))
  refine bodyPost_ret (results_cell_row rfl _ _ gb133 26 #[.slice Ao157 t134.length co157] (0, 0) _ rfl (by refine bq ?_; refine Aa6 (cs := #[.slice none 0 0]) ?_ 0 _ rfl; refine bq ?_; exact BK133.out) Tryz.underlying26 rfl (by kernel_rfl)) rfl ?_
  exact ⟨_, er, rq (Kd.R_mono (Kd.R_far (p := ⟨gb133, 0, none⟩) (Kd.R_types HO136.out BK133.out (by decide)) (fun _ hk => hk.2) (.slice Ao157 t134.length co157)) (fun _ hk => trivial)), Aa2.q HI0.out, hsk HB.out (Aa2.ge HI0.out), ks HK.out⟩
end Go.Proofs.YtbdpnkpienpnaaaGreatDoor.P
