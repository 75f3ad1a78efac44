/- A part of the proof of the law FnPlain. -/
import Derived.Laws.StructEq
import Derived.Test.YtbdpnkpienpnaaaGreatDoorCFnPlain0
import Derived.Test.YtbdpnkpienpnaaaGreatDoorCFnPlain1
import Derived.Test.YtbdpnkpienpnaaaGreatDoorCFnPlain2
import Derived.Test.YtbdpnkpienpnaaaGreatDoorCFnPlain20
namespace Go.Proofs.YtbdpnkpienpnaaaGreatDoor.P
open Go.RowKit Go.Proofs.YtbdpnkpienpnaaaGreatDoorW.PrintWords Go.Proofs.YtbdpnkpienpnaaaGreatDoorW.PrintLast Go.Proofs.YtbdpnkpienpnaaaGreatDoorW.PrintMore
attribute [local go_sem] Ae7 Ae6 Af7 Af8 Ad8 Ad9 Ae2 Ae4   -- for this text's walks alone
set_option linter.unusedVariables false
set_option linter.unusedSimpArgs false
mutual
def spec_l2Sig.j0 : Nat → Int → Bool → List Int → Int → ByteArray → Int → ByteArray → Int → ByteArray → Int → ByteArray → Int → ByteArray → Int → ByteArray → Int → Option ((List (S90)) × Int)
 | 0, _, _, _, _, _, _, _, _, _, _, _, _, _, _, _, _ => none
 | k + 1, x16, x17, x1000, x1001, x109000, x109001, x110000, x110001, x111000, x111001, x112000, x112001, x113000, x113001, x114000, x114001 => if x17 = true then (some ((([(⟨x109000, x109001⟩ : S90), (⟨x110000, x110001⟩ : S90), (⟨x111000, x111001⟩ : S90), (⟨x113000, x113001⟩ : S90)] : List (S90))), x1001)) else (if x16 = 3 then (spec_l2Sig.j1 k x16 (x16 == 3) x1000 x1001 x109000 x109001 x110000 x110001 x111000 x111001 x112000 x112001 x113000 x113001 x114000 x114001) else (spec_l2Sig.j1 k x16 (x16 == 4) x1000 x1001 x109000 x109001 x110000 x110001 x111000 x111001 x112000 x112001 x113000 x113001 x114000 x114001))
def spec_l2Sig.j1 : Nat → Int → Bool → List Int → Int → ByteArray → Int → ByteArray → Int → ByteArray → Int → ByteArray → Int → ByteArray → Int → ByteArray → Int → Option ((List (S90)) × Int)
 | 0, _, _, _, _, _, _, _, _, _, _, _, _, _, _, _, _ => none
 | k + 1, x16, x27, x1000, x1001, x109000, x109001, x110000, x110001, x111000, x111001, x112000, x112001, x113000, x113001, x114000, x114001 => if x27 = true then (some ((([(⟨x113000, x113001⟩ : S90), (⟨x112000, x112001⟩ : S90), (⟨(⟨#[97, 100, 100]⟩ : ByteArray), 2⟩ : S90), (⟨x114000, x114001⟩ : S90)] : List (S90))), x1001)) else (if x16 = 5 then (some ((([(⟨x113000, x113001⟩ : S90), (⟨(⟨#[102]⟩ : ByteArray), 1⟩ : S90), (⟨(⟨#[103]⟩ : ByteArray), 1⟩ : S90)] : List (S90))), x1001)) else (if x16 = 6 then (some ((([(⟨x113000, x113001⟩ : S90), (⟨x114000, x114001⟩ : S90), (⟨x109000, x109001⟩ : S90), (⟨x111000, x111001⟩ : S90), (⟨x110000, x110001⟩ : S90), (⟨x112000, x112001⟩ : S90)] : List (S90))), x1001)) else (some ((([(⟨x113000, x113001⟩ : S90)] : List (S90))), x1001))))
end
def spec_l2Sig.f (k : Nat) (s0_0 : List Int) (s0_1 : Int) : Option ((List (S90)) × Int) := (spec_l1Next.f s0_0 s0_1 8).bind fun bt114 => (if bt114.1 = 0 then (spec_l2Sig.j0 k bt114.1 (bt114.1 == 0) s0_0 bt114.2 (⟨#[101]⟩ : ByteArray) 0 (⟨#[105]⟩ : ByteArray) 1 (⟨#[109]⟩ : ByteArray) 2 (⟨#[115, 117, 99]⟩ : ByteArray) 1 (⟨#[97]⟩ : ByteArray) 0 (⟨#[98]⟩ : ByteArray) 0) else (if bt114.1 = 1 then (spec_l2Sig.j0 k bt114.1 (bt114.1 == 1) s0_0 bt114.2 (⟨#[101]⟩ : ByteArray) 0 (⟨#[105]⟩ : ByteArray) 1 (⟨#[109]⟩ : ByteArray) 2 (⟨#[115, 117, 99]⟩ : ByteArray) 1 (⟨#[97]⟩ : ByteArray) 0 (⟨#[98]⟩ : ByteArray) 0) else (spec_l2Sig.j0 k bt114.1 (bt114.1 == 2) s0_0 bt114.2 (⟨#[101]⟩ : ByteArray) 0 (⟨#[105]⟩ : ByteArray) 1 (⟨#[109]⟩ : ByteArray) 2 (⟨#[115, 117, 99]⟩ : ByteArray) 1 (⟨#[97]⟩ : ByteArray) 0 (⟨#[98]⟩ : ByteArray) 0)))
set_option maxHeartbeats 8000000 in
set_option maxRecDepth 100000 in
theorem spec_l2Sig.calls (k : Nat) (g : Nat) (s0_0 : List Int) (s0_1 : Int) (r1 : List (S90)) (r2 : Int) (w0 w : World) (hI : Aa2 w0 w g s0_0 s0_1) (hB : Below w0.heap.size w0 w) (h : spec_l2Sig.f k s0_0 s0_1 = some (r1, r2)) :
  Calls Tryz.prog 54 #[.pointer (some ⟨g, 0, none⟩)] w fun e w' => ∃ v0_ : Value, e = .returned (.agg #[v0_]) ∧ Kd.R k90 90 w' w.heap.size (fun _ => True) v0_ r1 ∧ Aa2 w0 w' g s0_0 r2 ∧ Below w0.heap.size w0 w' ∧ Aa3 w w' g none := by
 have hu26 := Tryz.underlying26
 have hu90 := Tryz.underlying90
 have HI0 := am hI
 have HK := am (Aa3.refl w g none)
 have HL := am hB.size
 clear hI
 have HW0 := am hB.size
 have HB := am hB
 clear hB
 have H : ((spec_l1Next.f s0_0 s0_1 8).bind fun bt114 => (if bt114.1 = 0 then (spec_l2Sig.j0 k bt114.1 (bt114.1 == 0) s0_0 bt114.2 (⟨#[101]⟩ : ByteArray) 0 (⟨#[105]⟩ : ByteArray) 1 (⟨#[109]⟩ : ByteArray) 2 (⟨#[115, 117, 99]⟩ : ByteArray) 1 (⟨#[97]⟩ : ByteArray) 0 (⟨#[98]⟩ : ByteArray) 0) else (if bt114.1 = 1 then (spec_l2Sig.j0 k bt114.1 (bt114.1 == 1) s0_0 bt114.2 (⟨#[101]⟩ : ByteArray) 0 (⟨#[105]⟩ : ByteArray) 1 (⟨#[109]⟩ : ByteArray) 2 (⟨#[115, 117, 99]⟩ : ByteArray) 1 (⟨#[97]⟩ : ByteArray) 0 (⟨#[98]⟩ : ByteArray) 0) else (spec_l2Sig.j0 k bt114.1 (bt114.1 == 2) s0_0 bt114.2 (⟨#[101]⟩ : ByteArray) 0 (⟨#[105]⟩ : ByteArray) 1 (⟨#[109]⟩ : ByteArray) 2 (⟨#[115, 117, 99]⟩ : ByteArray) 1 (⟨#[97]⟩ : ByteArray) 0 (⟨#[98]⟩ : ByteArray) 0)))) = some (r1, r2) := h
 clear h
 obtain ⟨⟨t114, t115⟩, A2, H⟩ := ob H
 try dsimp only at H
 have HC3 := am H
 clear H
 go_enter Tryz.func54, Tryz.ntmps54
 go_upto_if 17 with (first | (refine bx 2 rfl #[.slice none 0 0] 26 ?_; intro gb107 hg w4 hbox hb; replace HB := am (Ab8 (hsk HB.out (Aa2.ge HI0.out)) hb); have BK107 := am (hbox); have GW107 := am ((by rw [hg]; exact (Ab7 (w := w) (g := g) (row := none) (kq HK.out)) : w.heap.size ≤ gb107)); replace HK := am (Aa3.trans (kq HK.out) (Aa3.of_below hb g none) (.inl rfl)); have GE107 := am (Nat.le_trans HW0.out GW107.out); have NB0_107 := am ((by rw [hg]; exact Nat.ne_of_lt (Aa2.lt (show Aa2 w0 _ g s0_0 s0_1 from Aa2.q HI0.out)) : g ≠ gb107)); replace HI0 := Aa2.bl HI0 hb; have NB107_0 := am NB0_107.out.symm; clear hb hbox hg) | (refine bx 3 rfl #[.string (⟨#[]⟩ : ByteArray), .int .i64 0] 90 ?_; intro gb108 hg w5 hbox hb; replace HB := am (Ab8 (hsk HB.out (Aa2.ge HI0.out)) hb); have BK108 := am (hbox); have GW108 := am ((by rw [hg]; exact (Ab7 (w := w) (g := g) (row := none) (ks HK.out)) : w.heap.size ≤ gb108)); replace HK := am (Aa3.trans (ks HK.out) (Aa3.of_below hb g none) (.inl rfl)); have GE108 := am (Nat.le_trans HW0.out GW108.out); have NB107_108 := nl hg BK107; have NB108_107 := ng hg BK107; replace BK107 := bb BK107 hb; have NB0_108 := am ((by rw [hg]; exact Nat.ne_of_lt (Aa2.lt (show Aa2 w0 _ g s0_0 s0_1 from Aa2.q HI0.out)) : g ≠ gb108)); replace HI0 := Aa2.bl HI0 hb; have NB108_0 := am NB0_108.out.symm; clear hb hbox hg; have hnb6 := NB108_107.out; have hnc6 := NB107_108.out; have hnb7 := NB108_0.out; have hnc7 := NB0_108.out; have hcz8_0 : w5.cell? ⟨gb108, 0, none⟩ = some (.string (⟨#[]⟩ : ByteArray)) := (Aa0 BK108.out 0).trans rfl; have hcz8_1 : w5.cell? ⟨gb108, 1, none⟩ = some (.int .i64 0) := (Aa0 BK108.out 1).trans rfl; have hfz8_0 := Aa1 BK108.out 0; have hfz8_1 := Aa1 BK108.out 1) | (refine bx 4 rfl #[.string (⟨#[]⟩ : ByteArray), .int .i64 0] 90 ?_; intro gb109 hg w9 hbox hb; replace HB := am (Ab8 (hsk HB.out (Aa2.ge HI0.out)) hb); have BK109 := am (hbox); have GW109 := am ((by rw [hg]; exact (Ab7 (w := w) (g := g) (row := none) (ks HK.out)) : w.heap.size ≤ gb109)); replace HK := am (Aa3.trans (ks HK.out) (Aa3.of_below hb g none) (.inl rfl)); have GE109 := am (Nat.le_trans HW0.out GW109.out); have NB107_109 := am ((by rw [hg]; exact Nat.ne_of_lt (Ad1 (g := gb107) (o := .cells #[.slice none 0 0] 26 (0, 0)) (by refine bq ?_; refine Aa4 ?_ NB107_108.out _; refine bq ?_; refine Aa4 ?_ NB107_108.out _; refine bq ?_; exact BK107.out)) : gb107 ≠ gb109)); have NB109_107 := am ((by rw [hg]; exact Nat.ne_of_gt (Ad1 (g := gb107) (o := .cells #[.slice none 0 0] 26 (0, 0)) (by refine bq ?_; refine Aa4 ?_ NB107_108.out _; refine bq ?_; refine Aa4 ?_ NB107_108.out _; refine bq ?_; exact BK107.out)) : gb109 ≠ gb107)); replace BK107 := am (Ab5 (g := gb107) (o := .cells #[.slice none 0 0] 26 (0, 0)) (by refine bq ?_; refine Aa4 ?_ NB107_108.out _; refine bq ?_; refine Aa4 ?_ NB107_108.out _; refine bq ?_; exact BK107.out) hb); have NB108_109 := am ((by rw [hg]; exact Nat.ne_of_lt (Ad1 (g := gb108) (o := .cells #[.string (⟨#[101]⟩ : ByteArray), .int .i64 0] 90 (0, 0)) (by refine bq ?_; refine Aa6 (cs := #[.string (⟨#[101]⟩ : ByteArray), .int .i64 0]) ?_ 1 _ rfl; refine bq ?_; refine Aa6 (cs := #[.string (⟨#[]⟩ : ByteArray), .int .i64 0]) ?_ 0 _ rfl; refine bq ?_; exact BK108.out)) : gb108 ≠ gb109)); have NB109_108 := am ((by rw [hg]; exact Nat.ne_of_gt (Ad1 (g := gb108) (o := .cells #[.string (⟨#[101]⟩ : ByteArray), .int .i64 0] 90 (0, 0)) (by refine bq ?_; refine Aa6 (cs := #[.string (⟨#[101]⟩ : ByteArray), .int .i64 0]) ?_ 1 _ rfl; refine bq ?_; refine Aa6 (cs := #[.string (⟨#[]⟩ : ByteArray), .int .i64 0]) ?_ 0 _ rfl; refine bq ?_; exact BK108.out)) : gb109 ≠ gb108)); replace BK108 := am (Ab5 (g := gb108) (o := .cells #[.string (⟨#[101]⟩ : ByteArray), .int .i64 0] 90 (0, 0)) (by refine bq ?_; refine Aa6 (cs := #[.string (⟨#[101]⟩ : ByteArray), .int .i64 0]) ?_ 1 _ rfl; refine bq ?_; refine Aa6 (cs := #[.string (⟨#[]⟩ : ByteArray), .int .i64 0]) ?_ 0 _ rfl; refine bq ?_; exact BK108.out) hb); have NB0_109 := am ((by rw [hg]; exact Nat.ne_of_lt (Aa2.lt (show Aa2 w0 _ g s0_0 s0_1 from Aa2.q HI0.out)) : g ≠ gb109)); replace HI0 := am (Aa2.below (show Aa2 w0 ((w5.setCell ⟨gb108, 0, none⟩ (.string (⟨#[101]⟩ : ByteArray))).setCell ⟨gb108, 1, none⟩ (.int .i64 0)) g s0_0 s0_1 from Aa2.q HI0.out) hb); have NB109_0 := am NB0_109.out.symm; clear hb hbox hg; have hnb10 := NB109_107.out; have hnc10 := NB107_109.out; have hnb11 := NB109_108.out; have hnc11 := NB108_109.out; have hnb12 := NB109_0.out; have hnc12 := NB0_109.out; have hcz13_0 : w9.cell? ⟨gb109, 0, none⟩ = some (.string (⟨#[]⟩ : ByteArray)) := (Aa0 BK109.out 0).trans rfl; have hcz13_1 : w9.cell? ⟨gb109, 1, none⟩ = some (.int .i64 0) := (Aa0 BK109.out 1).trans rfl; have hfz13_0 := Aa1 BK109.out 0; have hfz13_1 := Aa1 BK109.out 1) | (refine bx 5 rfl #[.string (⟨#[]⟩ : ByteArray), .int .i64 0] 90 ?_; intro gb110 hg w14 hbox hb; replace HB := am (Ab8 (hsk HB.out (Aa2.ge HI0.out)) hb); have BK110 := am (hbox); have GW110 := am ((by rw [hg]; exact (Ab7 (w := w) (g := g) (row := none) (ks HK.out)) : w.heap.size ≤ gb110)); replace HK := am (Aa3.trans (ks HK.out) (Aa3.of_below hb g none) (.inl rfl)); have GE110 := am (Nat.le_trans HW0.out GW110.out); have NB107_110 := am ((by rw [hg]; exact Nat.ne_of_lt (Ad1 (g := gb107) (o := .cells #[.slice none 0 0] 26 (0, 0)) (by refine bq ?_; refine Aa4 ?_ NB107_109.out _; refine bq ?_; refine Aa4 ?_ NB107_109.out _; refine bq ?_; exact BK107.out)) : gb107 ≠ gb110)); have NB110_107 := am ((by rw [hg]; exact Nat.ne_of_gt (Ad1 (g := gb107) (o := .cells #[.slice none 0 0] 26 (0, 0)) (by refine bq ?_; refine Aa4 ?_ NB107_109.out _; refine bq ?_; refine Aa4 ?_ NB107_109.out _; refine bq ?_; exact BK107.out)) : gb110 ≠ gb107)); replace BK107 := am (Ab5 (g := gb107) (o := .cells #[.slice none 0 0] 26 (0, 0)) (by refine bq ?_; refine Aa4 ?_ NB107_109.out _; refine bq ?_; refine Aa4 ?_ NB107_109.out _; refine bq ?_; exact BK107.out) hb); have NB108_110 := am ((by rw [hg]; exact Nat.ne_of_lt (Ad1 (g := gb108) (o := .cells #[.string (⟨#[101]⟩ : ByteArray), .int .i64 0] 90 (0, 0)) (by refine bq ?_; refine Aa4 ?_ NB108_109.out _; refine bq ?_; refine Aa4 ?_ NB108_109.out _; refine bq ?_; exact BK108.out)) : gb108 ≠ gb110)); have NB110_108 := am ((by rw [hg]; exact Nat.ne_of_gt (Ad1 (g := gb108) (o := .cells #[.string (⟨#[101]⟩ : ByteArray), .int .i64 0] 90 (0, 0)) (by refine bq ?_; refine Aa4 ?_ NB108_109.out _; refine bq ?_; refine Aa4 ?_ NB108_109.out _; refine bq ?_; exact BK108.out)) : gb110 ≠ gb108)); replace BK108 := am (Ab5 (g := gb108) (o := .cells #[.string (⟨#[101]⟩ : ByteArray), .int .i64 0] 90 (0, 0)) (by refine bq ?_; refine Aa4 ?_ NB108_109.out _; refine bq ?_; refine Aa4 ?_ NB108_109.out _; refine bq ?_; exact BK108.out) hb); have NB109_110 := am ((by rw [hg]; exact Nat.ne_of_lt (Ad1 (g := gb109) (o := .cells #[.string (⟨#[105]⟩ : ByteArray), .int .i64 1] 90 (0, 0)) (by refine bq ?_; refine Aa6 (cs := #[.string (⟨#[105]⟩ : ByteArray), .int .i64 0]) ?_ 1 _ rfl; refine bq ?_; refine Aa6 (cs := #[.string (⟨#[]⟩ : ByteArray), .int .i64 0]) ?_ 0 _ rfl; refine bq ?_; exact BK109.out)) : gb109 ≠ gb110)); have NB110_109 := am ((by rw [hg]; exact Nat.ne_of_gt (Ad1 (g := gb109) (o := .cells #[.string (⟨#[105]⟩ : ByteArray), .int .i64 1] 90 (0, 0)) (by refine bq ?_; refine Aa6 (cs := #[.string (⟨#[105]⟩ : ByteArray), .int .i64 0]) ?_ 1 _ rfl; refine bq ?_; refine Aa6 (cs := #[.string (⟨#[]⟩ : ByteArray), .int .i64 0]) ?_ 0 _ rfl; refine bq ?_; exact BK109.out)) : gb110 ≠ gb109)); replace BK109 := am (Ab5 (g := gb109) (o := .cells #[.string (⟨#[105]⟩ : ByteArray), .int .i64 1] 90 (0, 0)) (by refine bq ?_; refine Aa6 (cs := #[.string (⟨#[105]⟩ : ByteArray), .int .i64 0]) ?_ 1 _ rfl; refine bq ?_; refine Aa6 (cs := #[.string (⟨#[]⟩ : ByteArray), .int .i64 0]) ?_ 0 _ rfl; refine bq ?_; exact BK109.out) hb); have NB0_110 := am ((by rw [hg]; exact Nat.ne_of_lt (Aa2.lt (show Aa2 w0 _ g s0_0 s0_1 from Aa2.q HI0.out)) : g ≠ gb110)); replace HI0 := am (Aa2.below (show Aa2 w0 ((w9.setCell ⟨gb109, 0, none⟩ (.string (⟨#[105]⟩ : ByteArray))).setCell ⟨gb109, 1, none⟩ (.int .i64 1)) g s0_0 s0_1 from Aa2.q HI0.out) hb); have NB110_0 := am NB0_110.out.symm; clear hb hbox hg; have hnb15 := NB110_107.out; have hnc15 := NB107_110.out; have hnb16 := NB110_108.out; have hnc16 := NB108_110.out; have hnb17 := NB110_109.out; have hnc17 := NB109_110.out; have hnb18 := NB110_0.out; have hnc18 := NB0_110.out; have hcz19_0 : w14.cell? ⟨gb110, 0, none⟩ = some (.string (⟨#[]⟩ : ByteArray)) := (Aa0 BK110.out 0).trans rfl; have hcz19_1 : w14.cell? ⟨gb110, 1, none⟩ = some (.int .i64 0) := (Aa0 BK110.out 1).trans rfl; have hfz19_0 := Aa1 BK110.out 0; have hfz19_1 := Aa1 BK110.out 1) | (refine bx 6 rfl #[.string (⟨#[]⟩ : ByteArray), .int .i64 0] 90 ?_; intro gb111 hg w20 hbox hb; replace HB := am (Ab8 (hsk HB.out (Aa2.ge HI0.out)) hb); have BK111 := am (hbox); have GW111 := am ((by rw [hg]; exact (Ab7 (w := w) (g := g) (row := none) (ks HK.out)) : w.heap.size ≤ gb111)); replace HK := am (Aa3.trans (ks HK.out) (Aa3.of_below hb g none) (.inl rfl)); have GE111 := am (Nat.le_trans HW0.out GW111.out); have NB107_111 := am ((by rw [hg]; exact Nat.ne_of_lt (Ad1 (g := gb107) (o := .cells #[.slice none 0 0] 26 (0, 0)) (by refine bq ?_; refine Aa4 ?_ NB107_110.out _; refine bq ?_; refine Aa4 ?_ NB107_110.out _; refine bq ?_; exact BK107.out)) : gb107 ≠ gb111)); have NB111_107 := am ((by rw [hg]; exact Nat.ne_of_gt (Ad1 (g := gb107) (o := .cells #[.slice none 0 0] 26 (0, 0)) (by refine bq ?_; refine Aa4 ?_ NB107_110.out _; refine bq ?_; refine Aa4 ?_ NB107_110.out _; refine bq ?_; exact BK107.out)) : gb111 ≠ gb107)); replace BK107 := am (Ab5 (g := gb107) (o := .cells #[.slice none 0 0] 26 (0, 0)) (by refine bq ?_; refine Aa4 ?_ NB107_110.out _; refine bq ?_; refine Aa4 ?_ NB107_110.out _; refine bq ?_; exact BK107.out) hb); have NB108_111 := am ((by rw [hg]; exact Nat.ne_of_lt (Ad1 (g := gb108) (o := .cells #[.string (⟨#[101]⟩ : ByteArray), .int .i64 0] 90 (0, 0)) (by refine bq ?_; refine Aa4 ?_ NB108_110.out _; refine bq ?_; refine Aa4 ?_ NB108_110.out _; refine bq ?_; exact BK108.out)) : gb108 ≠ gb111)); have NB111_108 := am ((by rw [hg]; exact Nat.ne_of_gt (Ad1 (g := gb108) (o := .cells #[.string (⟨#[101]⟩ : ByteArray), .int .i64 0] 90 (0, 0)) (by refine bq ?_; refine Aa4 ?_ NB108_110.out _; refine bq ?_; refine Aa4 ?_ NB108_110.out _; refine bq ?_; exact BK108.out)) : gb111 ≠ gb108)); replace BK108 := am (Ab5 (g := gb108) (o := .cells #[.string (⟨#[101]⟩ : ByteArray), .int .i64 0] 90 (0, 0)) (by refine bq ?_; refine Aa4 ?_ NB108_110.out _; refine bq ?_; refine Aa4 ?_ NB108_110.out _; refine bq ?_; exact BK108.out) hb); have NB109_111 := am ((by rw [hg]; exact Nat.ne_of_lt (Ad1 (g := gb109) (o := .cells #[.string (⟨#[105]⟩ : ByteArray), .int .i64 1] 90 (0, 0)) (by refine bq ?_; refine Aa4 ?_ NB109_110.out _; refine bq ?_; refine Aa4 ?_ NB109_110.out _; refine bq ?_; exact BK109.out)) : gb109 ≠ gb111)); have NB111_109 := am ((by rw [hg]; exact Nat.ne_of_gt (Ad1 (g := gb109) (o := .cells #[.string (⟨#[105]⟩ : ByteArray), .int .i64 1] 90 (0, 0)) (by refine bq ?_; refine Aa4 ?_ NB109_110.out _; refine bq ?_; refine Aa4 ?_ NB109_110.out _; refine bq ?_; exact BK109.out)) : gb111 ≠ gb109)); replace BK109 := am (Ab5 (g := gb109) (o := .cells #[.string (⟨#[105]⟩ : ByteArray), .int .i64 1] 90 (0, 0)) (by refine bq ?_; refine Aa4 ?_ NB109_110.out _; refine bq ?_; refine Aa4 ?_ NB109_110.out _; refine bq ?_; exact BK109.out) hb); have NB110_111 := am ((by rw [hg]; exact Nat.ne_of_lt (Ad1 (g := gb110) (o := .cells #[.string (⟨#[109]⟩ : ByteArray), .int .i64 2] 90 (0, 0)) (by refine bq ?_; refine Aa6 (cs := #[.string (⟨#[109]⟩ : ByteArray), .int .i64 0]) ?_ 1 _ rfl; refine bq ?_; refine Aa6 (cs := #[.string (⟨#[]⟩ : ByteArray), .int .i64 0]) ?_ 0 _ rfl; refine bq ?_; exact BK110.out)) : gb110 ≠ gb111)); have NB111_110 := am ((by rw [hg]; exact Nat.ne_of_gt (Ad1 (g := gb110) (o := .cells #[.string (⟨#[109]⟩ : ByteArray), .int .i64 2] 90 (0, 0)) (by refine bq ?_; refine Aa6 (cs := #[.string (⟨#[109]⟩ : ByteArray), .int .i64 0]) ?_ 1 _ rfl; refine bq ?_; refine Aa6 (cs := #[.string (⟨#[]⟩ : ByteArray), .int .i64 0]) ?_ 0 _ rfl; refine bq ?_; exact BK110.out)) : gb111 ≠ gb110)); replace BK110 := am (Ab5 (g := gb110) (o := .cells #[.string (⟨#[109]⟩ : ByteArray), .int .i64 2] 90 (0, 0)) (by refine bq ?_; refine Aa6 (cs := #[.string (⟨#[109]⟩ : ByteArray), .int .i64 0]) ?_ 1 _ rfl; refine bq ?_; refine Aa6 (cs := #[.string (⟨#[]⟩ : ByteArray), .int .i64 0]) ?_ 0 _ rfl; refine bq ?_; exact BK110.out) hb); have NB0_111 := am ((by rw [hg]; exact Nat.ne_of_lt (Aa2.lt (show Aa2 w0 _ g s0_0 s0_1 from Aa2.q HI0.out)) : g ≠ gb111)); replace HI0 := am (Aa2.below (show Aa2 w0 ((w14.setCell ⟨gb110, 0, none⟩ (.string (⟨#[109]⟩ : ByteArray))).setCell ⟨gb110, 1, none⟩ (.int .i64 2)) g s0_0 s0_1 from Aa2.q HI0.out) hb); have NB111_0 := am NB0_111.out.symm; clear hb hbox hg; have hnb21 := NB111_107.out; have hnc21 := NB107_111.out; have hnb22 := NB111_108.out; have hnc22 := NB108_111.out; have hnb23 := NB111_109.out; have hnc23 := NB109_111.out; have hnb24 := NB111_110.out; have hnc24 := NB110_111.out; have hnb25 := NB111_0.out; have hnc25 := NB0_111.out; have hcz26_0 : w20.cell? ⟨gb111, 0, none⟩ = some (.string (⟨#[]⟩ : ByteArray)) := (Aa0 BK111.out 0).trans rfl; have hcz26_1 : w20.cell? ⟨gb111, 1, none⟩ = some (.int .i64 0) := (Aa0 BK111.out 1).trans rfl; have hfz26_0 := Aa1 BK111.out 0; have hfz26_1 := Aa1 BK111.out 1) | (refine bx 7 rfl #[.string (⟨#[]⟩ : ByteArray), .int .i64 0] 90 ?_; intro gb112 hg w27 hbox hb; replace HB := am (Ab8 (hsk HB.out (Aa2.ge HI0.out)) hb); have BK112 := am (hbox); have GW112 := am ((by rw [hg]; exact (Ab7 (w := w) (g := g) (row := none) (ks HK.out)) : w.heap.size ≤ gb112)); replace HK := am (Aa3.trans (ks HK.out) (Aa3.of_below hb g none) (.inl rfl)); have GE112 := am (Nat.le_trans HW0.out GW112.out); have NB107_112 := am ((by rw [hg]; exact Nat.ne_of_lt (Ad1 (g := gb107) (o := .cells #[.slice none 0 0] 26 (0, 0)) (by refine bq ?_; refine Aa4 ?_ NB107_111.out _; refine bq ?_; refine Aa4 ?_ NB107_111.out _; refine bq ?_; exact BK107.out)) : gb107 ≠ gb112)); have NB112_107 := am ((by rw [hg]; exact Nat.ne_of_gt (Ad1 (g := gb107) (o := .cells #[.slice none 0 0] 26 (0, 0)) (by refine bq ?_; refine Aa4 ?_ NB107_111.out _; refine bq ?_; refine Aa4 ?_ NB107_111.out _; refine bq ?_; exact BK107.out)) : gb112 ≠ gb107)); replace BK107 := am (Ab5 (g := gb107) (o := .cells #[.slice none 0 0] 26 (0, 0)) (by refine bq ?_; refine Aa4 ?_ NB107_111.out _; refine bq ?_; refine Aa4 ?_ NB107_111.out _; refine bq ?_; exact BK107.out) hb); have NB108_112 := am ((by rw [hg]; exact Nat.ne_of_lt (Ad1 (g := gb108) (o := .cells #[.string (⟨#[101]⟩ : ByteArray), .int .i64 0] 90 (0, 0)) (by refine bq ?_; refine Aa4 ?_ NB108_111.out _; refine bq ?_; refine Aa4 ?_ NB108_111.out _; refine bq ?_; exact BK108.out)) : gb108 ≠ gb112)); have NB112_108 := am ((by rw [hg]; exact Nat.ne_of_gt (Ad1 (g := gb108) (o := .cells #[.string (⟨#[101]⟩ : ByteArray), .int .i64 0] 90 (0, 0)) (by refine bq ?_; refine Aa4 ?_ NB108_111.out _; refine bq ?_; refine Aa4 ?_ NB108_111.out _; refine bq ?_; exact BK108.out)) : gb112 ≠ gb108)); replace BK108 := am (Ab5 (g := gb108) (o := .cells #[.string (⟨#[101]⟩ : ByteArray), .int .i64 0] 90 (0, 0)) (by refine bq ?_; refine Aa4 ?_ NB108_111.out _; refine bq ?_; refine Aa4 ?_ NB108_111.out _; refine bq ?_; exact BK108.out) hb); have NB109_112 := am ((by rw [hg]; exact Nat.ne_of_lt (Ad1 (g := gb109) (o := .cells #[.string (⟨#[105]⟩ : ByteArray), .int .i64 1] 90 (0, 0)) (by refine bq ?_; refine Aa4 ?_ NB109_111.out _; refine bq ?_; refine Aa4 ?_ NB109_111.out _; refine bq ?_; exact BK109.out)) : gb109 ≠ gb112)); have NB112_109 := am ((by rw [hg]; exact Nat.ne_of_gt (Ad1 (g := gb109) (o := .cells #[.string (⟨#[105]⟩ : ByteArray), .int .i64 1] 90 (0, 0)) (by refine bq ?_; refine Aa4 ?_ NB109_111.out _; refine bq ?_; refine Aa4 ?_ NB109_111.out _; refine bq ?_; exact BK109.out)) : gb112 ≠ gb109)); replace BK109 := am (Ab5 (g := gb109) (o := .cells #[.string (⟨#[105]⟩ : ByteArray), .int .i64 1] 90 (0, 0)) (by refine bq ?_; refine Aa4 ?_ NB109_111.out _; refine bq ?_; refine Aa4 ?_ NB109_111.out _; refine bq ?_; exact BK109.out) hb); have NB110_112 := am ((by rw [hg]; exact Nat.ne_of_lt (Ad1 (g := gb110) (o := .cells #[.string (⟨#[109]⟩ : ByteArray), .int .i64 2] 90 (0, 0)) (by refine bq ?_; refine Aa4 ?_ NB110_111.out _; refine bq ?_; refine Aa4 ?_ NB110_111.out _; refine bq ?_; exact BK110.out)) : gb110 ≠ gb112)); have NB112_110 := am ((by rw [hg]; exact Nat.ne_of_gt (Ad1 (g := gb110) (o := .cells #[.string (⟨#[109]⟩ : ByteArray), .int .i64 2] 90 (0, 0)) (by refine bq ?_; refine Aa4 ?_ NB110_111.out _; refine bq ?_; refine Aa4 ?_ NB110_111.out _; refine bq ?_; exact BK110.out)) : gb112 ≠ gb110)); replace BK110 := am (Ab5 (g := gb110) (o := .cells #[.string (⟨#[109]⟩ : ByteArray), .int .i64 2] 90 (0, 0)) (by refine bq ?_; refine Aa4 ?_ NB110_111.out _; refine bq ?_; refine Aa4 ?_ NB110_111.out _; refine bq ?_; exact BK110.out) hb); have NB111_112 := am ((by rw [hg]; exact Nat.ne_of_lt (Ad1 (g := gb111) (o := .cells #[.string (⟨#[115, 117, 99]⟩ : ByteArray), .int .i64 1] 90 (0, 0)) (by refine bq ?_; refine Aa6 (cs := #[.string (⟨#[115, 117, 99]⟩ : ByteArray), .int .i64 0]) ?_ 1 _ rfl; refine bq ?_; refine Aa6 (cs := #[.string (⟨#[]⟩ : ByteArray), .int .i64 0]) ?_ 0 _ rfl; refine bq ?_; exact BK111.out)) : gb111 ≠ gb112)); have NB112_111 := am ((by rw [hg]; exact Nat.ne_of_gt (Ad1 (g := gb111) (o := .cells #[.string (⟨#[115, 117, 99]⟩ : ByteArray), .int .i64 1] 90 (0, 0)) (by refine bq ?_; refine Aa6 (cs := #[.string (⟨#[115, 117, 99]⟩ : ByteArray), .int .i64 0]) ?_ 1 _ rfl; refine bq ?_; refine Aa6 (cs := #[.string (⟨#[]⟩ : ByteArray), .int .i64 0]) ?_ 0 _ rfl; refine bq ?_; exact BK111.out)) : gb112 ≠ gb111)); replace BK111 := am (Ab5 (g := gb111) (o := .cells #[.string (⟨#[115, 117, 99]⟩ : ByteArray), .int .i64 1] 90 (0, 0)) (by refine bq ?_; refine Aa6 (cs := #[.string (⟨#[115, 117, 99]⟩ : ByteArray), .int .i64 0]) ?_ 1 _ rfl; refine bq ?_; refine Aa6 (cs := #[.string (⟨#[]⟩ : ByteArray), .int .i64 0]) ?_ 0 _ rfl; refine bq ?_; exact BK111.out) hb); have NB0_112 := am ((by rw [hg]; exact Nat.ne_of_lt (Aa2.lt (show Aa2 w0 _ g s0_0 s0_1 from Aa2.q HI0.out)) : g ≠ gb112)); replace HI0 := am (Aa2.below (show Aa2 w0 ((w20.setCell ⟨gb111, 0, none⟩ (.string (⟨#[115, 117, 99]⟩ : ByteArray))).setCell ⟨gb111, 1, none⟩ (.int .i64 1)) g s0_0 s0_1 from Aa2.q HI0.out) hb); have NB112_0 := am NB0_112.out.symm; clear hb hbox hg; have hnb28 := NB112_107.out; have hnc28 := NB107_112.out; have hnb29 := NB112_108.out; have hnc29 := NB108_112.out; have hnb30 := NB112_109.out; have hnc30 := NB109_112.out; have hnb31 := NB112_110.out; have hnc31 := NB110_112.out; have hnb32 := NB112_111.out; have hnc32 := NB111_112.out; have hnb33 := NB112_0.out; have hnc33 := NB0_112.out; have hcz34_0 : w27.cell? ⟨gb112, 0, none⟩ = some (.string (⟨#[]⟩ : ByteArray)) := (Aa0 BK112.out 0).trans rfl; have hcz34_1 : w27.cell? ⟨gb112, 1, none⟩ = some (.int .i64 0) := (Aa0 BK112.out 1).trans rfl; have hfz34_0 := Aa1 BK112.out 0; have hfz34_1 := Aa1 BK112.out 1) | (refine bx 8 rfl #[.string (⟨#[]⟩ : ByteArray), .int .i64 0] 90 ?_; intro gb113 hg w35 hbox hb; replace HB := am (Ab8 (hsk HB.out (Aa2.ge HI0.out)) hb); have BK113 := am (hbox); have GW113 := am ((by rw [hg]; exact (Ab7 (w := w) (g := g) (row := none) (ks HK.out)) : w.heap.size ≤ gb113)); replace HK := am (Aa3.trans (ks HK.out) (Aa3.of_below hb g none) (.inl rfl)); have GE113 := am (Nat.le_trans HW0.out GW113.out); have NB107_113 := am ((by rw [hg]; exact Nat.ne_of_lt (Ad1 (g := gb107) (o := .cells #[.slice none 0 0] 26 (0, 0)) (by refine bq ?_; refine Aa4 ?_ NB107_112.out _; refine bq ?_; refine Aa4 ?_ NB107_112.out _; refine bq ?_; exact BK107.out)) : gb107 ≠ gb113)); have NB113_107 := am ((by rw [hg]; exact Nat.ne_of_gt (Ad1 (g := gb107) (o := .cells #[.slice none 0 0] 26 (0, 0)) (by refine bq ?_; refine Aa4 ?_ NB107_112.out _; refine bq ?_; refine Aa4 ?_ NB107_112.out _; refine bq ?_; exact BK107.out)) : gb113 ≠ gb107)); replace BK107 := am (Ab5 (g := gb107) (o := .cells #[.slice none 0 0] 26 (0, 0)) (by refine bq ?_; refine Aa4 ?_ NB107_112.out _; refine bq ?_; refine Aa4 ?_ NB107_112.out _; refine bq ?_; exact BK107.out) hb); have NB108_113 := am ((by rw [hg]; exact Nat.ne_of_lt (Ad1 (g := gb108) (o := .cells #[.string (⟨#[101]⟩ : ByteArray), .int .i64 0] 90 (0, 0)) (by refine bq ?_; refine Aa4 ?_ NB108_112.out _; refine bq ?_; refine Aa4 ?_ NB108_112.out _; refine bq ?_; exact BK108.out)) : gb108 ≠ gb113)); have NB113_108 := am ((by rw [hg]; exact Nat.ne_of_gt (Ad1 (g := gb108) (o := .cells #[.string (⟨#[101]⟩ : ByteArray), .int .i64 0] 90 (0, 0)) (by refine bq ?_; refine Aa4 ?_ NB108_112.out _; refine bq ?_; refine Aa4 ?_ NB108_112.out _; refine bq ?_; exact BK108.out)) : gb113 ≠ gb108)); replace BK108 := am (Ab5 (g := gb108) (o := .cells #[.string (⟨#[101]⟩ : ByteArray), .int .i64 0] 90 (0, 0)) (by refine bq ?_; refine Aa4 ?_ NB108_112.out _; refine bq ?_; refine Aa4 ?_ NB108_112.out _; refine bq ?_; exact BK108.out) hb); have NB109_113 := am ((by rw [hg]; exact Nat.ne_of_lt (Ad1 (g := gb109) (o := .cells #[.string (⟨#[105]⟩ : ByteArray), .int .i64 1] 90 (0, 0)) (by refine bq ?_; refine Aa4 ?_ NB109_112.out _; refine bq ?_; refine Aa4 ?_ NB109_112.out _; refine bq ?_; exact BK109.out)) : gb109 ≠ gb113)); have NB113_109 := am ((by rw [hg]; exact Nat.ne_of_gt (Ad1 (g := gb109) (o := .cells #[.string (⟨#[105]⟩ : ByteArray), .int .i64 1] 90 (0, 0)) (by refine bq ?_; refine Aa4 ?_ NB109_112.out _; refine bq ?_; refine Aa4 ?_ NB109_112.out _; refine bq ?_; exact BK109.out)) : gb113 ≠ gb109)); replace BK109 := am (Ab5 (g := gb109) (o := .cells #[.string (⟨#[105]⟩ : ByteArray), .int .i64 1] 90 (0, 0)) (by refine bq ?_; refine Aa4 ?_ NB109_112.out _; refine bq ?_; refine Aa4 ?_ NB109_112.out _; refine bq ?_; exact BK109.out) hb); have NB110_113 := am ((by rw [hg]; exact Nat.ne_of_lt (Ad1 (g := gb110) (o := .cells #[.string (⟨#[109]⟩ : ByteArray), .int .i64 2] 90 (0, 0)) (by refine bq ?_; refine Aa4 ?_ NB110_112.out _; refine bq ?_; refine Aa4 ?_ NB110_112.out _; refine bq ?_; exact BK110.out)) : gb110 ≠ gb113)); have NB113_110 := am ((by rw [hg]; exact Nat.ne_of_gt (Ad1 (g := gb110) (o := .cells #[.string (⟨#[109]⟩ : ByteArray), .int .i64 2] 90 (0, 0)) (by refine bq ?_; refine Aa4 ?_ NB110_112.out _; refine bq ?_; refine Aa4 ?_ NB110_112.out _; refine bq ?_; exact BK110.out)) : gb113 ≠ gb110)); replace BK110 := am (Ab5 (g := gb110) (o := .cells #[.string (⟨#[109]⟩ : ByteArray), .int .i64 2] 90 (0, 0)) (by refine bq ?_; refine Aa4 ?_ NB110_112.out _; refine bq ?_; refine Aa4 ?_ NB110_112.out _; refine bq ?_; exact BK110.out) hb); have NB111_113 := am ((by rw [hg]; exact Nat.ne_of_lt (Ad1 (g := gb111) (o := .cells #[.string (⟨#[115, 117, 99]⟩ : ByteArray), .int .i64 1] 90 (0, 0)) (by refine bq ?_; refine Aa4 ?_ NB111_112.out _; refine bq ?_; refine Aa4 ?_ NB111_112.out _; refine bq ?_; exact BK111.out)) : gb111 ≠ gb113)); have NB113_111 := am ((by rw [hg]; exact Nat.ne_of_gt (Ad1 (g := gb111) (o := .cells #[.string (⟨#[115, 117, 99]⟩ : ByteArray), .int .i64 1] 90 (0, 0)) (by refine bq ?_; refine Aa4 ?_ NB111_112.out _; refine bq ?_; refine Aa4 ?_ NB111_112.out _; refine bq ?_; exact BK111.out)) : gb113 ≠ gb111)); replace BK111 := am (Ab5 (g := gb111) (o := .cells #[.string (⟨#[115, 117, 99]⟩ : ByteArray), .int .i64 1] 90 (0, 0)) (by refine bq ?_; refine Aa4 ?_ NB111_112.out _; refine bq ?_; refine Aa4 ?_ NB111_112.out _; refine bq ?_; exact BK111.out) hb); have NB112_113 := am ((by rw [hg]; exact Nat.ne_of_lt (Ad1 (g := gb112) (o := .cells #[.string (⟨#[97]⟩ : ByteArray), .int .i64 0] 90 (0, 0)) (by refine bq ?_; refine Aa6 (cs := #[.string (⟨#[97]⟩ : ByteArray), .int .i64 0]) ?_ 1 _ rfl; refine bq ?_; refine Aa6 (cs := #[.string (⟨#[]⟩ : ByteArray), .int .i64 0]) ?_ 0 _ rfl; refine bq ?_; exact BK112.out)) : gb112 ≠ gb113)); have NB113_112 := am ((by rw [hg]; exact Nat.ne_of_gt (Ad1 (g := gb112) (o := .cells #[.string (⟨#[97]⟩ : ByteArray), .int .i64 0] 90 (0, 0)) (by refine bq ?_; refine Aa6 (cs := #[.string (⟨#[97]⟩ : ByteArray), .int .i64 0]) ?_ 1 _ rfl; refine bq ?_; refine Aa6 (cs := #[.string (⟨#[]⟩ : ByteArray), .int .i64 0]) ?_ 0 _ rfl; refine bq ?_; exact BK112.out)) : gb113 ≠ gb112)); replace BK112 := am (Ab5 (g := gb112) (o := .cells #[.string (⟨#[97]⟩ : ByteArray), .int .i64 0] 90 (0, 0)) (by refine bq ?_; refine Aa6 (cs := #[.string (⟨#[97]⟩ : ByteArray), .int .i64 0]) ?_ 1 _ rfl; refine bq ?_; refine Aa6 (cs := #[.string (⟨#[]⟩ : ByteArray), .int .i64 0]) ?_ 0 _ rfl; refine bq ?_; exact BK112.out) hb); have NB0_113 := am ((by rw [hg]; exact Nat.ne_of_lt (Aa2.lt (show Aa2 w0 _ g s0_0 s0_1 from Aa2.q HI0.out)) : g ≠ gb113)); replace HI0 := am (Aa2.below (show Aa2 w0 ((w27.setCell ⟨gb112, 0, none⟩ (.string (⟨#[97]⟩ : ByteArray))).setCell ⟨gb112, 1, none⟩ (.int .i64 0)) g s0_0 s0_1 from Aa2.q HI0.out) hb); have NB113_0 := am NB0_113.out.symm; clear hb hbox hg; have hnb36 := NB113_107.out; have hnc36 := NB107_113.out; have hnb37 := NB113_108.out; have hnc37 := NB108_113.out; have hnb38 := NB113_109.out; have hnc38 := NB109_113.out; have hnb39 := NB113_110.out; have hnc39 := NB110_113.out; have hnb40 := NB113_111.out; have hnc40 := NB111_113.out; have hnb41 := NB113_112.out; have hnc41 := NB112_113.out; have hnb42 := NB113_0.out; have hnc42 := NB0_113.out; have hcz43_0 : w35.cell? ⟨gb113, 0, none⟩ = some (.string (⟨#[]⟩ : ByteArray)) := (Aa0 BK113.out 0).trans rfl; have hcz43_1 : w35.cell? ⟨gb113, 1, none⟩ = some (.int .i64 0) := (Aa0 BK113.out 1).trans rfl; have hfz43_0 := Aa1 BK113.out 0; have hfz43_1 := Aa1 BK113.out 1) | (refine gl (some 16) Tryz.func56 rfl #[.pointer (some ⟨g, 0, none⟩), .int .i64 8] ?_; refine (spec_l1Next.calls g s0_0 s0_1 8 t114 t115 w0 _ (Aa2.q HI0.out) (hsk HB.out (Aa2.ge HI0.out)) A2.out).mono ?_; rintro e w44 ⟨rfl, hi, hb, hk⟩; refine ⟨_, rfl, ?_⟩; replace BK107 := am (Aa3.blk hk (g' := gb107) (o := .cells #[.slice none 0 0] 26 (0, 0)) (by refine bq ?_; refine Aa4 ?_ NB107_113.out _; refine bq ?_; refine Aa4 ?_ NB107_113.out _; refine bq ?_; exact BK107.out) NB107_0.out (by simp)); replace BK108 := am (Aa3.blk hk (g' := gb108) (o := .cells #[.string (⟨#[101]⟩ : ByteArray), .int .i64 0] 90 (0, 0)) (by refine bq ?_; refine Aa4 ?_ NB108_113.out _; refine bq ?_; refine Aa4 ?_ NB108_113.out _; refine bq ?_; exact BK108.out) NB108_0.out (by simp)); replace BK109 := am (Aa3.blk hk (g' := gb109) (o := .cells #[.string (⟨#[105]⟩ : ByteArray), .int .i64 1] 90 (0, 0)) (by refine bq ?_; refine Aa4 ?_ NB109_113.out _; refine bq ?_; refine Aa4 ?_ NB109_113.out _; refine bq ?_; exact BK109.out) NB109_0.out (by simp)); replace BK110 := am (Aa3.blk hk (g' := gb110) (o := .cells #[.string (⟨#[109]⟩ : ByteArray), .int .i64 2] 90 (0, 0)) (by refine bq ?_; refine Aa4 ?_ NB110_113.out _; refine bq ?_; refine Aa4 ?_ NB110_113.out _; refine bq ?_; exact BK110.out) NB110_0.out (by simp)); replace BK111 := am (Aa3.blk hk (g' := gb111) (o := .cells #[.string (⟨#[115, 117, 99]⟩ : ByteArray), .int .i64 1] 90 (0, 0)) (by refine bq ?_; refine Aa4 ?_ NB111_113.out _; refine bq ?_; refine Aa4 ?_ NB111_113.out _; refine bq ?_; exact BK111.out) NB111_0.out (by simp)); replace BK112 := am (Aa3.blk hk (g' := gb112) (o := .cells #[.string (⟨#[97]⟩ : ByteArray), .int .i64 0] 90 (0, 0)) (by refine bq ?_; refine Aa4 ?_ NB112_113.out _; refine bq ?_; refine Aa4 ?_ NB112_113.out _; refine bq ?_; exact BK112.out) NB112_0.out (by simp)); replace BK113 := am (Aa3.blk hk (g' := gb113) (o := .cells #[.string (⟨#[98]⟩ : ByteArray), .int .i64 0] 90 (0, 0)) (by refine bq ?_; refine Aa6 (cs := #[.string (⟨#[98]⟩ : ByteArray), .int .i64 0]) ?_ 1 _ rfl; refine bq ?_; refine Aa6 (cs := #[.string (⟨#[]⟩ : ByteArray), .int .i64 0]) ?_ 0 _ rfl; refine bq ?_; exact BK113.out) NB113_0.out (by simp)); replace HK := am (Aa3.trans (ks HK.out) hk (.inl rfl)); replace HB := am (hb); replace HI0 := am (hi); (try clear hb); (try clear hk); (try clear hi)))
 (try simp only [Act.put, lsp])
 go_cut [17] (fun v17 wc => ∃ (kq : Nat) (x17_2 : Bool), v17 = .bool x17_2 ∧ Aside0 (spec_l2Sig.j0 kq t114 x17_2 s0_0 t115 (⟨#[101]⟩ : ByteArray) 0 (⟨#[105]⟩ : ByteArray) 1 (⟨#[109]⟩ : ByteArray) 2 (⟨#[115, 117, 99]⟩ : ByteArray) 1 (⟨#[97]⟩ : ByteArray) 0 (⟨#[98]⟩ : ByteArray) 0 = some (r1, r2)) ∧ Aside0 (kq ≤ k) ∧ Aside0 (wc.heap[gb107]? = some (.cells #[(.slice none 0 0)] 26 (0, 0))) ∧ Aside0 (wc.heap[gb108]? = some (.cells #[.string (⟨#[101]⟩ : ByteArray), .int .i64 0] 90 (0, 0))) ∧ Aside0 (wc.heap[gb109]? = some (.cells #[.string (⟨#[105]⟩ : ByteArray), .int .i64 1] 90 (0, 0))) ∧ Aside0 (wc.heap[gb110]? = some (.cells #[.string (⟨#[109]⟩ : ByteArray), .int .i64 2] 90 (0, 0))) ∧ Aside0 (wc.heap[gb111]? = some (.cells #[.string (⟨#[115, 117, 99]⟩ : ByteArray), .int .i64 1] 90 (0, 0))) ∧ Aside0 (wc.heap[gb112]? = some (.cells #[.string (⟨#[97]⟩ : ByteArray), .int .i64 0] 90 (0, 0))) ∧ Aside0 (wc.heap[gb113]? = some (.cells #[.string (⟨#[98]⟩ : ByteArray), .int .i64 0] 90 (0, 0))) ∧ Aside0 (Aa2 w0 wc g s0_0 t115) ∧ Aside0 (Aa3 w wc g none) ∧ Aside0 (Below w0.heap.size w0 wc))
 case first =>
  have H := HC3.out
  clear HC3
  by_cases c45 : t114 = 0
  ·rw [if_pos c45] at H
   obtain ⟨c45b0, c45b1⟩ := bqt c45; clear c45
   (first | rw [c45b0] | (simp only [Ag7, Ah2]; rw [c45b0]) | skip)
   have H' := am H
   clear H
   go_wp2
   go_meet
   case rel => exact ⟨_, ((t114 == 0)), et, H', ⟨by first | omega | exact Nat.le_refl _⟩, ⟨by refine bq ?_; exact BK107.out⟩, ⟨by refine bq ?_; exact BK108.out⟩, ⟨by refine bq ?_; exact BK109.out⟩, ⟨by refine bq ?_; exact BK110.out⟩, ⟨by refine bq ?_; exact BK111.out⟩, ⟨by refine bq ?_; exact BK112.out⟩, ⟨by refine bq ?_; exact BK113.out⟩, ⟨Aa2.q HI0.out⟩, ⟨ks HK.out⟩, ⟨hsk HB.out (Aa2.ge HI0.out)⟩⟩
  ·rw [if_neg c45] at H
   obtain ⟨c45b0, c45b1⟩ := bqf c45
   (first | rw [c45b0] | (simp only [Ag7, Ah2]; rw [c45b0]) | skip)
   by_cases c46 : t114 = 1
   ·rw [if_pos c46] at H
    obtain ⟨c46b0, c46b1⟩ := bqt c46; clear c46
    have H' := am H
    clear H
    go_wp2
    go_meet
    case rel => exact ⟨_, ((t114 == 1)), et, H', ⟨by first | omega | exact Nat.le_refl _⟩, ⟨by refine bq ?_; exact BK107.out⟩, ⟨by refine bq ?_; exact BK108.out⟩, ⟨by refine bq ?_; exact BK109.out⟩, ⟨by refine bq ?_; exact BK110.out⟩, ⟨by refine bq ?_; exact BK111.out⟩, ⟨by refine bq ?_; exact BK112.out⟩, ⟨by refine bq ?_; exact BK113.out⟩, ⟨Aa2.q HI0.out⟩, ⟨ks HK.out⟩, ⟨hsk HB.out (Aa2.ge HI0.out)⟩⟩
   ·rw [if_neg c46] at H
    obtain ⟨c46b0, c46b1⟩ := bqf c46
    have H' := am H
    clear H
    go_wp2
    go_meet
    case rel => exact ⟨_, ((t114 == 2)), et, H', ⟨by first | omega | exact Nat.le_refl _⟩, ⟨by refine bq ?_; exact BK107.out⟩, ⟨by refine bq ?_; exact BK108.out⟩, ⟨by refine bq ?_; exact BK109.out⟩, ⟨by refine bq ?_; exact BK110.out⟩, ⟨by refine bq ?_; exact BK111.out⟩, ⟨by refine bq ?_; exact BK112.out⟩, ⟨by refine bq ?_; exact BK113.out⟩, ⟨Aa2.q HI0.out⟩, ⟨ks HK.out⟩, ⟨hsk HB.out (Aa2.ge HI0.out)⟩⟩
 case rest =>
  clear HC3
  try clear c45; try clear c45b0; try clear c45b1; try clear c46; try clear c46b0; try clear c46b1; try clear hcz13_0; try clear hcz13_1; try clear hcz19_0; try clear hcz19_1; try clear hcz26_0; try clear hcz26_1; try clear hcz34_0; try clear hcz34_1; try clear hcz43_0; try clear hcz43_1; try clear hcz8_0; try clear hcz8_1; try clear hfz13_0; try clear hfz13_1; try clear hfz19_0; try clear hfz19_1; try clear hfz26_0; try clear hfz26_1; try clear hfz34_0; try clear hfz34_1; try clear hfz43_0; try clear hfz43_1; try clear hfz8_0; try clear hfz8_1
  obtain ⟨kq, x17_2, rfl, HA, HJ2, BK107, BK108, BK109, BK110, BK111, BK112, BK113, HI0, HK, HB⟩ := hcut
  cases kq with
  | zero => exact absurd HA.out (by simp [spec_l2Sig.j0])
  | succ kj2 =>
   have H := HA.out
   clear HA
   simp only [spec_l2Sig.j0] at H
   by_cases c47 : x17_2 = true
   ·subst c47
    rw [if_pos rfl] at H
    obtain ⟨y116, hy116⟩ : ∃ y_ : List (S90), y_ = (([(⟨(⟨#[101]⟩ : ByteArray), 0⟩ : S90), (⟨(⟨#[105]⟩ : ByteArray), 1⟩ : S90), (⟨(⟨#[109]⟩ : ByteArray), 2⟩ : S90), (⟨(⟨#[97]⟩ : ByteArray), 0⟩ : S90)] : List (S90))) := ⟨_, rfl⟩
    replace H : (some (y116, t115)) = some (r1, r2) := by first | (rw [hy116]; with_reducible exact H) | (have H2_ := (Option.bind_some _ _).symm.trans H; rw [hy116]; with_reducible exact H2_) | (have H2_ := (Option.bind_some _ _).symm.trans H; with_reducible exact H2_) | with_reducible exact H | (rw [hy116]; exact H) | exact H
    have Ny116 := am hy116
    clear hy116
    simp only [Option.some.injEq, Prod.mk.injEq] at H
    obtain ⟨rfl, rfl⟩ := H
    have hnb48 := NB108_107.out
    have hnc48 := NB107_108.out
    have hnb49 := NB108_109.out
    have hnc49 := NB109_108.out
    have hnb50 := NB108_110.out
    have hnc50 := NB110_108.out
    have hnb51 := NB108_111.out
    have hnc51 := NB111_108.out
    have hnb52 := NB108_112.out
    have hnc52 := NB112_108.out
    have hnb53 := NB108_113.out
    have hnc53 := NB113_108.out
    have hnb54 := NB108_0.out
    have hnc54 := NB0_108.out
    have hcz55_0 : wc.cell? ⟨gb108, 0, none⟩ = some (.string (⟨#[101]⟩ : ByteArray)) := (Aa0 BK108.out 0).trans rfl
    have hcz55_1 : wc.cell? ⟨gb108, 1, none⟩ = some (.int .i64 0) := (Aa0 BK108.out 1).trans rfl
    have hfz55_0 := Aa1 BK108.out 0
    have hfz55_1 := Aa1 BK108.out 1
    have hnb56 := NB109_107.out
    have hnc56 := NB107_109.out
    have hnb57 := NB109_110.out
    have hnc57 := NB110_109.out
    have hnb58 := NB109_111.out
    have hnc58 := NB111_109.out
    have hnb59 := NB109_112.out
    have hnc59 := NB112_109.out
    have hnb60 := NB109_113.out
    have hnc60 := NB113_109.out
    have hnb61 := NB109_0.out
    have hnc61 := NB0_109.out
    have hcz62_0 : wc.cell? ⟨gb109, 0, none⟩ = some (.string (⟨#[105]⟩ : ByteArray)) := (Aa0 BK109.out 0).trans rfl
    have hcz62_1 : wc.cell? ⟨gb109, 1, none⟩ = some (.int .i64 1) := (Aa0 BK109.out 1).trans rfl
    have hfz62_0 := Aa1 BK109.out 0
    have hfz62_1 := Aa1 BK109.out 1
    have hnb63 := NB110_107.out
    have hnc63 := NB107_110.out
    have hnb64 := NB110_111.out
    have hnc64 := NB111_110.out
    have hnb65 := NB110_112.out
    have hnc65 := NB112_110.out
    have hnb66 := NB110_113.out
    have hnc66 := NB113_110.out
    have hnb67 := NB110_0.out
    have hnc67 := NB0_110.out
    have hcz68_0 : wc.cell? ⟨gb110, 0, none⟩ = some (.string (⟨#[109]⟩ : ByteArray)) := (Aa0 BK110.out 0).trans rfl
    have hcz68_1 : wc.cell? ⟨gb110, 1, none⟩ = some (.int .i64 2) := (Aa0 BK110.out 1).trans rfl
    have hfz68_0 := Aa1 BK110.out 0
    have hfz68_1 := Aa1 BK110.out 1
    have hnb69 := NB112_107.out
    have hnc69 := NB107_112.out
    have hnb70 := NB112_111.out
    have hnc70 := NB111_112.out
    have hnb71 := NB112_113.out
    have hnc71 := NB113_112.out
    have hnb72 := NB112_0.out
    have hnc72 := NB0_112.out
    have hcz73_0 : wc.cell? ⟨gb112, 0, none⟩ = some (.string (⟨#[97]⟩ : ByteArray)) := (Aa0 BK112.out 0).trans rfl
    have hcz73_1 : wc.cell? ⟨gb112, 1, none⟩ = some (.int .i64 0) := (Aa0 BK112.out 1).trans rfl
    have hfz73_0 := Aa1 BK112.out 0
    have hfz73_1 := Aa1 BK112.out 1
    go_wp2_with (first | ((with_reducible refine Ad2 (N := 25) rfl ?_); refine Kd.R_lit k90 _ 90 ?hg (N := 25) ?hd (xs := ([(⟨(⟨#[101]⟩ : ByteArray), 0⟩ : S90), (⟨(⟨#[105]⟩ : ByteArray), 1⟩ : S90), (⟨(⟨#[109]⟩ : ByteArray), 2⟩ : S90), (⟨(⟨#[97]⟩ : ByteArray), 0⟩ : S90)] : List (S90))) (inner := [.string (⟨#[101]⟩ : ByteArray), .int .i64 0, .string (⟨#[105]⟩ : ByteArray), .int .i64 1, .string (⟨#[109]⟩ : ByteArray), .int .i64 2, .string (⟨#[97]⟩ : ByteArray), .int .i64 0]) (ok := fun _ => True) (okp := fun _ => True) ?hr ?hp (fun _ hk => hk) trivial (Below.refl _ _) (Nat.le_refl _) (by simp) ?_; (case hd => rfl); (case hg => rfl); (case hr => first | (go_simp; done) | (go_simp; rfl)); (case hp => exact (Ad5.c2 (show Kd.M k90 _ _ _ (⟨(⟨#[101]⟩ : ByteArray), 0⟩ : S90) [.string (⟨#[101]⟩ : ByteArray), .int .i64 0] from (Af3 _ _ _ (⟨(⟨#[101]⟩ : ByteArray), 0⟩ : S90) )) (Ad5.c2 (show Kd.M k90 _ _ _ (⟨(⟨#[105]⟩ : ByteArray), 1⟩ : S90) [.string (⟨#[105]⟩ : ByteArray), .int .i64 1] from (Af3 _ _ _ (⟨(⟨#[105]⟩ : ByteArray), 1⟩ : S90) )) (Ad5.c2 (show Kd.M k90 _ _ _ (⟨(⟨#[109]⟩ : ByteArray), 2⟩ : S90) [.string (⟨#[109]⟩ : ByteArray), .int .i64 2] from (Af3 _ _ _ (⟨(⟨#[109]⟩ : ByteArray), 2⟩ : S90) )) (Ad5.c2 (show Kd.M k90 _ _ _ (⟨(⟨#[97]⟩ : ByteArray), 0⟩ : S90) [.string (⟨#[97]⟩ : ByteArray), .int .i64 0] from (Af3 _ _ _ (⟨(⟨#[97]⟩ : ByteArray), 0⟩ : S90) )) (Ad5.none _ _)))))); intro v117 w74 ho75 hb hg_ hnew_; clear hg_ hnew_; (first | rw [← Ny116.out] at ho75 | (simp only [Int.reduceToNat] at ho75; rw [← Ny116.out] at ho75)); have HO118 := am (Kd.R_lower (Kd.R_newB (Kd.R_newB (Kd.R_newB (Kd.R_newB (Kd.R_newB (Kd.R_newB ho75 (bq BK108.out)) (bq BK109.out)) (bq BK110.out)) (bq BK111.out)) (bq BK112.out)) (bq BK113.out)) (Ab7 (w := w) (g := g) (row := none) (ks HK.out))); replace BK107 := bb BK107 hb; replace BK108 := bb BK108 hb; replace BK109 := bb BK109 hb; replace BK110 := bb BK110 hb; replace BK111 := bb BK111 hb; replace BK112 := bb BK112 hb; replace BK113 := bb BK113 hb; replace HK := am (Aa3.trans (ks HK.out) (Aa3.of_below hb g none) (.inl rfl)); replace HB := am (Ab8 (hsk HB.out (Aa2.ge HI0.out)) hb); replace HI0 := Aa2.bl HI0 hb; clear hb ho75; obtain ⟨Ao76, co76, rfl⟩ := Kd.R_slice HO118.out; have hnb77 := NB107_111.out; have hnc77 := NB111_107.out; have hnb78 := NB107_113.out; have hnc78 := NB113_107.out; have hnb79 := NB107_0.out; have hnc79 := NB0_107.out; have hcz80_0 : w74.cell? ⟨gb107, 0, none⟩ = some (.slice none 0 0) := (Aa0 BK107.out 0).trans rfl; have hfz80_0 := Aa1 BK107.out 0))
    refine bodyPost_ret (results_cell_row rfl _ _ gb107 26 #[.slice Ao76 y116.length co76] (0, 0) _ rfl (by refine bq ?_; refine Aa6 (cs := #[.slice none 0 0]) ?_ 0 _ rfl; refine bq ?_; exact BK107.out) Tryz.underlying26 rfl (by kernel_rfl)) rfl ?_
    exact ⟨_, er, rq (Kd.R_mono (Kd.R_far (p := ⟨gb107, 0, none⟩) (Kd.R_types HO118.out BK107.out (by decide)) (fun _ hk => hk.2) (.slice Ao76 y116.length co76)) (fun _ hk => trivial)), Aa2.q HI0.out, hsk HB.out (Aa2.ge HI0.out), ks HK.out⟩
   ·replace c47 := Bool.eq_false_iff.mpr c47
    subst c47
    rw [if_neg (show ¬ (false = true) by decide)] at H
    have HC81 := am H
    clear H
    go_upto_if 27 with (fail)
    go_cut [27] (fun v27 wc => ∃ (kq : Nat) (x27_80 : Bool), v27 = .bool x27_80 ∧ Aside0 (spec_l2Sig.j1 kq t114 x27_80 s0_0 t115 (⟨#[101]⟩ : ByteArray) 0 (⟨#[105]⟩ : ByteArray) 1 (⟨#[109]⟩ : ByteArray) 2 (⟨#[115, 117, 99]⟩ : ByteArray) 1 (⟨#[97]⟩ : ByteArray) 0 (⟨#[98]⟩ : ByteArray) 0 = some (r1, r2)) ∧ Aside0 (kq ≤ kj2) ∧ Aside0 (wc.heap[gb107]? = some (.cells #[(.slice none 0 0)] 26 (0, 0))) ∧ Aside0 (wc.heap[gb108]? = some (.cells #[.string (⟨#[101]⟩ : ByteArray), .int .i64 0] 90 (0, 0))) ∧ Aside0 (wc.heap[gb109]? = some (.cells #[.string (⟨#[105]⟩ : ByteArray), .int .i64 1] 90 (0, 0))) ∧ Aside0 (wc.heap[gb110]? = some (.cells #[.string (⟨#[109]⟩ : ByteArray), .int .i64 2] 90 (0, 0))) ∧ Aside0 (wc.heap[gb111]? = some (.cells #[.string (⟨#[115, 117, 99]⟩ : ByteArray), .int .i64 1] 90 (0, 0))) ∧ Aside0 (wc.heap[gb112]? = some (.cells #[.string (⟨#[97]⟩ : ByteArray), .int .i64 0] 90 (0, 0))) ∧ Aside0 (wc.heap[gb113]? = some (.cells #[.string (⟨#[98]⟩ : ByteArray), .int .i64 0] 90 (0, 0))) ∧ Aside0 (Aa2 w0 wc g s0_0 t115) ∧ Aside0 (Aa3 w wc g none) ∧ Aside0 (Below w0.heap.size w0 wc))
    case first =>
     have H := HC81.out
     clear HC81
     by_cases c82 : t114 = 3
     ·rw [if_pos c82] at H
      obtain ⟨c82b0, c82b1⟩ := bqt c82; clear c82
      (first | rw [c82b0] | (simp only [Ag7, Ah2]; rw [c82b0]) | skip)
      have H' := am H
      clear H
      go_wp2
      go_meet
      case rel => exact ⟨_, ((t114 == 3)), et, H', ⟨by have := HJ2.out; first | omega | exact Nat.le_refl _⟩, ⟨by refine bq ?_; exact BK107.out⟩, ⟨by refine bq ?_; exact BK108.out⟩, ⟨by refine bq ?_; exact BK109.out⟩, ⟨by refine bq ?_; exact BK110.out⟩, ⟨by refine bq ?_; exact BK111.out⟩, ⟨by refine bq ?_; exact BK112.out⟩, ⟨by refine bq ?_; exact BK113.out⟩, ⟨Aa2.q HI0.out⟩, ⟨ks HK.out⟩, ⟨hsk HB.out (Aa2.ge HI0.out)⟩⟩
     ·rw [if_neg c82] at H
      obtain ⟨c82b0, c82b1⟩ := bqf c82
      (first | rw [c82b0] | (simp only [Ag7, Ah2]; rw [c82b0]) | skip)
      have H' := am H
      clear H
      go_wp2
      go_meet
      case rel => exact ⟨_, ((t114 == 4)), et, H', ⟨by have := HJ2.out; first | omega | exact Nat.le_refl _⟩, ⟨by refine bq ?_; exact BK107.out⟩, ⟨by refine bq ?_; exact BK108.out⟩, ⟨by refine bq ?_; exact BK109.out⟩, ⟨by refine bq ?_; exact BK110.out⟩, ⟨by refine bq ?_; exact BK111.out⟩, ⟨by refine bq ?_; exact BK112.out⟩, ⟨by refine bq ?_; exact BK113.out⟩, ⟨Aa2.q HI0.out⟩, ⟨ks HK.out⟩, ⟨hsk HB.out (Aa2.ge HI0.out)⟩⟩
    case rest =>
     clear HC81
     try clear c45; try clear c45b0; try clear c45b1; try clear c46; try clear c46b0; try clear c46b1; try clear c47; try clear c82; try clear c82b0; try clear c82b1; try clear hcz13_0; try clear hcz13_1; try clear hcz19_0; try clear hcz19_1; try clear hcz26_0; try clear hcz26_1; try clear hcz34_0; try clear hcz34_1; try clear hcz43_0; try clear hcz43_1; try clear hcz55_0; try clear hcz55_1; try clear hcz62_0; try clear hcz62_1; try clear hcz68_0; try clear hcz68_1; try clear hcz73_0; try clear hcz73_1; try clear hcz80_0; try clear hcz8_0; try clear hcz8_1; try clear hfz13_0; try clear hfz13_1; try clear hfz19_0; try clear hfz19_1; try clear hfz26_0; try clear hfz26_1; try clear hfz34_0; try clear hfz34_1; try clear hfz43_0; try clear hfz43_1; try clear hfz55_0; try clear hfz55_1; try clear hfz62_0; try clear hfz62_1; try clear hfz68_0; try clear hfz68_1; try clear hfz73_0; try clear hfz73_1; try clear hfz80_0; try clear hfz8_0; try clear hfz8_1
     obtain ⟨kq, x27_80, rfl, HA, HJ80, BK107, BK108, BK109, BK110, BK111, BK112, BK113, HI0, HK, HB⟩ := hcut
     cases kq with
     | zero => exact absurd HA.out (by simp [spec_l2Sig.j1])
     | succ kj80 =>
      have H := HA.out
      clear HA
      simp only [spec_l2Sig.j1] at H
      by_cases c83 : x27_80 = true
      ·subst c83
       rw [if_pos rfl] at H
       obtain ⟨y119, hy119⟩ : ∃ y_ : List (S90), y_ = (([(⟨(⟨#[97]⟩ : ByteArray), 0⟩ : S90), (⟨(⟨#[115, 117, 99]⟩ : ByteArray), 1⟩ : S90), (⟨(⟨#[97, 100, 100]⟩ : ByteArray), 2⟩ : S90), (⟨(⟨#[98]⟩ : ByteArray), 0⟩ : S90)] : List (S90))) := ⟨_, rfl⟩
       replace H : (some (y119, t115)) = some (r1, r2) := by first | (rw [hy119]; with_reducible exact H) | (have H2_ := (Option.bind_some _ _).symm.trans H; rw [hy119]; with_reducible exact H2_) | (have H2_ := (Option.bind_some _ _).symm.trans H; with_reducible exact H2_) | with_reducible exact H | (rw [hy119]; exact H) | exact H
       have Ny119 := am hy119
       clear hy119
       simp only [Option.some.injEq, Prod.mk.injEq] at H
       obtain ⟨rfl, rfl⟩ := H
       have hnb84 := NB112_107.out
       have hnc84 := NB107_112.out
       have hnb85 := NB112_108.out
       have hnc85 := NB108_112.out
       have hnb86 := NB112_109.out
       have hnc86 := NB109_112.out
       have hnb87 := NB112_110.out
       have hnc87 := NB110_112.out
       have hnb88 := NB112_111.out
       have hnc88 := NB111_112.out
       have hnb89 := NB112_113.out
       have hnc89 := NB113_112.out
       have hnb90 := NB112_0.out
       have hnc90 := NB0_112.out
       have hcz91_0 : wc.cell? ⟨gb112, 0, none⟩ = some (.string (⟨#[97]⟩ : ByteArray)) := (Aa0 BK112.out 0).trans rfl
       have hcz91_1 : wc.cell? ⟨gb112, 1, none⟩ = some (.int .i64 0) := (Aa0 BK112.out 1).trans rfl
       have hfz91_0 := Aa1 BK112.out 0
       have hfz91_1 := Aa1 BK112.out 1
       have hnb92 := NB111_107.out
       have hnc92 := NB107_111.out
       have hnb93 := NB111_108.out
       have hnc93 := NB108_111.out
       have hnb94 := NB111_109.out
       have hnc94 := NB109_111.out
       have hnb95 := NB111_110.out
       have hnc95 := NB110_111.out
       have hnb96 := NB111_113.out
       have hnc96 := NB113_111.out
       have hnb97 := NB111_0.out
       have hnc97 := NB0_111.out
       have hcz98_0 : wc.cell? ⟨gb111, 0, none⟩ = some (.string (⟨#[115, 117, 99]⟩ : ByteArray)) := (Aa0 BK111.out 0).trans rfl
       have hcz98_1 : wc.cell? ⟨gb111, 1, none⟩ = some (.int .i64 1) := (Aa0 BK111.out 1).trans rfl
       have hfz98_0 := Aa1 BK111.out 0
       have hfz98_1 := Aa1 BK111.out 1
       have hnb99 := NB113_107.out
       have hnc99 := NB107_113.out
       have hnb100 := NB113_108.out
       have hnc100 := NB108_113.out
       have hnb101 := NB113_109.out
       have hnc101 := NB109_113.out
       have hnb102 := NB113_110.out
       have hnc102 := NB110_113.out
       have hnb103 := NB113_0.out
       have hnc103 := NB0_113.out
       have hcz104_0 : wc.cell? ⟨gb113, 0, none⟩ = some (.string (⟨#[98]⟩ : ByteArray)) := (Aa0 BK113.out 0).trans rfl
       have hcz104_1 : wc.cell? ⟨gb113, 1, none⟩ = some (.int .i64 0) := (Aa0 BK113.out 1).trans rfl
       have hfz104_0 := Aa1 BK113.out 0
       have hfz104_1 := Aa1 BK113.out 1
       go_wp2_with (first | ((with_reducible refine Ad2 (N := 34) rfl ?_); refine Kd.R_lit k90 _ 90 ?hg (N := 34) ?hd (xs := ([(⟨(⟨#[97]⟩ : ByteArray), 0⟩ : S90), (⟨(⟨#[115, 117, 99]⟩ : ByteArray), 1⟩ : S90), (⟨(⟨#[97, 100, 100]⟩ : ByteArray), 2⟩ : S90), (⟨(⟨#[98]⟩ : ByteArray), 0⟩ : S90)] : List (S90))) (inner := [.string (⟨#[97]⟩ : ByteArray), .int .i64 0, .string (⟨#[115, 117, 99]⟩ : ByteArray), .int .i64 1, .string (⟨#[97, 100, 100]⟩ : ByteArray), .int .i64 2, .string (⟨#[98]⟩ : ByteArray), .int .i64 0]) (ok := fun _ => True) (okp := fun _ => True) ?hr ?hp (fun _ hk => hk) trivial (Below.refl _ _) (Nat.le_refl _) (by simp) ?_; (case hd => rfl); (case hg => rfl); (case hr => first | (go_simp; done) | (go_simp; rfl)); (case hp => exact (Ad5.c2 (show Kd.M k90 _ _ _ (⟨(⟨#[97]⟩ : ByteArray), 0⟩ : S90) [.string (⟨#[97]⟩ : ByteArray), .int .i64 0] from (Af3 _ _ _ (⟨(⟨#[97]⟩ : ByteArray), 0⟩ : S90) )) (Ad5.c2 (show Kd.M k90 _ _ _ (⟨(⟨#[115, 117, 99]⟩ : ByteArray), 1⟩ : S90) [.string (⟨#[115, 117, 99]⟩ : ByteArray), .int .i64 1] from (Af3 _ _ _ (⟨(⟨#[115, 117, 99]⟩ : ByteArray), 1⟩ : S90) )) (Ad5.c2 (show Kd.M k90 _ _ _ (⟨(⟨#[97, 100, 100]⟩ : ByteArray), 2⟩ : S90) [.string (⟨#[97, 100, 100]⟩ : ByteArray), .int .i64 2] from (Af3 _ _ _ (⟨(⟨#[97, 100, 100]⟩ : ByteArray), 2⟩ : S90) )) (Ad5.c2 (show Kd.M k90 _ _ _ (⟨(⟨#[98]⟩ : ByteArray), 0⟩ : S90) [.string (⟨#[98]⟩ : ByteArray), .int .i64 0] from (Af3 _ _ _ (⟨(⟨#[98]⟩ : ByteArray), 0⟩ : S90) )) (Ad5.none _ _)))))); intro v120 w105 ho106 hb hg_ hnew_; clear hg_ hnew_; (first | rw [← Ny119.out] at ho106 | (simp only [Int.reduceToNat] at ho106; rw [← Ny119.out] at ho106)); have HO121 := am (Kd.R_lower (Kd.R_newB (Kd.R_newB (Kd.R_newB (Kd.R_newB (Kd.R_newB (Kd.R_newB ho106 (bq BK108.out)) (bq BK109.out)) (bq BK110.out)) (bq BK111.out)) (bq BK112.out)) (bq BK113.out)) (Ab7 (w := w) (g := g) (row := none) (ks HK.out))); replace BK107 := bb BK107 hb; replace BK108 := bb BK108 hb; replace BK109 := bb BK109 hb; replace BK110 := bb BK110 hb; replace BK111 := bb BK111 hb; replace BK112 := bb BK112 hb; replace BK113 := bb BK113 hb; replace HK := am (Aa3.trans (ks HK.out) (Aa3.of_below hb g none) (.inl rfl)); replace HB := am (Ab8 (hsk HB.out (Aa2.ge HI0.out)) hb); replace HI0 := Aa2.bl HI0 hb; clear hb ho106; obtain ⟨Ao107, co107, rfl⟩ := Kd.R_slice HO121.out; have hnb108 := NB107_108.out; have hnc108 := NB108_107.out; have hnb109 := NB107_109.out; have hnc109 := NB109_107.out; have hnb110 := NB107_110.out; have hnc110 := NB110_107.out; have hnb111 := NB107_0.out; have hnc111 := NB0_107.out; have hcz112_0 : w105.cell? ⟨gb107, 0, none⟩ = some (.slice none 0 0) := (Aa0 BK107.out 0).trans rfl; have hfz112_0 := Aa1 BK107.out 0))
       refine bodyPost_ret (results_cell_row rfl _ _ gb107 26 #[.slice Ao107 y119.length co107] (0, 0) _ rfl (by refine bq ?_; refine Aa6 (cs := #[.slice none 0 0]) ?_ 0 _ rfl; refine bq ?_; exact BK107.out) Tryz.underlying26 rfl (by kernel_rfl)) rfl ?_
       exact ⟨_, er, rq (Kd.R_mono (Kd.R_far (p := ⟨gb107, 0, none⟩) (Kd.R_types HO121.out BK107.out (by decide)) (fun _ hk => hk.2) (.slice Ao107 y119.length co107)) (fun _ hk => trivial)), Aa2.q HI0.out, hsk HB.out (Aa2.ge HI0.out), ks HK.out⟩
      ·replace c83 := Bool.eq_false_iff.mpr c83
       subst c83
       rw [if_neg (show ¬ (false = true) by decide)] at H
       by_cases c113 : t114 = 5
       ·rw [if_pos c113] at H
        obtain ⟨c113b0, c113b1⟩ := bqt c113; clear c113
        obtain ⟨y122, hy122⟩ : ∃ y_ : List (S90), y_ = (([(⟨(⟨#[97]⟩ : ByteArray), 0⟩ : S90), (⟨(⟨#[102]⟩ : ByteArray), 1⟩ : S90), (⟨(⟨#[103]⟩ : ByteArray), 1⟩ : S90)] : List (S90))) := ⟨_, rfl⟩
        replace H : (some (y122, t115)) = some (r1, r2) := by first | (rw [hy122]; with_reducible exact H) | (have H2_ := (Option.bind_some _ _).symm.trans H; rw [hy122]; with_reducible exact H2_) | (have H2_ := (Option.bind_some _ _).symm.trans H; with_reducible exact H2_) | with_reducible exact H | (rw [hy122]; exact H) | exact H
        have Ny122 := am hy122
        clear hy122
        simp only [Option.some.injEq, Prod.mk.injEq] at H
        obtain ⟨rfl, rfl⟩ := H
        have hnb114 := NB112_107.out
        have hnc114 := NB107_112.out
        have hnb115 := NB112_108.out
        have hnc115 := NB108_112.out
        have hnb116 := NB112_109.out
        have hnc116 := NB109_112.out
        have hnb117 := NB112_110.out
        have hnc117 := NB110_112.out
        have hnb118 := NB112_111.out
        have hnc118 := NB111_112.out
        have hnb119 := NB112_113.out
        have hnc119 := NB113_112.out
        have hnb120 := NB112_0.out
        have hnc120 := NB0_112.out
        have hcz121_0 : wc.cell? ⟨gb112, 0, none⟩ = some (.string (⟨#[97]⟩ : ByteArray)) := (Aa0 BK112.out 0).trans rfl
        have hcz121_1 : wc.cell? ⟨gb112, 1, none⟩ = some (.int .i64 0) := (Aa0 BK112.out 1).trans rfl
        have hfz121_0 := Aa1 BK112.out 0
        have hfz121_1 := Aa1 BK112.out 1
        go_wp2_with (first | ((with_reducible refine Ad2 (N := 41) rfl ?_); refine Kd.R_lit k90 _ 90 ?hg (N := 41) ?hd (xs := ([(⟨(⟨#[97]⟩ : ByteArray), 0⟩ : S90), (⟨(⟨#[102]⟩ : ByteArray), 1⟩ : S90), (⟨(⟨#[103]⟩ : ByteArray), 1⟩ : S90)] : List (S90))) (inner := [.string (⟨#[97]⟩ : ByteArray), .int .i64 0, .string (⟨#[102]⟩ : ByteArray), .int .i64 1, .string (⟨#[103]⟩ : ByteArray), .int .i64 1]) (ok := fun _ => True) (okp := fun _ => True) ?hr ?hp (fun _ hk => hk) trivial (Below.refl _ _) (Nat.le_refl _) (by simp) ?_; (case hd => rfl); (case hg => rfl); (case hr => first | (go_simp; done) | (go_simp; rfl)); (case hp => exact (Ad5.c2 (show Kd.M k90 _ _ _ (⟨(⟨#[97]⟩ : ByteArray), 0⟩ : S90) [.string (⟨#[97]⟩ : ByteArray), .int .i64 0] from (Af3 _ _ _ (⟨(⟨#[97]⟩ : ByteArray), 0⟩ : S90) )) (Ad5.c2 (show Kd.M k90 _ _ _ (⟨(⟨#[102]⟩ : ByteArray), 1⟩ : S90) [.string (⟨#[102]⟩ : ByteArray), .int .i64 1] from (Af3 _ _ _ (⟨(⟨#[102]⟩ : ByteArray), 1⟩ : S90) )) (Ad5.c2 (show Kd.M k90 _ _ _ (⟨(⟨#[103]⟩ : ByteArray), 1⟩ : S90) [.string (⟨#[103]⟩ : ByteArray), .int .i64 1] from (Af3 _ _ _ (⟨(⟨#[103]⟩ : ByteArray), 1⟩ : S90) )) (Ad5.none _ _))))); intro v123 w122 ho123 hb hg_ hnew_; clear hg_ hnew_; (first | rw [← Ny122.out] at ho123 | (simp only [Int.reduceToNat] at ho123; rw [← Ny122.out] at ho123)); have HO124 := am (Kd.R_lower (Kd.R_newB (Kd.R_newB (Kd.R_newB (Kd.R_newB (Kd.R_newB (Kd.R_newB ho123 (bq BK108.out)) (bq BK109.out)) (bq BK110.out)) (bq BK111.out)) (bq BK112.out)) (bq BK113.out)) (Ab7 (w := w) (g := g) (row := none) (ks HK.out))); replace BK107 := bb BK107 hb; replace BK108 := bb BK108 hb; replace BK109 := bb BK109 hb; replace BK110 := bb BK110 hb; replace BK111 := bb BK111 hb; replace BK112 := bb BK112 hb; replace BK113 := bb BK113 hb; replace HK := am (Aa3.trans (ks HK.out) (Aa3.of_below hb g none) (.inl rfl)); replace HB := am (Ab8 (hsk HB.out (Aa2.ge HI0.out)) hb); replace HI0 := Aa2.bl HI0 hb; clear hb ho123; obtain ⟨Ao124, co124, rfl⟩ := Kd.R_slice HO124.out; have hnb125 := NB107_108.out; have hnc125 := NB108_107.out; have hnb126 := NB107_109.out; have hnc126 := NB109_107.out; have hnb127 := NB107_110.out; have hnc127 := NB110_107.out; have hnb128 := NB107_111.out; have hnc128 := NB111_107.out; have hnb129 := NB107_113.out; have hnc129 := NB113_107.out; have hnb130 := NB107_0.out; have hnc130 := NB0_107.out; have hcz131_0 : w122.cell? ⟨gb107, 0, none⟩ = some (.slice none 0 0) := (Aa0 BK107.out 0).trans rfl; have hfz131_0 := Aa1 BK107.out 0))
        refine bodyPost_ret (results_cell_row rfl _ _ gb107 26 #[.slice Ao124 y122.length co124] (0, 0) _ rfl (by refine bq ?_; refine Aa6 (cs := #[.slice none 0 0]) ?_ 0 _ rfl; refine bq ?_; exact BK107.out) Tryz.underlying26 rfl (by kernel_rfl)) rfl ?_
        exact ⟨_, er, rq (Kd.R_mono (Kd.R_far (p := ⟨gb107, 0, none⟩) (Kd.R_types HO124.out BK107.out (by decide)) (fun _ hk => hk.2) (.slice Ao124 y122.length co124)) (fun _ hk => trivial)), Aa2.q HI0.out, hsk HB.out (Aa2.ge HI0.out), ks HK.out⟩
       ·rw [if_neg c113] at H
        obtain ⟨c113b0, c113b1⟩ := bqf c113
        by_cases c132 : t114 = 6
        ·rw [if_pos c132] at H
         obtain ⟨c132b0, c132b1⟩ := bqt c132; clear c132
         obtain ⟨y125, hy125⟩ : ∃ y_ : List (S90), y_ = (([(⟨(⟨#[97]⟩ : ByteArray), 0⟩ : S90), (⟨(⟨#[98]⟩ : ByteArray), 0⟩ : S90), (⟨(⟨#[101]⟩ : ByteArray), 0⟩ : S90), (⟨(⟨#[109]⟩ : ByteArray), 2⟩ : S90), (⟨(⟨#[105]⟩ : ByteArray), 1⟩ : S90), (⟨(⟨#[115, 117, 99]⟩ : ByteArray), 1⟩ : S90)] : List (S90))) := ⟨_, rfl⟩
         replace H : (some (y125, t115)) = some (r1, r2) := by first | (rw [hy125]; with_reducible exact H) | (have H2_ := (Option.bind_some _ _).symm.trans H; rw [hy125]; with_reducible exact H2_) | (have H2_ := (Option.bind_some _ _).symm.trans H; with_reducible exact H2_) | with_reducible exact H | (rw [hy125]; exact H) | exact H
         have Ny125 := am hy125
         clear hy125
         simp only [Option.some.injEq, Prod.mk.injEq] at H
         obtain ⟨rfl, rfl⟩ := H
         have hnb133 := NB112_107.out
         have hnc133 := NB107_112.out
         have hnb134 := NB112_108.out
         have hnc134 := NB108_112.out
         have hnb135 := NB112_109.out
         have hnc135 := NB109_112.out
         have hnb136 := NB112_110.out
         have hnc136 := NB110_112.out
         have hnb137 := NB112_111.out
         have hnc137 := NB111_112.out
         have hnb138 := NB112_113.out
         have hnc138 := NB113_112.out
         have hnb139 := NB112_0.out
         have hnc139 := NB0_112.out
         have hcz140_0 : wc.cell? ⟨gb112, 0, none⟩ = some (.string (⟨#[97]⟩ : ByteArray)) := (Aa0 BK112.out 0).trans rfl
         have hcz140_1 : wc.cell? ⟨gb112, 1, none⟩ = some (.int .i64 0) := (Aa0 BK112.out 1).trans rfl
         have hfz140_0 := Aa1 BK112.out 0
         have hfz140_1 := Aa1 BK112.out 1
         have hnb141 := NB113_107.out
         have hnc141 := NB107_113.out
         have hnb142 := NB113_108.out
         have hnc142 := NB108_113.out
         have hnb143 := NB113_109.out
         have hnc143 := NB109_113.out
         have hnb144 := NB113_110.out
         have hnc144 := NB110_113.out
         have hnb145 := NB113_111.out
         have hnc145 := NB111_113.out
         have hnb146 := NB113_0.out
         have hnc146 := NB0_113.out
         have hcz147_0 : wc.cell? ⟨gb113, 0, none⟩ = some (.string (⟨#[98]⟩ : ByteArray)) := (Aa0 BK113.out 0).trans rfl
         have hcz147_1 : wc.cell? ⟨gb113, 1, none⟩ = some (.int .i64 0) := (Aa0 BK113.out 1).trans rfl
         have hfz147_0 := Aa1 BK113.out 0
         have hfz147_1 := Aa1 BK113.out 1
         have hnb148 := NB108_107.out
         have hnc148 := NB107_108.out
         have hnb149 := NB108_109.out
         have hnc149 := NB109_108.out
         have hnb150 := NB108_110.out
         have hnc150 := NB110_108.out
         have hnb151 := NB108_111.out
         have hnc151 := NB111_108.out
         have hnb152 := NB108_0.out
         have hnc152 := NB0_108.out
         have hcz153_0 : wc.cell? ⟨gb108, 0, none⟩ = some (.string (⟨#[101]⟩ : ByteArray)) := (Aa0 BK108.out 0).trans rfl
         have hcz153_1 : wc.cell? ⟨gb108, 1, none⟩ = some (.int .i64 0) := (Aa0 BK108.out 1).trans rfl
         have hfz153_0 := Aa1 BK108.out 0
         have hfz153_1 := Aa1 BK108.out 1
         have hnb154 := NB110_107.out
         have hnc154 := NB107_110.out
         have hnb155 := NB110_109.out
         have hnc155 := NB109_110.out
         have hnb156 := NB110_111.out
         have hnc156 := NB111_110.out
         have hnb157 := NB110_0.out
         have hnc157 := NB0_110.out
         have hcz158_0 : wc.cell? ⟨gb110, 0, none⟩ = some (.string (⟨#[109]⟩ : ByteArray)) := (Aa0 BK110.out 0).trans rfl
         have hcz158_1 : wc.cell? ⟨gb110, 1, none⟩ = some (.int .i64 2) := (Aa0 BK110.out 1).trans rfl
         have hfz158_0 := Aa1 BK110.out 0
         have hfz158_1 := Aa1 BK110.out 1
         have hnb159 := NB109_107.out
         have hnc159 := NB107_109.out
         have hnb160 := NB109_111.out
         have hnc160 := NB111_109.out
         have hnb161 := NB109_0.out
         have hnc161 := NB0_109.out
         have hcz162_0 : wc.cell? ⟨gb109, 0, none⟩ = some (.string (⟨#[105]⟩ : ByteArray)) := (Aa0 BK109.out 0).trans rfl
         have hcz162_1 : wc.cell? ⟨gb109, 1, none⟩ = some (.int .i64 1) := (Aa0 BK109.out 1).trans rfl
         have hfz162_0 := Aa1 BK109.out 0
         have hfz162_1 := Aa1 BK109.out 1
         have hnb163 := NB111_107.out
         have hnc163 := NB107_111.out
         have hnb164 := NB111_0.out
         have hnc164 := NB0_111.out
         have hcz165_0 : wc.cell? ⟨gb111, 0, none⟩ = some (.string (⟨#[115, 117, 99]⟩ : ByteArray)) := (Aa0 BK111.out 0).trans rfl
         have hcz165_1 : wc.cell? ⟨gb111, 1, none⟩ = some (.int .i64 1) := (Aa0 BK111.out 1).trans rfl
         have hfz165_0 := Aa1 BK111.out 0
         have hfz165_1 := Aa1 BK111.out 1
         go_wp2_with (first | ((with_reducible refine Ad2 (N := 51) rfl ?_); refine Kd.R_lit k90 _ 90 ?hg (N := 51) ?hd (xs := ([(⟨(⟨#[97]⟩ : ByteArray), 0⟩ : S90), (⟨(⟨#[98]⟩ : ByteArray), 0⟩ : S90), (⟨(⟨#[101]⟩ : ByteArray), 0⟩ : S90), (⟨(⟨#[109]⟩ : ByteArray), 2⟩ : S90), (⟨(⟨#[105]⟩ : ByteArray), 1⟩ : S90), (⟨(⟨#[115, 117, 99]⟩ : ByteArray), 1⟩ : S90)] : List (S90))) (inner := [.string (⟨#[97]⟩ : ByteArray), .int .i64 0, .string (⟨#[98]⟩ : ByteArray), .int .i64 0, .string (⟨#[101]⟩ : ByteArray), .int .i64 0, .string (⟨#[109]⟩ : ByteArray), .int .i64 2, .string (⟨#[105]⟩ : ByteArray), .int .i64 1, .string (⟨#[115, 117, 99]⟩ : ByteArray), .int .i64 1]) (ok := fun _ => True) (okp := fun _ => True) ?hr ?hp (fun _ hk => hk) trivial (Below.refl _ _) (Nat.le_refl _) (by simp) ?_; (case hd => rfl); (case hg => rfl); (case hr => first | (go_simp; done) | (go_simp; rfl)); (case hp => exact (Ad5.c2 (show Kd.M k90 _ _ _ (⟨(⟨#[97]⟩ : ByteArray), 0⟩ : S90) [.string (⟨#[97]⟩ : ByteArray), .int .i64 0] from (Af3 _ _ _ (⟨(⟨#[97]⟩ : ByteArray), 0⟩ : S90) )) (Ad5.c2 (show Kd.M k90 _ _ _ (⟨(⟨#[98]⟩ : ByteArray), 0⟩ : S90) [.string (⟨#[98]⟩ : ByteArray), .int .i64 0] from (Af3 _ _ _ (⟨(⟨#[98]⟩ : ByteArray), 0⟩ : S90) )) (Ad5.c2 (show Kd.M k90 _ _ _ (⟨(⟨#[101]⟩ : ByteArray), 0⟩ : S90) [.string (⟨#[101]⟩ : ByteArray), .int .i64 0] from (Af3 _ _ _ (⟨(⟨#[101]⟩ : ByteArray), 0⟩ : S90) )) (Ad5.c2 (show Kd.M k90 _ _ _ (⟨(⟨#[109]⟩ : ByteArray), 2⟩ : S90) [.string (⟨#[109]⟩ : ByteArray), .int .i64 2] from (Af3 _ _ _ (⟨(⟨#[109]⟩ : ByteArray), 2⟩ : S90) )) (Ad5.c2 (show Kd.M k90 _ _ _ (⟨(⟨#[105]⟩ : ByteArray), 1⟩ : S90) [.string (⟨#[105]⟩ : ByteArray), .int .i64 1] from (Af3 _ _ _ (⟨(⟨#[105]⟩ : ByteArray), 1⟩ : S90) )) (Ad5.c2 (show Kd.M k90 _ _ _ (⟨(⟨#[115, 117, 99]⟩ : ByteArray), 1⟩ : S90) [.string (⟨#[115, 117, 99]⟩ : ByteArray), .int .i64 1] from (Af3 _ _ _ (⟨(⟨#[115, 117, 99]⟩ : ByteArray), 1⟩ : S90) )) (Ad5.none _ _)))))))); intro v126 w166 ho167 hb hg_ hnew_; clear hg_ hnew_; (first | rw [← Ny125.out] at ho167 | (simp only [Int.reduceToNat] at ho167; rw [← Ny125.out] at ho167)); have HO127 := am (Kd.R_lower (Kd.R_newB (Kd.R_newB (Kd.R_newB (Kd.R_newB (Kd.R_newB (Kd.R_newB ho167 (bq BK108.out)) (bq BK109.out)) (bq BK110.out)) (bq BK111.out)) (bq BK112.out)) (bq BK113.out)) (Ab7 (w := w) (g := g) (row := none) (ks HK.out))); replace BK107 := bb BK107 hb; replace BK108 := bb BK108 hb; replace BK109 := bb BK109 hb; replace BK110 := bb BK110 hb; replace BK111 := bb BK111 hb; replace BK112 := bb BK112 hb; replace BK113 := bb BK113 hb; replace HK := am (Aa3.trans (ks HK.out) (Aa3.of_below hb g none) (.inl rfl)); replace HB := am (Ab8 (hsk HB.out (Aa2.ge HI0.out)) hb); replace HI0 := Aa2.bl HI0 hb; clear hb ho167; obtain ⟨Ao168, co168, rfl⟩ := Kd.R_slice HO127.out; have hnb169 := NB107_0.out; have hnc169 := NB0_107.out; have hcz170_0 : w166.cell? ⟨gb107, 0, none⟩ = some (.slice none 0 0) := (Aa0 BK107.out 0).trans rfl; have hfz170_0 := Aa1 BK107.out 0))
         refine bodyPost_ret (results_cell_row rfl _ _ gb107 26 #[.slice Ao168 y125.length co168] (0, 0) _ rfl (by refine bq ?_; refine Aa6 (cs := #[.slice none 0 0]) ?_ 0 _ rfl; refine bq ?_; exact BK107.out) Tryz.underlying26 rfl (by kernel_rfl)) rfl ?_
         exact ⟨_, er, rq (Kd.R_mono (Kd.R_far (p := ⟨gb107, 0, none⟩) (Kd.R_types HO127.out BK107.out (by decide)) (fun _ hk => hk.2) (.slice Ao168 y125.length co168)) (fun _ hk => trivial)), Aa2.q HI0.out, hsk HB.out (Aa2.ge HI0.out), ks HK.out⟩
        ·rw [if_neg c132] at H
         obtain ⟨c132b0, c132b1⟩ := bqf c132
         obtain ⟨y128, hy128⟩ : ∃ y_ : List (S90), y_ = (([(⟨(⟨#[97]⟩ : ByteArray), 0⟩ : S90)] : List (S90))) := ⟨_, rfl⟩
         replace H : (some (y128, t115)) = some (r1, r2) := by first | (rw [hy128]; with_reducible exact H) | (have H2_ := (Option.bind_some _ _).symm.trans H; rw [hy128]; with_reducible exact H2_) | (have H2_ := (Option.bind_some _ _).symm.trans H; with_reducible exact H2_) | with_reducible exact H | (rw [hy128]; exact H) | exact H
         have Ny128 := am hy128
         clear hy128
         simp only [Option.some.injEq, Prod.mk.injEq] at H
         obtain ⟨rfl, rfl⟩ := H
         have hnb171 := NB112_107.out
         have hnc171 := NB107_112.out
         have hnb172 := NB112_108.out
         have hnc172 := NB108_112.out
         have hnb173 := NB112_109.out
         have hnc173 := NB109_112.out
         have hnb174 := NB112_110.out
         have hnc174 := NB110_112.out
         have hnb175 := NB112_111.out
         have hnc175 := NB111_112.out
         have hnb176 := NB112_113.out
         have hnc176 := NB113_112.out
         have hnb177 := NB112_0.out
         have hnc177 := NB0_112.out
         have hcz178_0 : wc.cell? ⟨gb112, 0, none⟩ = some (.string (⟨#[97]⟩ : ByteArray)) := (Aa0 BK112.out 0).trans rfl
         have hcz178_1 : wc.cell? ⟨gb112, 1, none⟩ = some (.int .i64 0) := (Aa0 BK112.out 1).trans rfl
         have hfz178_0 := Aa1 BK112.out 0
         have hfz178_1 := Aa1 BK112.out 1
         go_wp2_with (first | ((with_reducible refine Ad2 (N := 54) rfl ?_); refine Kd.R_lit k90 _ 90 ?hg (N := 54) ?hd (xs := ([(⟨(⟨#[97]⟩ : ByteArray), 0⟩ : S90)] : List (S90))) (inner := [.string (⟨#[97]⟩ : ByteArray), .int .i64 0]) (ok := fun _ => True) (okp := fun _ => True) ?hr ?hp (fun _ hk => hk) trivial (Below.refl _ _) (Nat.le_refl _) (by simp) ?_; (case hd => rfl); (case hg => rfl); (case hr => first | (go_simp; done) | (go_simp; rfl)); (case hp => exact (Ad5.c2 (show Kd.M k90 _ _ _ (⟨(⟨#[97]⟩ : ByteArray), 0⟩ : S90) [.string (⟨#[97]⟩ : ByteArray), .int .i64 0] from (Af3 _ _ _ (⟨(⟨#[97]⟩ : ByteArray), 0⟩ : S90) )) (Ad5.none _ _))); intro v129 w179 ho180 hb hg_ hnew_; clear hg_ hnew_; (first | rw [← Ny128.out] at ho180 | (simp only [Int.reduceToNat] at ho180; rw [← Ny128.out] at ho180)); have HO130 := am (Kd.R_lower (Kd.R_newB (Kd.R_newB (Kd.R_newB (Kd.R_newB (Kd.R_newB (Kd.R_newB ho180 (bq BK108.out)) (bq BK109.out)) (bq BK110.out)) (bq BK111.out)) (bq BK112.out)) (bq BK113.out)) (Ab7 (w := w) (g := g) (row := none) (ks HK.out))); replace BK107 := bb BK107 hb; replace BK108 := bb BK108 hb; replace BK109 := bb BK109 hb; replace BK110 := bb BK110 hb; replace BK111 := bb BK111 hb; replace BK112 := bb BK112 hb; replace BK113 := bb BK113 hb; replace HK := am (Aa3.trans (ks HK.out) (Aa3.of_below hb g none) (.inl rfl)); replace HB := am (Ab8 (hsk HB.out (Aa2.ge HI0.out)) hb); replace HI0 := Aa2.bl HI0 hb; clear hb ho180; obtain ⟨Ao181, co181, rfl⟩ := Kd.R_slice HO130.out; have hnb182 := NB107_108.out; have hnc182 := NB108_107.out; have hnb183 := NB107_109.out; have hnc183 := NB109_107.out; have hnb184 := NB107_110.out; have hnc184 := NB110_107.out; have hnb185 := NB107_111.out; have hnc185 := NB111_107.out; have hnb186 := NB107_113.out; have hnc186 := NB113_107.out; have hnb187 := NB107_0.out; have hnc187 := NB0_107.out; have hcz188_0 : w179.cell? ⟨gb107, 0, none⟩ = some (.slice none 0 0) := (Aa0 BK107.out 0).trans rfl; have hfz188_0 := Aa1 BK107.out 0))
         refine bodyPost_ret (results_cell_row rfl _ _ gb107 26 #[.slice Ao181 y128.length co181] (0, 0) _ rfl (by refine bq ?_; refine Aa6 (cs := #[.slice none 0 0]) ?_ 0 _ rfl; refine bq ?_; exact BK107.out) Tryz.underlying26 rfl (by kernel_rfl)) rfl ?_
         exact ⟨_, er, rq (Kd.R_mono (Kd.R_far (p := ⟨gb107, 0, none⟩) (Kd.R_types HO130.out BK107.out (by decide)) (fun _ hk => hk.2) (.slice Ao181 y128.length co181)) (fun _ hk => trivial)), Aa2.q HI0.out, hsk HB.out (Aa2.ge HI0.out), ks HK.out⟩
def spec_l1Chance.f (s0_0 : List Int) (s0_1 : Int) (a1 : Int) : Option (Bool × Int) := (spec_l1Next.f s0_0 s0_1 a1).bind fun bt131 => (some ((bt131.1 == 0), bt131.2))
set_option maxHeartbeats 8000000 in
set_option maxRecDepth 100000 in
theorem spec_l1Chance.calls (g : Nat) (s0_0 : List Int) (s0_1 : Int) (a1 : Int) (r1 : Bool) (r2 : Int) (w0 w : World) (hI : Aa2 w0 w g s0_0 s0_1) (hB : Below w0.heap.size w0 w) (h : spec_l1Chance.f s0_0 s0_1 a1 = some (r1, r2)) :
  Calls Tryz.prog 55 #[.pointer (some ⟨g, 0, none⟩), .int .i64 a1] w fun e w' => e = .returned (.bool r1) ∧ Aa2 w0 w' g s0_0 r2 ∧ Below w0.heap.size w0 w' ∧ Aa3 w w' g none := by
 have HI0 := am hI
 have HK := am (Aa3.refl w g none)
 have HL := am hB.size
 clear hI
 have HW0 := am hB.size
 have HB := am hB
 clear hB
 have H : ((spec_l1Next.f s0_0 s0_1 a1).bind fun bt131 => (some ((bt131.1 == 0), bt131.2))) = some (r1, r2) := h
 clear h
 obtain ⟨⟨t131, t132⟩, A3, H⟩ := ob H
 try dsimp only at H
 simp only [Option.some.injEq, Prod.mk.injEq] at H
 obtain ⟨rfl, rfl⟩ := H
 go_enter Tryz.func55, Tryz.ntmps55
 go_wp2_with (first | (refine gl (some 7) Tryz.func56 rfl #[.pointer (some ⟨g, 0, none⟩), .int .i64 a1] ?_; refine (spec_l1Next.calls g s0_0 s0_1 a1 t131 t132 w0 _ (Aa2.q HI0.out) (hsk HB.out (Aa2.ge HI0.out)) A3.out).mono ?_; rintro e w4 ⟨rfl, hi, hb, hk⟩; refine ⟨_, rfl, ?_⟩; replace HK := am (Aa3.trans (kq HK.out) hk (.inl rfl)); replace HB := am (hb); replace HI0 := am (hi); (try clear hb); (try clear hk); (try clear hi)))
 go_ret
 exact ⟨er, Aa2.q HI0.out, hsk HB.out (Aa2.ge HI0.out), kq HK.out⟩
end Go.Proofs.YtbdpnkpienpnaaaGreatDoor.P
namespace Go.Proofs.YtbdpnkpienpnaaaGreatDoor.P
open Go.RowKit Go.Proofs.YtbdpnkpienpnaaaGreatDoorW.PrintWords Go.Proofs.YtbdpnkpienpnaaaGreatDoorW.PrintLast Go.Proofs.YtbdpnkpienpnaaaGreatDoorW.PrintMore
attribute [local go_sem] Ae7 Ae6 Af7 Af8 Ad8 Ad9 Ae2 Ae4   -- for this text's walks alone
set_option linter.unusedVariables false
set_option linter.unusedSimpArgs false
mutual
def spec_l2Name.j0 : Nat → ByteArray → Bool → Option (Bool)
 | 0, _, _ => none
 | k + 1, x0, x11 => if x11 = true then (some false) else (spec_l2Name.l0 k x0 0)
def spec_l2Name.l0 : Nat → ByteArray → Int → Option (Bool)
 | 0, _, _ => none
 | k + 1, x0, x3 => if x3 < (x0.size : Int) then (if 0 ≤ x3 then (if (bt x0 x3) < 97 then (some false) else (if (bt x0 x3) > 122 then (some false) else (spec_l2Name.l0 k x0 (wrap64 (x3 + 1))))) else (none)) else (some true)
end
def spec_l2Name.f (k : Nat) (a0 : ByteArray) : Option (Bool) := if (a0.size : Int) < 1 then (spec_l2Name.j0 k a0 true) else (spec_l2Name.j0 k a0 (decide ((a0.size : Int) > 3)))
set_option maxHeartbeats 8000000 in
set_option maxRecDepth 100000 in
theorem spec_l2Name.calls (k : Nat) (a0 : ByteArray) (r : Bool) (w : World) (h : spec_l2Name.f k a0 = some r) :
  Calls Tryz.prog 83 #[.string a0] w fun e w' => e = .returned (.bool r) ∧ Drawn0 w w' := by
 have H : (if (a0.size : Int) < 1 then (spec_l2Name.j0 k a0 true) else (spec_l2Name.j0 k a0 (decide ((a0.size : Int) > 3)))) = some r := h
 clear h
 have HC2 := am H
 clear H
 go_enter Tryz.func83, Tryz.ntmps83
 go_upto_region 1 with (fail)
 go_cut [11] (fun v11 wc => ∃ (kq : Nat) (x11_1 : Bool), v11 = .bool x11_1 ∧ Aside0 (spec_l2Name.j0 kq a0 x11_1 = some r) ∧ Aside0 (kq ≤ k) ∧ Drawn0 w wc)
 case first =>
  have H := HC2.out
  clear HC2
  by_cases c3 : (a0.size : Int) < 1
  ·rw [if_pos c3] at H
   have c3b0 : decide ((a0.size : Int) < 1) = true := decide_eq_true c3
   have c3b1 : decide (a0.size < 1) = true := decide_eq_true (by omega)
   clear c3
   (first | rw [c3b0] | (simp only [Ag7, Ah2]; rw [c3b0]) | skip)
   have H' := am H
   clear H
   go_wp2
   go_meet
   case rel => exact ⟨_, (true), et, H', ⟨by first | omega | exact Nat.le_refl _⟩, by repeat (first | exact Drawn0.refl _ | apply Drawn0.step)⟩
  ·rw [if_neg c3] at H
   have c3b0 : decide ((a0.size : Int) < 1) = false := decide_eq_false c3
   have c3b1 : decide (a0.size < 1) = false := decide_eq_false (by omega)
   clear c3
   (first | rw [c3b0] | (simp only [Ag7, Ah2]; rw [c3b0]) | skip)
   have H' := am H
   clear H
   go_wp2
   go_meet
   case rel => exact ⟨_, (decide ((a0.size : Int) > 3)), et, H', ⟨by first | omega | exact Nat.le_refl _⟩, by repeat (first | exact Drawn0.refl _ | apply Drawn0.step)⟩
 case rest =>
  clear HC2
  try clear c3; try clear c3b0; try clear c3b1
  obtain ⟨kq, x11_1, rfl, HA, HJ1, ⟨mc1, rfl⟩⟩ := hcut
  cases kq with
  | zero => exact absurd HA.out (by simp [spec_l2Name.j0])
  | succ kj1 =>
   have H := HA.out
   clear HA
   simp only [spec_l2Name.j0] at H
   by_cases c4 : x11_1 = true
   ·subst c4
    rw [if_pos rfl] at H
    obtain rfl := Option.some.inj H
    go_wp2
    go_ret
    exact ⟨et, by repeat (first | exact Drawn0.refl _ | apply Drawn0.step)⟩
   ·replace c4 := Bool.eq_false_iff.mpr c4
    subst c4
    rw [if_neg (show ¬ (false = true) by decide)] at H
    have H' := am H
    clear H
    go_wp2
    go_loopg [3] kj1 (fun kq v3 w' => ∃ (x3_2 : Int), v3 = .int .i64 x3_2 ∧ Aside0 (spec_l2Name.l0 kq a0 x3_2 = some r) ∧ Aside0 (kq ≤ kj1) ∧ Drawn0 w w')
    case atStart => exact ⟨(0), et, H', ⟨Nat.le_refl _⟩, by repeat (first | exact Drawn0.refl _ | apply Drawn0.step)⟩
    case round =>
     clear H'
     try clear c3; try clear c3b0; try clear c3b1; try clear c4
     obtain ⟨x3_2, rfl, HA, HK2, ⟨m2, rfl⟩⟩ := hrel
     cases gk with
     | zero => exact absurd HA.out (by simp [spec_l2Name.l0])
     | succ k2 =>
      have H := HA.out
      clear HA
      simp only [spec_l2Name.l0] at H
      by_cases c5 : x3_2 < (a0.size : Int)
      ·rw [if_pos c5] at H
       have c5b0 : decide (x3_2 < (a0.size : Int)) = true := decide_eq_true c5
       clear c5
       obtain ⟨c6b0, H⟩ := ife H
       by_cases c8 : (bt a0 x3_2) < 97
       ·rw [if_pos c8] at H
        have c8b0 : decide ((bt a0 x3_2) < 97) = true := decide_eq_true c8
        clear c8
        obtain rfl := Option.some.inj H
        have p7 : 0 ≤ (x3_2 : Int) := od
        have q7 : x3_2 < (a0.size : Int) := od
        have hx7 := Aw4 a0 x3_2
        replace p7 := eq_true p7
        replace q7 := eq_true q7
        go_wp2
        go_ret
        exact ⟨et, by repeat (first | exact Drawn0.refl _ | apply Drawn0.step)⟩
       ·rw [if_neg c8] at H
        have c8b0 : decide ((bt a0 x3_2) < 97) = false := decide_eq_false c8
        clear c8
        by_cases c10 : (bt a0 x3_2) > 122
        ·rw [if_pos c10] at H
         have c10b0 : decide (122 < (bt a0 x3_2)) = true := decide_eq_true c10
         clear c10
         obtain rfl := Option.some.inj H
         have p7 : 0 ≤ (x3_2 : Int) := od
         have q7 : x3_2 < (a0.size : Int) := od
         have hx7 := Aw4 a0 x3_2
         replace p7 := eq_true p7
         replace q7 := eq_true q7
         have p9 : 0 ≤ (x3_2 : Int) := od
         have q9 : x3_2 < (a0.size : Int) := od
         have hx9 := Aw4 a0 x3_2
         replace p9 := eq_true p9
         replace q9 := eq_true q9
         go_wp2
         go_ret
         exact ⟨et, by repeat (first | exact Drawn0.refl _ | apply Drawn0.step)⟩
        ·rw [if_neg c10] at H
         have c10b0 : decide (122 < (bt a0 x3_2)) = false := decide_eq_false c10
         clear c10
         have H' := am H
         clear H
         have p7 : 0 ≤ (x3_2 : Int) := od
         have q7 : x3_2 < (a0.size : Int) := od
         have hx7 := Aw4 a0 x3_2
         replace p7 := eq_true p7
         replace q7 := eq_true q7
         have p9 : 0 ≤ (x3_2 : Int) := od
         have q9 : x3_2 < (a0.size : Int) := od
         have hx9 := Aw4 a0 x3_2
         replace p9 := eq_true p9
         replace q9 := eq_true q9
         go_wp2
         go_roundg k2
         case measure => have := HJ1.out; have := HK2.out; omega
         case rel => exact ⟨(wrap64 (x3_2 + 1)), et, H', ⟨by have := HJ1.out; have := HK2.out; omega⟩, by repeat (first | exact Drawn0.refl _ | apply Drawn0.step)⟩
      ·rw [if_neg c5] at H
       have c5b0 : decide (x3_2 < (a0.size : Int)) = false := decide_eq_false c5
       clear c5
       obtain rfl := Option.some.inj H
       go_wp2
       go_ret
       exact ⟨et, by repeat (first | exact Drawn0.refl _ | apply Drawn0.step)⟩
def spec_l1In.f (a0 : Int) (a1 : Int) (a2 : Int) : Option (Bool) := if a0 ≥ a1 then (some (decide (a0 ≤ a2))) else (some false)
set_option maxHeartbeats 8000000 in
set_option maxRecDepth 100000 in
theorem spec_l1In.calls (a0 : Int) (a1 : Int) (a2 : Int) (r : Bool) (w : World) (h : spec_l1In.f a0 a1 a2 = some r) :
  Calls Tryz.prog 84 #[.int .i64 a0, .int .i64 a1, .int .i64 a2] w fun e w' => e = .returned (.bool r) ∧ Drawn0 w w' := by
 have H : (if a0 ≥ a1 then (some (decide (a0 ≤ a2))) else (some false)) = some r := h
 clear h
 by_cases c4 : a0 ≥ a1
 ·rw [if_pos c4] at H
  have c4b0 : decide (a1 ≤ a0) = true := decide_eq_true c4
  clear c4
  obtain rfl := Option.some.inj H
  go_enter Tryz.func84, Tryz.ntmps84
  go_wp2
  go_ret
  exact ⟨et, by repeat (first | exact Drawn0.refl _ | apply Drawn0.step)⟩
 ·rw [if_neg c4] at H
  have c4b0 : decide (a1 ≤ a0) = false := decide_eq_false c4
  clear c4
  obtain rfl := Option.some.inj H
  go_enter Tryz.func84, Tryz.ntmps84
  go_wp2
  go_ret
  exact ⟨et, by repeat (first | exact Drawn0.refl _ | apply Drawn0.step)⟩
end Go.Proofs.YtbdpnkpienpnaaaGreatDoor.P
