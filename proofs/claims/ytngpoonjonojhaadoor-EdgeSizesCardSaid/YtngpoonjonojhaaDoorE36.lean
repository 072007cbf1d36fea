/- Words and walks that the row leans on: WBs2, PlAwk. -/
import Derived.Test.YtngpoonjonojhaaDoorE24
import Derived.Test.YtngpoonjonojhaaDoorE32
import Derived.Test.YtngpoonjonojhaaDoorE35
set_option linter.all false
/-! Walks: the best pattern of a strip. -/
namespace Go.Proofs.YtngpoonjonojhaaDoor
open Go.RowKit Go.Proofs.YtngpoonjonojhaaDoorW.PrintWords Go.Proofs.YtngpoonjonojhaaDoorW.PrintLast
set_option linter.unusedVariables false
set_option maxHeartbeats 8000000 in
set_option maxRecDepth 100000 in
theorem ebest_calls (A : Option Addr) (c : Nat) (l : List Slc) (A' : Option Addr) (c' : Nat) (d : List Dft) (Aq : Option Addr) (cq : Nat) (ps : List Prod) (xa xb ya yb kerf trim pitch step chip dust fine : Int) (w : World)
    (hl : Kd.C kSlc w A l.length l) (hd : Kd.C kDft w A' d.length d) (hp : Kd.C kProd w Aq ps.length ps) (hn : ∀ i, i < ps.length → (rd_Prod ps i).name.size ≤ 9223372036854775807) (hc : ps.length ≤ cq)
    (hn0 : w.cell? ⟨0, 0, none⟩ = some (.int .i64 (-1))) (hn1 : w.cell? ⟨0, 1, none⟩ = some (.int .i64 (-1))) (hn2 : w.cell? ⟨0, 2, none⟩ = some (.int .i64 0)) :
    Calls Tryd.prog 28 #[.slice A l.length c, .slice A' d.length c', .slice Aq ps.length cq, .agg #[.int .i64 xa, .int .i64 xb, .int .i64 ya, .int .i64 yb], .agg #[.int .i64 kerf, .int .i64 trim, .int .i64 pitch, .int .i64 step], .agg #[.int .i64 chip, .int .i64 dust, .int .i64 fine]] w fun e w' => (∃ A2 c2, e = .returned (.tuple #[.slice A2 (edgeBest l d ps ⟨⟨xa, xb⟩, ⟨ya, yb⟩⟩ ⟨kerf, trim, pitch, step⟩ ⟨chip, dust, fine⟩).1.length c2, .int .i64 (edgeBest l d ps ⟨⟨xa, xb⟩, ⟨ya, yb⟩⟩ ⟨kerf, trim, pitch, step⟩ ⟨chip, dust, fine⟩).2.1, .int .i64 (edgeBest l d ps ⟨⟨xa, xb⟩, ⟨ya, yb⟩⟩ ⟨kerf, trim, pitch, step⟩ ⟨chip, dust, fine⟩).2.2]) ∧ (edgeBest l d ps ⟨⟨xa, xb⟩, ⟨ya, yb⟩⟩ ⟨kerf, trim, pitch, step⟩ ⟨chip, dust, fine⟩).1.length ≤ c2 ∧ ∀ W, Fr w.heap.size w' W → Kd.C kNd W A2 (edgeBest l d ps ⟨⟨xa, xb⟩, ⟨ya, yb⟩⟩ ⟨kerf, trim, pitch, step⟩ ⟨chip, dust, fine⟩).1.length (edgeBest l d ps ⟨⟨xa, xb⟩, ⟨ya, yb⟩⟩ ⟨kerf, trim, pitch, step⟩ ⟨chip, dust, fine⟩).1) ∧ Below w.heap.size w w' := by
  have HB := Aside0.mk (Below.refl w.heap.size w)
  have HL := Aside0.mk hl
  have HD := Aside0.mk hd
  have HP := Aside0.mk hp
  have HN := Aside0.mk hn
  have HC := Aside0.mk hc
  have HN0 := Aside0.mk hn0
  have HN1 := Aside0.mk hn1
  have HN2 := Aside0.mk hn2
  clear hl hd hp hn hc hn0 hn1 hn2
  obtain ⟨R, hR⟩ : ∃ R, R = edgeBest l d ps ⟨⟨xa, xb⟩, ⟨ya, yb⟩⟩ ⟨kerf, trim, pitch, step⟩ ⟨chip, dust, fine⟩ := ⟨_, rfl⟩
  rw [← hR]
  have HR := Aside0.mk hR
  clear hR
  go_enter Tryd.func28, Tryd.ntmps28
  go_wp2_with fail
  refine (line_calls _ _ l _ _ d _ _ ps _ _ _ _ _ _ _ _ _ _ _ _ ?c1 ?c2 ?c3 ?c4 ?c5).mono ?_
  case c1 => exact Kd.C_below HL.out BB
  case c2 => exact Kd.C_below HD.out BB
  case c3 => exact Kd.C_below HP.out BB
  case c4 => exact HN.out
  case c5 => exact HC.out
  rintro e w1 ⟨hor, hb1⟩
  obtain ⟨hB1, hb2⟩ := adv HB.out hb1
  have hr : w1.heap[w.heap.size]? = some (.cells #[.int .i64 xa, .int .i64 xb, .int .i64 ya, .int .i64 yb] 35 (0, 0)) := blk_below (by repeat (first | exact blk_newi _ (by simp) | refine blk_drewN ?_ _ | refine blk_drew ?_ | refine blk_alloc ?_ _)) hb1
  have hr_0 : w1.cell? ⟨w.heap.size, 0, none⟩ = some (.int .i64 xa) := (blk_cell hr 0).trans rfl
  have hr_1 : w1.cell? ⟨w.heap.size, 1, none⟩ = some (.int .i64 xb) := (blk_cell hr 1).trans rfl
  have hr_2 : w1.cell? ⟨w.heap.size, 2, none⟩ = some (.int .i64 ya) := (blk_cell hr 2).trans rfl
  have hr_3 : w1.cell? ⟨w.heap.size, 3, none⟩ = some (.int .i64 yb) := (blk_cell hr 3).trans rfl
  replace hr := Aside0.mk hr
  have hs : w1.heap[w.heap.size + 1]? = some (.cells #[.int .i64 kerf, .int .i64 trim, .int .i64 pitch, .int .i64 step] 37 (0, 0)) := blk_below (by repeat (first | exact blk_newi _ (by simp) | refine blk_drewN ?_ _ | refine blk_drew ?_ | refine blk_alloc ?_ _)) hb1
  have hs_0 : w1.cell? ⟨w.heap.size + 1, 0, none⟩ = some (.int .i64 kerf) := (blk_cell hs 0).trans rfl
  have hs_1 : w1.cell? ⟨w.heap.size + 1, 1, none⟩ = some (.int .i64 trim) := (blk_cell hs 1).trans rfl
  have hs_2 : w1.cell? ⟨w.heap.size + 1, 2, none⟩ = some (.int .i64 pitch) := (blk_cell hs 2).trans rfl
  have hs_3 : w1.cell? ⟨w.heap.size + 1, 3, none⟩ = some (.int .i64 step) := (blk_cell hs 3).trans rfl
  replace hs := Aside0.mk hs
  have ht : w1.heap[w.heap.size + 1 + 1]? = some (.cells #[.int .i64 chip, .int .i64 dust, .int .i64 fine] 39 (0, 0)) := blk_below (by repeat (first | exact blk_newi _ (by simp) | refine blk_drewN ?_ _ | refine blk_drew ?_ | refine blk_alloc ?_ _)) hb1
  have ht_0 : w1.cell? ⟨w.heap.size + 1 + 1, 0, none⟩ = some (.int .i64 chip) := (blk_cell ht 0).trans rfl
  have ht_1 : w1.cell? ⟨w.heap.size + 1 + 1, 1, none⟩ = some (.int .i64 dust) := (blk_cell ht 1).trans rfl
  have ht_2 : w1.cell? ⟨w.heap.size + 1 + 1, 2, none⟩ = some (.int .i64 fine) := (blk_cell ht 2).trans rfl
  replace ht := Aside0.mk ht
  replace HB := Aside0.mk hB1
  clear hb1 hB1 hb2
  clear hr_0 hr_1 hr_2 hr_3 hs_0 hs_1 hs_2 hs_3 ht_0 ht_1 ht_2
  rcases hor with ⟨he, rfl⟩ | ⟨he, cs, rfl, hln⟩
  · have F := Aside0.mk (show R = ([], 0, lineErr l d ps ⟨⟨xa, xb⟩, ⟨ya, yb⟩⟩ ⟨kerf, trim, pitch, step⟩ ⟨chip, dust, fine⟩) from HR.out.trans (if_pos he))
    have hbe : (lineErr l d ps ⟨⟨xa, xb⟩, ⟨ya, yb⟩⟩ ⟨kerf, trim, pitch, step⟩ ⟨chip, dust, fine⟩ != 0) = true := bne_iff_ne.2 he
    clear he
    go_wp2_with fail
    refine bodyPost_ret (by simp [results, Tryd.results28, go_sem]; rfl) rfl ⟨⟨none, 0, ?_, ?_, ?_⟩, below_alloc HB.out _⟩
    · rw [F.out]; rfl
    · rw [F.out]; exact Nat.le_refl _
    · rw [F.out]; exact fun _ _ => ⟨rfl, by simp, fun h => by simp at h⟩
  obtain ⟨A1, c1, A2, c2, A3, c3, A4, c4, rfl, hcc, hF⟩ := hln
  obtain ⟨K1, K2, K3, K4⟩ := hF _ (Fr.refl _ _)
  have ok := lineErr_ok he
  dsimp only at ok
  obtain ⟨o1, o2, k3, ⟨s1, s2, s3, s4, s5, t1, t2, t3, t4⟩, r1, r2, r3, r4, r5, r6⟩ := ok
  have F := Aside0.mk (HR.out.trans (if_neg (fun h => h he)))
  have K0 := Aside0.mk k3
  clear o1 o2 k3 he hcc hF HR
  obtain ⟨x, hx⟩ : ∃ x, x = lineOf l d ps ⟨⟨xa, xb⟩, ⟨ya, yb⟩⟩ ⟨kerf, trim, pitch, step⟩ ⟨chip, dust, fine⟩ := ⟨_, rfl⟩
  have HXL := Aside0.mk (show x.len = xb - xa by rw [hx]; rfl)
  have HXS := Aside0.mk (show x.sizes = widthsOf ps (yb - ya) by rw [hx]; rfl)
  rw [← hx] at K1 K2 K3 K4 F ⊢
  have HK1 := Aside0.mk K1
  have HK2 := Aside0.mk K2
  have HK3 := Aside0.mk K3
  have HK4 := Aside0.mk K4
  clear hx K1 K2 K3 K4
  have HWE := Aside0.mk (show widthsOf ps (yb - ya) = widthsTo ps (yb - ya) ps.length from if_pos K0.out)
  have HPE := Aside0.mk (show prodsOf ps (yb - ya) = prodsTo ps (yb - ya) ps.length from if_pos K0.out)
  have hsl : x.sizes.length ≤ 16 := by rw [HXS.out, HWE.out]; have := widthsTo_len ps (yb - ya) ps.length; have := catCheck_len K0.out; omega
  have HSL := Aside0.mk (show x.sizes.length = (prodsOf ps (yb - ya)).length by rw [HXS.out, HWE.out, HPE.out, prodsTo_len])
  have HSZ : Aside0 (∀ i : Nat, i < x.sizes.length → 0 ≤ rdI x.sizes i ∧ rdI x.sizes i ≤ 2000) := ⟨fun i hi => by rw [HXS.out, HWE.out] at hi ⊢; exact widthsTo_bound _ _ _ _ (rdI_mem hi)⟩
  have hx1 : 0 ≤ x.len ∧ x.len ≤ 1200 := by rw [HXL.out]; omega
  obtain ⟨hx1, hx2⟩ := hx1
  go_upto_region 4 with (fail)
  have HX2 := Aside0.mk (blk_new w1 (.cells #[.int .i64 x.len, .int .i64 x.kerf, .int .i64 x.pitch, .slice A1 x.sizes.length c1, .slice A2 x.gain.length c2, .slice A3 x.chip.length c3, .slice A4 x.dust.length c4] 64))
  have HR2 := Aside0.mk (blk_alloc hr.out (.cells #[.int .i64 x.len, .int .i64 x.kerf, .int .i64 x.pitch, .slice A1 x.sizes.length c1, .slice A2 x.gain.length c2, .slice A3 x.chip.length c3, .slice A4 x.dust.length c4] 64))
  have HS2 := Aside0.mk (blk_alloc hs.out (.cells #[.int .i64 x.len, .int .i64 x.kerf, .int .i64 x.pitch, .slice A1 x.sizes.length c1, .slice A2 x.gain.length c2, .slice A3 x.chip.length c3, .slice A4 x.dust.length c4] 64))
  have HB2 := Aside0.mk (below_alloc HB.out (.cells #[.int .i64 x.len, .int .i64 x.kerf, .int .i64 x.pitch, .slice A1 x.sizes.length c1, .slice A2 x.gain.length c2, .slice A3 x.chip.length c3, .slice A4 x.dust.length c4] 64))
  have HK12 := Aside0.mk (Kd.C_below HK1.out (below_alloc (Below.refl _ _) (.cells #[.int .i64 x.len, .int .i64 x.kerf, .int .i64 x.pitch, .slice A1 x.sizes.length c1, .slice A2 x.gain.length c2, .slice A3 x.chip.length c3, .slice A4 x.dust.length c4] 64)))
  have HK22 := Aside0.mk (Kd.C_below HK2.out (below_alloc (Below.refl _ _) (.cells #[.int .i64 x.len, .int .i64 x.kerf, .int .i64 x.pitch, .slice A1 x.sizes.length c1, .slice A2 x.gain.length c2, .slice A3 x.chip.length c3, .slice A4 x.dust.length c4] 64)))
  have HK32 := Aside0.mk (Kd.C_below HK3.out (below_alloc (Below.refl _ _) (.cells #[.int .i64 x.len, .int .i64 x.kerf, .int .i64 x.pitch, .slice A1 x.sizes.length c1, .slice A2 x.gain.length c2, .slice A3 x.chip.length c3, .slice A4 x.dust.length c4] 64)))
  have HK42 := Aside0.mk (Kd.C_below HK4.out (below_alloc (Below.refl _ _) (.cells #[.int .i64 x.len, .int .i64 x.kerf, .int .i64 x.pitch, .slice A1 x.sizes.length c1, .slice A2 x.gain.length c2, .slice A3 x.chip.length c3, .slice A4 x.dust.length c4] 64)))
  clear HK1 HK2 HK3 HK4 hr hs ht HB
  generalize w1.alloc (.cells #[.int .i64 x.len, .int .i64 x.kerf, .int .i64 x.pitch, .slice A1 x.sizes.length c1, .slice A2 x.gain.length c2, .slice A3 x.chip.length c3, .slice A4 x.dust.length c4] 64) = w2 at *
  generalize w1.heap.size = gl at *
  have hc0 : w2.cell? ⟨gl, 0, none⟩ = some (.int .i64 x.len) := (blk_cell HX2.out 0).trans rfl
  have hc1 : w2.cell? ⟨gl, 1, none⟩ = some (.int .i64 x.kerf) := (blk_cell HX2.out 1).trans rfl
  have hc2 : w2.cell? ⟨gl, 2, none⟩ = some (.int .i64 x.pitch) := (blk_cell HX2.out 2).trans rfl
  have hc3 : w2.cell? ⟨gl, 3, none⟩ = some (.slice A1 x.sizes.length c1) := (blk_cell HX2.out 3).trans rfl
  have hc4 : w2.cell? ⟨gl, 4, none⟩ = some (.slice A2 x.gain.length c2) := (blk_cell HX2.out 4).trans rfl
  have hc5 : w2.cell? ⟨gl, 5, none⟩ = some (.slice A3 x.chip.length c3) := (blk_cell HX2.out 5).trans rfl
  have hc6 : w2.cell? ⟨gl, 6, none⟩ = some (.slice A4 x.dust.length c4) := (blk_cell HX2.out 6).trans rfl
  go_wp2_with fail
  refine (cbest_calls x _ _ _ _ _ _ _ _ _ ?c1 ?c2 ?c3 ?c4 ?c5 ?c6 ?c7 ?c8).mono ?_
  case c1 => exact HK12.out
  case c2 => exact HK22.out
  case c3 => exact HK32.out
  case c4 => exact HK42.out
  case c5 => omega
  case c6 => exact pw_cell_below HB2.out HN0.out
  case c7 => exact pw_cell_below HB2.out HN1.out
  case c8 => exact pw_cell_below HB2.out HN2.out
  rintro e w3 ⟨⟨A17, c17, rfl, hpl, hpc⟩, hb3⟩
  clear hc0 hc1 hc2 hc3 hc4 hc5 hc6
  have HPI := Aside0.mk (bestPcs_in x)
  obtain ⟨⟨pcs, val, er⟩, hq⟩ : ∃ q, q = bestPcs x := ⟨_, rfl⟩
  rw [← hq] at hpl hpc HPI F ⊢
  dsimp only at hpl hpc HPI F ⊢
  have HPC := Aside0.mk hpc
  have HX3 := Aside0.mk (blk_below HX2.out hb3)
  have HR3 := Aside0.mk (blk_below HR2.out hb3)
  have HS3 := Aside0.mk (blk_below HS2.out hb3)
  have HK13 := Aside0.mk (Kd.C_below HK12.out hb3)
  have HB3 := Aside0.mk (below_then HB2.out HB2.out.size hb3)
  clear hpl hpc hb3 hq HX2 HR2 HS2 HK12 HK22 HK32 HK42 HB2
  by_cases he : er = 0
  rotate_left
  · have F2 := Aside0.mk (show R = ([], 0, er) from F.out.trans (if_pos he))
    have hbe : (er != 0) = true := bne_iff_ne.2 he
    clear he
    go_wp2_with fail
    refine bodyPost_ret (by simp [results, Tryd.results28, go_sem]; rfl) rfl ⟨⟨none, 0, ?_, ?_, ?_⟩, HB3.out⟩
    · rw [F2.out]; rfl
    · rw [F2.out]; exact Nat.le_refl _
    · rw [F2.out]; exact fun _ _ => ⟨rfl, by simp, fun h => by simp at h⟩
  have F2 := Aside0.mk (F.out.trans (if_neg (fun h => h he)))
  subst he
  clear F
  have hr2 : w3.cell? ⟨w.heap.size, 2, none⟩ = some (.int .i64 ya) := (blk_cell HR3.out 2).trans rfl
  have hr3 : w3.cell? ⟨w.heap.size, 3, none⟩ = some (.int .i64 yb) := (blk_cell HR3.out 3).trans rfl
  go_wp2_with fail
  refine (sizes_calls _ _ ps _ _ HN.out (Kd.C_below HP.out HB3.out) HC.out).mono ?_
  rintro e w4 ⟨⟨v, v', rfl, ho1, ho2⟩, hb4⟩
  obtain ⟨Ap, cp, rfl, hcp, hPC⟩ := own_C ho2
  have HPR := Aside0.mk hPC
  have HX4 := Aside0.mk (blk_below HX3.out hb4)
  have HR4 := Aside0.mk (blk_below HR3.out hb4)
  have HS4 := Aside0.mk (blk_below HS3.out hb4)
  have HK14 := Aside0.mk (Kd.C_below HK13.out hb4)
  have HPC4 := Aside0.mk (Kd.C_below HPC.out hb4)
  have HB4 := Aside0.mk (below_then HB3.out HB3.out.size hb4)
  clear ho1 ho2 hPC hb4 hcp HX3 HR3 HS3 HK13 HPC HB3 hr2 hr3
  go_wp2_with fail
  refine bst_loop x A1 c1 A2 c2 A3 c3 A4 c4 Ap cp (prodsOf ps (yb - ya)) A17 c17 pcs xa xb ya yb w.heap.size gl r3 (by omega) HPI.out.2 ⟨HPI.out.1⟩ (by omega) HSZ HSL w4 HR4 HX4 HK14 HPR HPC4 _ _ _ _ _ _ _ _ _ _ _ _ _ _ _ _ _ _ _ _ _ _ _ _ _ _ _ _ _ _ _ _ _ _ _ _ _ _ _ _ _ _ _ _ _ _ _ _ _ _ _ _ _ _ _ _ _ _ _ _ _ _ _ _ _ _ _ _ _ _ _ _ _ _ _ _ _ _ _ _ _ _ _ _ _ _ _ _ _ _ _ _ _ _ _ _ _ _ _ _ _ _ _ _ _ ?_
  intro y24 y25 y63 y64 y65 y66 y67 y68 y69 y70 y71 y72 y73 y74 y75 y76 y77 y78 y79 y80 y81 y82 y83 y84 y85 y86 y87 y88 y89 y90 y91 y92 y93 y94 y95 y96 y97 v21 v22 w5 hb5 hv21 hv22
  obtain ⟨A21, c21, rfl⟩ := Kd.R_slice hv21
  obtain ⟨A22, c22, rfl⟩ := Kd.R_slice hv22
  have q1 := Kd.R_reads' hv21
  have q2 := Kd.R_reads' hv22
  have Q1 := Aside0.mk q1.2.2
  have Q2 := Aside0.mk q2.2.2
  have HB5 := Aside0.mk (below_then HB4.out HB4.out.size hb5)
  have HR5 := Aside0.mk (blk_below HR4.out hb5)
  have HS5 := Aside0.mk (blk_below HS4.out hb5)
  clear q1 q2 hv21 hv22 hb5 HX4 HR4 HS4 HK14 HPC4 HB4 HPR
  have hr0 : w5.cell? ⟨w.heap.size, 0, none⟩ = some (.int .i64 xa) := (blk_cell HR5.out 0).trans rfl
  have hr1 : w5.cell? ⟨w.heap.size, 1, none⟩ = some (.int .i64 xb) := (blk_cell HR5.out 1).trans rfl
  have hr2 : w5.cell? ⟨w.heap.size, 2, none⟩ = some (.int .i64 ya) := (blk_cell HR5.out 2).trans rfl
  have hr3 : w5.cell? ⟨w.heap.size, 3, none⟩ = some (.int .i64 yb) := (blk_cell HR5.out 3).trans rfl
  have hs0 : w5.cell? ⟨w.heap.size + 1, 0, none⟩ = some (.int .i64 kerf) := (blk_cell HS5.out 0).trans rfl
  go_wp2_with fail
  refine (row_calls _ _ (pcSpans xa x.sizes pcs) _ _ (pcParts (prodsOf ps (yb - ya)) pcs) xa xb ya yb kerf r1 r3 r4 r2 r5 r6 s1 s2 ?c1 ?c2 ?c3 ?c4 _ Q1.out Q2.out).mono ?_
  case c1 => rw [pcSpans_len, pcParts_len]
  case c2 => rw [pcSpans_len]; have := HPI.out.2; omega
  case c3 =>
    intro i hi
    rw [pcSpans_len] at hi
    rw [pcSpans_rd hi]
    obtain ⟨i1, i2, i3, i4⟩ := HPI.out.1 _ (rd_Pc_mem hi)
    have e := HSZ.out (rd_Pc pcs (i : Nat)).size.toNat (by omega)
    rw [show (((rd_Pc pcs (i : Nat)).size.toNat : Nat) : Int) = (rd_Pc pcs (i : Nat)).size by omega] at e
    dsimp only
    omega
  case c4 =>
    intro i hi
    rw [pcSpans_len] at hi
    rw [pcParts_rd hi]
    simp
  rintro e w6 ⟨⟨A26, c26, rfl, hl6, hC6⟩, hb6⟩
  have HB6 := Aside0.mk (below_then HB5.out HB5.out.size hb6)
  rw [HXS.out] at hl6 hC6 ⊢
  obtain ⟨⟨nd, er⟩, hq⟩ : ∃ q, q = rowNodes xa xb 2 kerf (pcSpans xa (widthsOf ps (yb - ya)) pcs) (pcParts (prodsOf ps (yb - ya)) pcs) := ⟨_, rfl⟩
  have F3 := F2.out
  unfold pcRow at F3
  dsimp only at F3
  rw [← hq] at hl6 hC6 F3 ⊢
  dsimp only at hl6 hC6 F3 ⊢
  have F := Aside0.mk F3
  have HL6 := Aside0.mk hl6
  have HC6 := Aside0.mk (fun W (hf : Fr w.heap.size w6 W) => hC6 W (Fr.mono hf HB5.out.size))
  clear hq F2 F3 hl6 hC6 hb6 hr0 hr1 hr2 hr3 hs0
  by_cases he : er = 0
  rotate_left
  · have F2 := Aside0.mk (show R = ([], 0, er) from F.out.trans (if_pos he))
    have hbe : (er != 0) = true := bne_iff_ne.2 he
    clear he
    go_wp2_with fail
    refine bodyPost_ret (by simp [results, Tryd.results28, go_sem]; rfl) rfl ⟨⟨none, 0, ?_, ?_, ?_⟩, HB6.out⟩
    · rw [F2.out]; rfl
    · rw [F2.out]; exact Nat.le_refl _
    · rw [F2.out]; exact fun _ _ => ⟨rfl, by simp, fun h => by simp at h⟩
  have F2 := Aside0.mk (show R = (nd, val, 0) from F.out.trans (if_neg (fun h => h he)))
  subst he
  clear F
  go_wp2_with fail
  refine bodyPost_ret (by simp [results, Tryd.results28, go_sem]; rfl) rfl ⟨⟨A26, c26, ?_, ?_, ?_⟩, HB6.out⟩
  · rw [F2.out]
  · rw [F2.out]; exact HL6.out
  · rw [F2.out]; exact HC6.out
end Go.Proofs.YtngpoonjonojhaaDoor
/-! Plain laws: the examples of the chapter, reckoned by the kernel. -/
namespace Go.Proofs.YtngpoonjonojhaaDoor
open Go.RowKit
instance : DecidableEq Nd := fun a b => decidable_of_iff (a.kind = b.kind ∧ a.pos = b.pos) ⟨fun h => by cases a; cases b; simp_all, fun h => by subst h; exact ⟨rfl, rfl⟩⟩
def sRows : List Sp := List.replicate 20 ⟨-100, 100⟩
def sLog : List Slc := [⟨3000, ⟨-10, sRows⟩⟩]
def sName : ByteArray := ⟨#[112, 108, 97, 110, 107]⟩
def sPr : List Prod := [⟨sName, 40, 100, 50, 0, [2000], [70]⟩]
def sLine : Ln := lineOf sLog [] sPr ⟨⟨-100, 10⟩, ⟨0, 42⟩⟩ ⟨4, 5, 5, 500⟩ ⟨0, 0, 0⟩
theorem s_err : lineErr sLog [] sPr ⟨⟨-100, 10⟩, ⟨0, 42⟩⟩ ⟨4, 5, 5, 500⟩ ⟨0, 0, 0⟩ = 0 := by decide +kernel
theorem s_gain : sLine.gain.length = 1 ∧ (rd_L2 sLine.gain 0).length = 6 ∧ rdI (rd_L2 sLine.gain 0) 5 = 70000000 ∧ rdI (rd_L2 sLine.gain 0) 4 = -1 := by decide +kernel
theorem s_len : sLine.len = 110 := by decide +kernel
theorem s_best : edgeBest sLog [] sPr ⟨⟨-100, 10⟩, ⟨0, 42⟩⟩ ⟨4, 5, 5, 500⟩ ⟨0, 0, 0⟩ = ([⟨2, 5⟩, ⟨1, 0⟩, ⟨0, 0⟩], 70000000, 0) := by decide +kernel
theorem s_best1 : (edgeBest sLog [] sPr ⟨⟨-100, 10⟩, ⟨0, 42⟩⟩ ⟨4, 5, 5, 500⟩ ⟨1, 0, 0⟩).2 = (74513950, 0) := by decide +kernel
theorem s_sizes : widthsOf sPr 42 = [105] ∧ prodsOf sPr 42 = [0] := by decide +kernel
end Go.Proofs.YtngpoonjonojhaaDoor
