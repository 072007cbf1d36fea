/- Walks: the reference: the check of a catalog. -/
import Derived.Test.YtngpoonjonojhaaDoorE40
import Derived.Test.YtngpoonjonojhaaDoorE12
set_option linter.all false
namespace Go.Proofs.YtngpoonjonojhaaDoor
open Go.RowKit Go.Proofs.YtngpoonjonojhaaDoorW.PrintWords Go.Proofs.YtngpoonjonojhaaDoorW.PrintLast
set_option linter.unusedVariables false

set_option maxHeartbeats 4000000 in
set_option maxRecDepth 100000 in
theorem rcat_calls (A : Option Addr) (c : Nat) (l : List Prod) (w : World) (hn : ∀ i, i < l.length → (rd_Prod l i).name.size ≤ 9223372036854775807) (hr : Kd.C kProd w A l.length l) (hc : l.length ≤ c) :
    Calls Tryd.prog 25 #[.slice A l.length c] w fun e w' => e = .returned (.int .i64 (catCheck l)) ∧ Below w.heap.size w w' := by
  have HB := Aside0.mk (Below.refl w.heap.size w)
  have HR := Aside0.mk hr
  have HN := Aside0.mk hn
  clear hr hn hc
  by_cases h1 : 16 < (l.length : Int)
  · have HF := Aside0.mk (show catCheck l = 4 from if_pos (by omega))
    go_enter Tryd.func25, Tryd.ntmps25
    go_wp2
    go_ret
    exact ⟨ri HF.out.symm, HB.out⟩
  have HF := Aside0.mk (show catCheck l = firstErr (prodErr1 l) l.length from if_neg (by omega))
  have hb1 : (l.length : Int) ≤ 16 := by omega
  clear h1
  go_enter Tryd.func25, Tryd.ntmps25
  go_wp2
  go_loopw [3] (fun i wr => ∃ k : Nat, k ≤ l.length ∧ i = .int .i64 k ∧ Aside0 (firstErr (prodErr1 l) k = 0) ∧ Aside0 (Below w.heap.size w wr)) (fun i _ => l.length - (intOf i).toNat)
  case atStart => exact ⟨0, by omega, rfl, ⟨rfl⟩, HB⟩
  case round =>
    clear HB
    obtain ⟨k, hk, rfl, HA, HB⟩ := hrel
    by_cases hlt : k < l.length
    · obtain ⟨ad, A5, c5, A6, c6, rfl, hx0, hx1, hx2, hx3, hx4, hx5, hx6, hl5, hr5, hl6, hr6⟩ := at_Prod (Kd.C_below HR.out HB.out) k (by omega) (by omega)
      simp only [Int.toNat_natCast] at hx0 hx1 hx2 hx3 hx4 hx5 hx6
      have H5 := Aside0.mk hr5
      have H6 := Aside0.mk hr6
      clear hr5 hr6 hl5 hl6
      have HS := Aside0.mk (show prodErr1 l k = if isName (rd_Prod l k).name = false then 6 else if hasName l k (rd_Prod l k).name then 7
        else if sized (rd_Prod l k).thick (rd_Prod l k).width (rd_Prod l k).allow (rd_Prod l k).wane = false then 9 else lenErr (rd_Prod l k).lengths (rd_Prod l k).prices from rfl)
      go_upto_region 7 with (fail)
      have HV0 := Aside0.mk (blk_new wr (.cells #[.string (rd_Prod l k).name, .int .i64 (rd_Prod l k).thick, .int .i64 (rd_Prod l k).width, .int .i64 (rd_Prod l k).allow, .int .i64 (rd_Prod l k).wane, .slice A5 (rd_Prod l k).lengths.length c5, .slice A6 (rd_Prod l k).prices.length c6] 43))
      have HB0 := Aside0.mk (below_alloc HB.out (.cells #[.string (rd_Prod l k).name, .int .i64 (rd_Prod l k).thick, .int .i64 (rd_Prod l k).width, .int .i64 (rd_Prod l k).allow, .int .i64 (rd_Prod l k).wane, .slice A5 (rd_Prod l k).lengths.length c5, .slice A6 (rd_Prod l k).prices.length c6] 43))
      have HD0 := Aside0.mk (below_alloc (Below.refl wr.heap.size wr) (.cells #[.string (rd_Prod l k).name, .int .i64 (rd_Prod l k).thick, .int .i64 (rd_Prod l k).width, .int .i64 (rd_Prod l k).allow, .int .i64 (rd_Prod l k).wane, .slice A5 (rd_Prod l k).lengths.length c5, .slice A6 (rd_Prod l k).prices.length c6] 43))
      clear hx0 hx1 hx2 hx3 hx4 hx5 hx6
      generalize wr.alloc (.cells #[.string (rd_Prod l k).name, .int .i64 (rd_Prod l k).thick, .int .i64 (rd_Prod l k).width, .int .i64 (rd_Prod l k).allow, .int .i64 (rd_Prod l k).wane, .slice A5 (rd_Prod l k).lengths.length c5, .slice A6 (rd_Prod l k).prices.length c6] 43) = W1 at *
      have HD00 := HD0.out
      clear HD0
      have HD0 := Aside0.mk HD00
      clear HD00
      obtain ⟨gp, hgp⟩ : ∃ gp, gp = wr.heap.size := ⟨_, rfl⟩
      rw [← hgp] at HV0
      rw [← hgp]
      clear hgp
      have hv0 : W1.cell? ⟨gp, 0, none⟩ = some (.string (rd_Prod l k).name) := (blk_cell HV0.out 0).trans rfl
      go_wp2_with fail
      refine (rname_calls _ (HN.out k hlt) _).mono ?_
      rintro e w1 ⟨rfl, hb1'⟩
      have HV := Aside0.mk (blk_below HV0.out hb1')
      have HB1 := Aside0.mk (below_then HB0.out HB0.out.size hb1')
      have HD1 := Aside0.mk (below_then HD0.out HD0.out.size hb1')
      have H51 := Aside0.mk (Kd.C_below H5.out HD1.out)
      have H61 := Aside0.mk (Kd.C_below H6.out HD1.out)
      clear hb1' hv0 HV0 HB0 HD0 HD1 H5 H6
      rcases g0 : isName (rd_Prod l k).name with _ | _
      · have e := HS.out.trans (if_pos g0)
        have HE := Aside0.mk ((HF.out.trans (firstErr_found HA.out (by rw [e]; decide) hlt)).trans e)
        clear g0 e
        go_wp2
        go_ret
        exact ⟨ri HE.out.symm, HB1.out⟩
      have HS1 := Aside0.mk (HS.out.trans (if_neg (by rw [g0]; simp)))
      clear g0 HS
      go_wp2_with fail
      go_loopw [5] (fun i wq => ∃ j : Nat, j ≤ k ∧ i = .int .i64 j ∧ Aside0 (hasName l j (rd_Prod l k).name = false) ∧ Aside0 (Below w1.heap.size w1 wq)) (fun i _ => k - (intOf i).toNat)
      case atStart => exact ⟨0, by omega, rfl, ⟨rfl⟩, ⟨Below.refl _ _⟩⟩
      case round =>
        obtain ⟨j, hj, rfl, HJ, HD⟩ := hrel
        have HBq := Aside0.mk (below_then HB1.out HB1.out.size HD.out)
        have HVq := Aside0.mk (blk_below HV.out HD.out)
        by_cases hlj : j < k
        · obtain ⟨ad', A5', c5', A6', c6', e', hy0, hy1, hy2, hy3, hy4, hy5, hy6, hy⟩ := at_Prod (Kd.C_below HR.out HBq.out) j (by omega) (by omega)
          cases e'
          simp only [Int.toNat_natCast] at hy0
          clear hy hy1 hy2 hy3 hy4 hy5 hy6
          have hv0 := (blk_cell HVq.out 0).trans rfl
          by_cases hq : (rd_Prod l j).name.toList = (rd_Prod l k).name.toList
          · have HE0 := Aside0.mk (show hasName l k (rd_Prod l k).name = true from by
              unfold hasName
              exact any_found (z := zProd) (k := j) (by rw [List.length_take]; omega) (by rw [show (l.take k).getD j zProd = rd_Prod l j by unfold rd_Prod; rw [List.getD_eq_getElem?_getD, List.getD_eq_getElem?_getD, List.getElem?_take, if_pos hlj]; rfl]; exact beq_iff_eq.2 hq))
            have e := HS1.out.trans (if_pos HE0.out)
            have HE := Aside0.mk ((HF.out.trans (firstErr_found HA.out (by rw [e]; decide) hlt)).trans e)
            clear e
            go_upto_region 12 with (fail)
            go_quiet (fail)
            go_wp2
            go_ret
            exact ⟨ri HE.out.symm, by have h := HBq.out; exact BB⟩
          · have hq1 : ((rd_Prod l j).name.toList == (rd_Prod l k).name.toList) = false := beq_eq_false_iff_ne.2 hq
            have HJ1 := Aside0.mk (show hasName l (j + 1) (rd_Prod l k).name = false from any_take (z := zProd) (by omega) HJ.out hq1)
            clear hq
            go_upto_region 12 with (fail)
            go_quiet (fail)
            go_wp2
            go_roundw
            case rel => exact ⟨j + 1, by omega, by go_num, HJ1, ⟨by have h := HD.out; exact BB⟩⟩
            case measure => simp [intOf]; omega
        · obtain rfl : j = k := by omega
          have HS2 := Aside0.mk (HS1.out.trans (if_neg (by rw [HJ.out]; simp)))
          clear HS1 HV
          have hv0 : wr.cell? ⟨gp, 0, none⟩ = some (.string (rd_Prod l j).name) := (blk_cell HVq.out 0).trans rfl
          have hv1 : wr.cell? ⟨gp, 1, none⟩ = some (.int .i64 (rd_Prod l j).thick) := (blk_cell HVq.out 1).trans rfl
          have hv2 : wr.cell? ⟨gp, 2, none⟩ = some (.int .i64 (rd_Prod l j).width) := (blk_cell HVq.out 2).trans rfl
          have hv3 : wr.cell? ⟨gp, 3, none⟩ = some (.int .i64 (rd_Prod l j).allow) := (blk_cell HVq.out 3).trans rfl
          have hv4 : wr.cell? ⟨gp, 4, none⟩ = some (.int .i64 (rd_Prod l j).wane) := (blk_cell HVq.out 4).trans rfl
          have hv5 : wr.cell? ⟨gp, 5, none⟩ = some (.slice A5 (rd_Prod l j).lengths.length c5) := (blk_cell HVq.out 5).trans rfl
          have hv6 : wr.cell? ⟨gp, 6, none⟩ = some (.slice A6 (rd_Prod l j).prices.length c6) := (blk_cell HVq.out 6).trans rfl
          have HSZ := Aside0.mk (show sized (rd_Prod l j).thick (rd_Prod l j).width (rd_Prod l j).allow (rd_Prod l j).wane = (decide (5 ≤ (rd_Prod l j).thick) && decide ((rd_Prod l j).thick ≤ 300) && decide ((rd_Prod l j).thick ≤ (rd_Prod l j).width) && decide ((rd_Prod l j).width ≤ 600) && decide (0 ≤ (rd_Prod l j).allow) && decide ((rd_Prod l j).allow ≤ 200) && decide (0 ≤ (rd_Prod l j).wane) && decide ((rd_Prod l j).wane ≤ 1000) && decide (greenW (rd_Prod l j).thick (rd_Prod l j).width (rd_Prod l j).allow ≤ 600)) from rfl)
          by_cases h : 5 ≤ (rd_Prod l j).thick ∧ (rd_Prod l j).thick ≤ 300 ∧ (rd_Prod l j).thick ≤ (rd_Prod l j).width ∧ (rd_Prod l j).width ≤ 600 ∧ 0 ≤ (rd_Prod l j).allow ∧ (rd_Prod l j).allow ≤ 200 ∧ 0 ≤ (rd_Prod l j).wane ∧ (rd_Prod l j).wane ≤ 1000
          rotate_left
          · have HH := Aside0.mk h
            have e := HS2.out.trans (if_pos (by
              rw [HSZ.out]
              cases hz : (decide (5 ≤ (rd_Prod l j).thick) && decide ((rd_Prod l j).thick ≤ 300) && decide ((rd_Prod l j).thick ≤ (rd_Prod l j).width) && decide ((rd_Prod l j).width ≤ 600) && decide (0 ≤ (rd_Prod l j).allow) && decide ((rd_Prod l j).allow ≤ 200) && decide (0 ≤ (rd_Prod l j).wane) && decide ((rd_Prod l j).wane ≤ 1000)) with
              | false => rfl
              | true => simp only [Bool.and_eq_true, decide_eq_true_eq] at hz; exact absurd (by omega) h))
            have HE := Aside0.mk ((HF.out.trans (firstErr_found HA.out (by rw [e]; decide) hlt)).trans e)
            clear e h
            go_wp2_with fail
            all_goals try (go_ret; exact ⟨ri HE.out.symm, HBq.out⟩)
            all_goals (exfalso; have h := HH.out; omega)
          obtain ⟨a1, a2, a3, a4, a5, a6, a7, a8⟩ := h
          have HSZ1 := Aside0.mk (show sized (rd_Prod l j).thick (rd_Prod l j).width (rd_Prod l j).allow (rd_Prod l j).wane = decide (greenW (rd_Prod l j).thick (rd_Prod l j).width (rd_Prod l j).allow ≤ 600) by rw [HSZ.out]; simp [a1, a2, a3, a4, a5, a6, a7, a8])
          clear HSZ
          go_wp2_with fail
          refine (rgreen_calls _ _ _ _ _ _ _ _ _ _ _ _).mono ?_
          rintro e w3 ⟨rfl, hb1'⟩
          have HB3 := Aside0.mk (below_then HBq.out HBq.out.size (adv (Below.refl _ _) hb1').1)
          have H53 := Aside0.mk (Kd.C_below H51.out (below_then HD.out HD.out.size (adv (Below.refl _ _) hb1').1))
          have H63 := Aside0.mk (Kd.C_below H61.out (below_then HD.out HD.out.size (adv (Below.refl _ _) hb1').1))
          have HV3 := Aside0.mk (blk_below HVq.out (adv (Below.refl _ _) hb1').1)
          clear hb1' hv0 hv1 hv2 hv3 hv4 hv5 hv6 HVq HBq
          by_cases g6 : greenW (rd_Prod l j).thick (rd_Prod l j).width (rd_Prod l j).allow ≤ 600
          rotate_left
          · have e := HS2.out.trans (if_pos (by rw [HSZ1.out]; exact decide_eq_false g6))
            have HE := Aside0.mk ((HF.out.trans (firstErr_found HA.out (by rw [e]; decide) hlt)).trans e)
            have g7 : 600 < greenW (rd_Prod l j).thick (rd_Prod l j).width (rd_Prod l j).allow := by omega
            clear e g6
            go_wp2
            go_ret
            exact ⟨ri HE.out.symm, HB3.out⟩
          have HS3 := Aside0.mk (HS2.out.trans (if_neg (by rw [HSZ1.out, decide_eq_true g6]; simp)))
          have hv0 : w3.cell? ⟨gp, 0, none⟩ = some (.string (rd_Prod l j).name) := (blk_cell HV3.out 0).trans rfl
          have hv1 : w3.cell? ⟨gp, 1, none⟩ = some (.int .i64 (rd_Prod l j).thick) := (blk_cell HV3.out 1).trans rfl
          have hv2 : w3.cell? ⟨gp, 2, none⟩ = some (.int .i64 (rd_Prod l j).width) := (blk_cell HV3.out 2).trans rfl
          have hv3 : w3.cell? ⟨gp, 3, none⟩ = some (.int .i64 (rd_Prod l j).allow) := (blk_cell HV3.out 3).trans rfl
          have hv4 : w3.cell? ⟨gp, 4, none⟩ = some (.int .i64 (rd_Prod l j).wane) := (blk_cell HV3.out 4).trans rfl
          have hv5 : w3.cell? ⟨gp, 5, none⟩ = some (.slice A5 (rd_Prod l j).lengths.length c5) := (blk_cell HV3.out 5).trans rfl
          have hv6 : w3.cell? ⟨gp, 6, none⟩ = some (.slice A6 (rd_Prod l j).prices.length c6) := (blk_cell HV3.out 6).trans rfl
          go_wp2_with fail
          refine (rlenErr_calls _ _ _ _ _ _ _ _ _ _ _ _ ?c1 ?c2).mono ?_
          case c1 => exact H53.out
          case c2 => exact H63.out
          rintro e w4 ⟨rfl, hb1'⟩
          have HB4 := Aside0.mk (adv HB3.out hb1').1
          clear hb1' hv0 hv1 hv2 hv3 hv4 hv5 hv6
          by_cases g3 : lenErr (rd_Prod l j).lengths (rd_Prod l j).prices = 0
          · have HA1 := Aside0.mk (firstErr_step HA.out (HS3.out.trans g3))
            rw [g3]
            clear g3
            go_wp2
            go_roundw
            case rel => exact ⟨j + 1, by omega, by go_num, HA1, HB4⟩
            case measure => simp [intOf]; omega
          · have HE := Aside0.mk ((HF.out.trans (firstErr_found HA.out (by rw [HS3.out]; exact g3) hlt)).trans HS3.out)
            have g4 : (lenErr (rd_Prod l j).lengths (rd_Prod l j).prices != 0) = true := bne_iff_ne.2 g3
            clear g3
            go_wp2
            go_ret
            exact ⟨ri HE.out.symm, HB4.out⟩
    · obtain rfl : k = l.length := by omega
      go_wp2
      go_ret
      exact ⟨ri (HF.out.trans HA.out).symm, HB.out⟩
end Go.Proofs.YtngpoonjonojhaaDoor
