/- Words and walks that the row leans on: WAw2, WSam. -/
import Derived.Test.YtngpoonjonojhaaDoorE38
import Derived.Test.YtngpoonjonojhaaDoorE05
set_option linter.all false
/-! Walks: the examples of the chapter are met. -/
namespace Go.Proofs.YtngpoonjonojhaaDoor
open Go.RowKit Go.Proofs.YtngpoonjonojhaaDoorW.PrintWords Go.Proofs.YtngpoonjonojhaaDoorW.PrintLast
set_option linter.unusedVariables false
theorem names_ok : ∀ i, i < sPr.length → (rd_Prod sPr (i : Nat)).name.size ≤ 9223372036854775807 := by
  intro i hi
  match i, hi with
  | 0, _ => decide
set_option maxHeartbeats 8000000 in
set_option maxRecDepth 100000 in
theorem awake_calls (w : World) (hn0 : w.cell? ⟨0, 0, none⟩ = some (.int .i64 (-1))) (hn1 : w.cell? ⟨0, 1, none⟩ = some (.int .i64 (-1))) (hn2 : w.cell? ⟨0, 2, none⟩ = some (.int .i64 0)) :
    Calls Tryd.prog 9 #[] w fun e w' => e = .returned (.bool true) ∧ Below w.heap.size w w' := by
  have HB := Aside0.mk (Below.refl w.heap.size w)
  have HN0 := Aside0.mk hn0
  have HN1 := Aside0.mk hn1
  have HN2 := Aside0.mk hn2
  clear hn0 hn1 hn2
  go_enter Tryd.func9, Tryd.ntmps9
  go_wp2_with fail
  refine (sample_calls _).mono ?_
  rintro e w1 ⟨⟨A, c, Aq, cq, rfl, hcq, hS, hP⟩, hb1⟩
  have HS := Aside0.mk hS
  have HP := Aside0.mk hP
  have HB1 := Aside0.mk hb1
  clear hS hP hb1 HB
  go_upto_region 2 with (fail)
  have HG := Aside0.mk (blk_new w1 (.cells #[.slice A 1 c, .slice none 0 0, .slice Aq 1 cq, .int .i64 (-100), .int .i64 10, .int .i64 0, .int .i64 42, .int .i64 4, .int .i64 5, .int .i64 5, .int .i64 500, .int .i64 0, .int .i64 0, .int .i64 0] 41))
  have HE2 := Aside0.mk (below_alloc (Below.refl w1.heap.size w1) (.cells #[.slice A 1 c, .slice none 0 0, .slice Aq 1 cq, .int .i64 (-100), .int .i64 10, .int .i64 0, .int .i64 42, .int .i64 4, .int .i64 5, .int .i64 5, .int .i64 500, .int .i64 0, .int .i64 0, .int .i64 0] 41))
  have hgw : w.heap.size ≤ w1.heap.size := HB1.out.size
  generalize w1.alloc (.cells #[.slice A 1 c, .slice none 0 0, .slice Aq 1 cq, .int .i64 (-100), .int .i64 10, .int .i64 0, .int .i64 42, .int .i64 4, .int .i64 5, .int .i64 5, .int .i64 500, .int .i64 0, .int .i64 0, .int .i64 0] 41) = w2 at *
  obtain ⟨g, hg⟩ : ∃ g, g = w1.heap.size := ⟨_, rfl⟩
  rw [← hg] at HG ⊢
  have hgg : w1.heap.size ≤ g := by omega
  clear hg
  have hlt2 := blk_lt HG.out
  have hg0 : w2.cell? ⟨g, 0, none⟩ = some (.slice A 1 c) := (blk_cell HG.out 0).trans rfl
  have hg1 : w2.cell? ⟨g, 1, none⟩ = some (.slice none 0 0) := (blk_cell HG.out 1).trans rfl
  have hg2 : w2.cell? ⟨g, 2, none⟩ = some (.slice Aq 1 cq) := (blk_cell HG.out 2).trans rfl
  have hg3 : w2.cell? ⟨g, 3, none⟩ = some (.int .i64 (-100)) := (blk_cell HG.out 3).trans rfl
  have hg4 : w2.cell? ⟨g, 4, none⟩ = some (.int .i64 10) := (blk_cell HG.out 4).trans rfl
  have hg5 : w2.cell? ⟨g, 5, none⟩ = some (.int .i64 0) := (blk_cell HG.out 5).trans rfl
  have hg6 : w2.cell? ⟨g, 6, none⟩ = some (.int .i64 42) := (blk_cell HG.out 6).trans rfl
  have hg7 : w2.cell? ⟨g, 7, none⟩ = some (.int .i64 4) := (blk_cell HG.out 7).trans rfl
  have hg8 : w2.cell? ⟨g, 8, none⟩ = some (.int .i64 5) := (blk_cell HG.out 8).trans rfl
  have hg9 : w2.cell? ⟨g, 9, none⟩ = some (.int .i64 5) := (blk_cell HG.out 9).trans rfl
  have hg10 : w2.cell? ⟨g, 10, none⟩ = some (.int .i64 500) := (blk_cell HG.out 10).trans rfl
  have hg11 : w2.cell? ⟨g, 11, none⟩ = some (.int .i64 0) := (blk_cell HG.out 11).trans rfl
  have hg12 : w2.cell? ⟨g, 12, none⟩ = some (.int .i64 0) := (blk_cell HG.out 12).trans rfl
  have hg13 : w2.cell? ⟨g, 13, none⟩ = some (.int .i64 0) := (blk_cell HG.out 13).trans rfl
  go_wp2_with fail
  refine (lline_calls _ _ sLog _ _ [] _ _ sPr (-100) 10 0 42 4 5 5 500 0 0 0 _ (Kd.C_below HS.out HE2.out) (Kd.C_nil kDft _) (Kd.C_below HP.out HE2.out) names_ok hcq).mono ?_
  rintro e w3 ⟨hor, hb3⟩
  rcases hor with ⟨he, rfl⟩ | ⟨he, cs, rfl, hln⟩
  · exact absurd s_err he
  obtain ⟨A1, c1, A2, c2, A3, c3, A4, c4, rfl, hcc, hF⟩ := hln
  clear he
  have HSL := Aside0.mk s_len
  obtain ⟨x, hx⟩ : ∃ x, x = sLine := ⟨_, rfl⟩
  rw [show lineOf sLog [] sPr ⟨⟨-100, 10⟩, ⟨0, 42⟩⟩ ⟨4, 5, 5, 500⟩ ⟨0, 0, 0⟩ = x from hx.symm] at hcc hF ⊢
  have HXL := Aside0.mk (show x.len = 110 by rw [hx]; exact s_len)
  have HXG := Aside0.mk (show x.gain.length = 1 ∧ (rd_L2 x.gain 0).length = 6 ∧ rdI (rd_L2 x.gain 0) 5 = 70000000 ∧ rdI (rd_L2 x.gain 0) 4 = -1 by rw [hx]; exact s_gain)
  have HF := Aside0.mk hF
  have HCC := Aside0.mk hcc
  clear hcc hF hx hg0 hg1 hg2 hg3 hg4 hg5 hg6 hg7 hg8 hg9 hg10 hg11 hg12 hg13
  rw [HXL.out, HXG.out.1]
  have HB3 := Aside0.mk (below_then HE2.out HE2.out.size hb3)
  have HG3 := Aside0.mk (blk_below HG.out hb3)
  clear HE2 HG
  go_upto_region 3 with (fail)
  have HX4 := Aside0.mk (blk_new w3 (.cells #[.int .i64 110, .int .i64 x.kerf, .int .i64 x.pitch, .slice A1 x.sizes.length c1, .slice A2 1 c2, .slice A3 x.chip.length c3, .slice A4 x.dust.length c4] 64))
  have HB4 := Aside0.mk (below_alloc HB3.out (.cells #[.int .i64 110, .int .i64 x.kerf, .int .i64 x.pitch, .slice A1 x.sizes.length c1, .slice A2 1 c2, .slice A3 x.chip.length c3, .slice A4 x.dust.length c4] 64))
  have HG4 := Aside0.mk (blk_alloc HG3.out (.cells #[.int .i64 110, .int .i64 x.kerf, .int .i64 x.pitch, .slice A1 x.sizes.length c1, .slice A2 1 c2, .slice A3 x.chip.length c3, .slice A4 x.dust.length c4] 64))
  have HR4 := Aside0.mk (Fr.of_below (b := w2.heap.size) (below_alloc (Below.refl w3.heap.size w3) (.cells #[.int .i64 110, .int .i64 x.kerf, .int .i64 x.pitch, .slice A1 x.sizes.length c1, .slice A2 1 c2, .slice A3 x.chip.length c3, .slice A4 x.dust.length c4] 64)))
  have hz4 : w3.heap.size ≤ (w3.alloc (.cells #[.int .i64 110, .int .i64 x.kerf, .int .i64 x.pitch, .slice A1 x.sizes.length c1, .slice A2 1 c2, .slice A3 x.chip.length c3, .slice A4 x.dust.length c4] 64)).heap.size := by simp
  clear HB3 HG3
  generalize w3.alloc (.cells #[.int .i64 110, .int .i64 x.kerf, .int .i64 x.pitch, .slice A1 x.sizes.length c1, .slice A2 1 c2, .slice A3 x.chip.length c3, .slice A4 x.dust.length c4] 64) = w4 at *
  obtain ⟨gl, hgl⟩ : ∃ gl, gl = w3.heap.size := ⟨_, rfl⟩
  rw [← hgl] at HX4 ⊢
  clear hgl
  have hglg : gl ≠ g := blk_ne HX4.out HG4.out (by decide)
  have hg0 : w4.cell? ⟨g, 0, none⟩ = some (.slice A 1 c) := (blk_cell HG4.out 0).trans rfl
  have hg1 : w4.cell? ⟨g, 1, none⟩ = some (.slice none 0 0) := (blk_cell HG4.out 1).trans rfl
  have hg2 : w4.cell? ⟨g, 2, none⟩ = some (.slice Aq 1 cq) := (blk_cell HG4.out 2).trans rfl
  have hg3 : w4.cell? ⟨g, 3, none⟩ = some (.int .i64 (-100)) := (blk_cell HG4.out 3).trans rfl
  have hg4 : w4.cell? ⟨g, 4, none⟩ = some (.int .i64 10) := (blk_cell HG4.out 4).trans rfl
  have hg5 : w4.cell? ⟨g, 5, none⟩ = some (.int .i64 0) := (blk_cell HG4.out 5).trans rfl
  have hg6 : w4.cell? ⟨g, 6, none⟩ = some (.int .i64 42) := (blk_cell HG4.out 6).trans rfl
  have hg7 : w4.cell? ⟨g, 7, none⟩ = some (.int .i64 4) := (blk_cell HG4.out 7).trans rfl
  have hg8 : w4.cell? ⟨g, 8, none⟩ = some (.int .i64 5) := (blk_cell HG4.out 8).trans rfl
  have hg9 : w4.cell? ⟨g, 9, none⟩ = some (.int .i64 5) := (blk_cell HG4.out 9).trans rfl
  have hg10 : w4.cell? ⟨g, 10, none⟩ = some (.int .i64 500) := (blk_cell HG4.out 10).trans rfl
  have hg11 : w4.cell? ⟨g, 11, none⟩ = some (.int .i64 0) := (blk_cell HG4.out 11).trans rfl
  have hg12 : w4.cell? ⟨g, 12, none⟩ = some (.int .i64 0) := (blk_cell HG4.out 12).trans rfl
  have hg13 : w4.cell? ⟨g, 13, none⟩ = some (.int .i64 0) := (blk_cell HG4.out 13).trans rfl
  go_wp2_with fail
  refine (lbest_calls _ _ sLog _ _ [] _ _ sPr (-100) 10 0 42 4 5 5 500 0 0 0 _ (Kd.C_below HS.out HB4.out) (Kd.C_nil kDft _) (Kd.C_below HP.out HB4.out) names_ok hcq ?c1 ?c2 ?c3).mono ?_
  case c1 => exact pw_cell_below HB4.out (pw_cell_below HB1.out HN0.out)
  case c2 => exact pw_cell_below HB4.out (pw_cell_below HB1.out HN1.out)
  case c3 => exact pw_cell_below HB4.out (pw_cell_below HB1.out HN2.out)
  rintro e w5 ⟨⟨A5, c5, rfl, hl5, hF5⟩, hb5⟩
  rw [s_best] at hl5 hF5 ⊢
  have HF5 := Aside0.mk hF5
  have hl5' : 3 ≤ c5 := hl5
  have HR5 := Aside0.mk (Fr.trans HR4.out (Fr.of_below hb5) hz4)
  have hz5 : w3.heap.size ≤ w5.heap.size := Nat.le_trans hz4 hb5.size
  have HB5 := Aside0.mk (below_then HB4.out HB4.out.size hb5)
  have HG5 := Aside0.mk (blk_below HG4.out hb5)
  have HX5 := Aside0.mk (blk_below HX4.out hb5)
  have hlt4 := blk_lt HG4.out
  clear hg0 hg1 hg2 hg3 hg4 hg5 hg6 hg7 hg8 hg9 hg10 hg11 hg12 hg13 hl5 hF5 hb5 HB4 HG4 HX4 HR4
  dsimp only [List.length]
  go_upto_region 4 with (fail)
  have hg11 : w5.cell? ⟨g, 11, none⟩ = some (.int .i64 0) := (blk_cell HG5.out 11).trans rfl
  have hgf11 : w5.frozen? ⟨g, 11, none⟩ = false := blk_frozen HG5.out 11
  go_upto_region 5 with (fail)
  clear hg11 hgf11
  have HK6 := Aside0.mk ((KeepBut.refl w5 g none).set_ 11 (.int .i64 1))
  have HB6 := Aside0.mk (below_set (j := 11) (v := .int .i64 1) HB5.out hgg)
  have HG6 := Aside0.mk (blk_put (cs' := #[.slice A 1 c, .slice none 0 0, .slice Aq 1 cq, .int .i64 (-100), .int .i64 10, .int .i64 0, .int .i64 42, .int .i64 4, .int .i64 5, .int .i64 5, .int .i64 500, .int .i64 1, .int .i64 0, .int .i64 0]) HG5.out 11 (.int .i64 1) rfl)
  have HX6 := Aside0.mk (blk_far (p := ⟨g, 11, none⟩) HX5.out hglg (.int .i64 1))
  clear HB5 HG5 HX5
  generalize w5.setCell ⟨g, 11, none⟩ (.int .i64 1) = w6 at *
  have HR6 := Aside0.mk (Fr.trans HR5.out (Fr.of_keep HK6.out (by omega)) hz5)
  have HQ6 := Aside0.mk (Fr.of_keep (b := w4.heap.size) HK6.out (by omega))
  have hz6 : w3.heap.size ≤ w6.heap.size := Nat.le_trans hz5 HK6.out.1
  have hy6 : w5.heap.size ≤ w6.heap.size := HK6.out.1
  clear HR5 HK6
  have hg0 : w6.cell? ⟨g, 0, none⟩ = some (.slice A 1 c) := (blk_cell HG6.out 0).trans rfl
  have hg1 : w6.cell? ⟨g, 1, none⟩ = some (.slice none 0 0) := (blk_cell HG6.out 1).trans rfl
  have hg2 : w6.cell? ⟨g, 2, none⟩ = some (.slice Aq 1 cq) := (blk_cell HG6.out 2).trans rfl
  have hg3 : w6.cell? ⟨g, 3, none⟩ = some (.int .i64 (-100)) := (blk_cell HG6.out 3).trans rfl
  have hg4 : w6.cell? ⟨g, 4, none⟩ = some (.int .i64 10) := (blk_cell HG6.out 4).trans rfl
  have hg5 : w6.cell? ⟨g, 5, none⟩ = some (.int .i64 0) := (blk_cell HG6.out 5).trans rfl
  have hg6 : w6.cell? ⟨g, 6, none⟩ = some (.int .i64 42) := (blk_cell HG6.out 6).trans rfl
  have hg7 : w6.cell? ⟨g, 7, none⟩ = some (.int .i64 4) := (blk_cell HG6.out 7).trans rfl
  have hg8 : w6.cell? ⟨g, 8, none⟩ = some (.int .i64 5) := (blk_cell HG6.out 8).trans rfl
  have hg9 : w6.cell? ⟨g, 9, none⟩ = some (.int .i64 5) := (blk_cell HG6.out 9).trans rfl
  have hg10 : w6.cell? ⟨g, 10, none⟩ = some (.int .i64 500) := (blk_cell HG6.out 10).trans rfl
  have hg11 : w6.cell? ⟨g, 11, none⟩ = some (.int .i64 1) := (blk_cell HG6.out 11).trans rfl
  have hg12 : w6.cell? ⟨g, 12, none⟩ = some (.int .i64 0) := (blk_cell HG6.out 12).trans rfl
  have hg13 : w6.cell? ⟨g, 13, none⟩ = some (.int .i64 0) := (blk_cell HG6.out 13).trans rfl
  go_wp2_with fail
  refine (lbest_calls _ _ sLog _ _ [] _ _ sPr (-100) 10 0 42 4 5 5 500 1 0 0 _ (Kd.C_below HS.out HB6.out) (Kd.C_nil kDft _) (Kd.C_below HP.out HB6.out) names_ok hcq ?c1 ?c2 ?c3).mono ?_
  case c1 => exact pw_cell_below HB6.out (pw_cell_below HB1.out HN0.out)
  case c2 => exact pw_cell_below HB6.out (pw_cell_below HB1.out HN1.out)
  case c3 => exact pw_cell_below HB6.out (pw_cell_below HB1.out HN2.out)
  rintro e w7 ⟨⟨A7, c7, rfl, hl7, hF7⟩, hb7⟩
  rw [s_best1]
  dsimp only
  clear hl7 hF7
  generalize (edgeBest sLog [] sPr ⟨⟨-100, 10⟩, ⟨0, 42⟩⟩ ⟨4, 5, 5, 500⟩ ⟨1, 0, 0⟩).1 = N7
  have HR7 := Aside0.mk (Fr.trans HR6.out (Fr.of_below hb7) hz6)
  have HQ7 := Aside0.mk (Fr.trans HQ6.out (Fr.of_below hb7) hy6)
  have hz7 : w3.heap.size ≤ w7.heap.size := Nat.le_trans hz6 hb7.size
  have hy7 : w5.heap.size ≤ w7.heap.size := Nat.le_trans hy6 hb7.size
  have HB7 := Aside0.mk (below_then HB6.out HB6.out.size hb7)
  have HG7 := Aside0.mk (blk_below HG6.out hb7)
  have HX7 := Aside0.mk (blk_below HX6.out hb7)
  clear hg0 hg1 hg2 hg3 hg4 hg5 hg6 hg7 hg8 hg9 hg10 hg11 hg12 hg13 hb7 HB6 HG6 HX6 HR6 HQ6
  have hg2 : w7.cell? ⟨g, 2, none⟩ = some (.slice Aq 1 cq) := (blk_cell HG7.out 2).trans rfl
  go_wp2_with fail
  refine (sizes_calls _ _ sPr _ _ names_ok (Kd.C_below HP.out HB7.out) hcq).mono ?_
  rintro e w8 ⟨⟨v, v', rfl, ho1, ho2⟩, hb8⟩
  rw [s_sizes.1] at ho1
  rw [s_sizes.2] at ho2
  obtain ⟨A8, c8, rfl, hc8, hC8⟩ := own_C ho1
  obtain ⟨A9, c9, rfl, hc9, hC9⟩ := own_C ho2
  have HR8 := Aside0.mk (Fr.trans HR7.out (Fr.of_below hb8) hz7)
  have HQ8 := Aside0.mk (Fr.trans HQ7.out (Fr.of_below hb8) hy7)
  have HB8 := Aside0.mk (below_then HB7.out HB7.out.size hb8)
  have HX8 := Aside0.mk (blk_below HX7.out hb8)
  obtain ⟨a8, e8, hv8⟩ := Kd.at_int hC8 0 (by omega) (by simp)
  subst e8
  obtain ⟨a9, e9, hv9⟩ := Kd.at_int hC9 0 (by omega) (by simp)
  subst e9
  replace hv8 : w8.cell? a8 = some (.int .i64 105) := by have e := hv8; rw [show (0 : Int).toNat = 0 from rfl, add_zero_] at e; exact e
  replace hv9 : w8.cell? a9 = some (.int .i64 0) := by have e := hv9; rw [show (0 : Int).toNat = 0 from rfl, add_zero_] at e; exact e
  obtain ⟨K1, K2, K3, K4⟩ := HF.out w8 HR8.out
  rw [HXG.out.1] at K2
  obtain ⟨a2, A0, c0, e2, hr0, hr1, hrC⟩ := at_L2 K2 0 (by omega) (by omega)
  subst e2
  rw [HXG.out.2.1] at hr0 hr1 hrC
  obtain ⟨a0, e0, hv5⟩ := Kd.at_int hrC 5 (by omega) (by omega)
  subst e0
  obtain ⟨a0', e0', hv4⟩ := Kd.at_int hrC 4 (by omega) (by omega)
  cases e0'
  replace hv5 : _ = some (Value.int .i64 70000000) := hv5.trans (by rw [← HXG.out.2.2.1]; rfl)
  replace hv4 : _ = some (Value.int .i64 (-1)) := hv4.trans (by rw [← HXG.out.2.2.2]; rfl)
  have hN := HF5.out w8 HQ8.out
  obtain ⟨an, en, n00, n01⟩ := at_Nd hN 0 (by omega) (by simp)
  obtain ⟨an', en1, n10, n11⟩ := at_Nd hN 1 (by omega) (by simp)
  obtain ⟨an'', en2, n20, n21⟩ := at_Nd hN 2 (by omega) (by simp)
  subst en
  cases en1
  cases en2
  have z0 : Int.toNat 0 = 0 := rfl
  rw [z0, add_zero_] at hr0
  rw [z0, Nat.zero_mul, add_zero_] at n00 n01
  have q00 : w8.cell? an = some (.int .i64 2) := n00
  have q01 : w8.cell? ⟨an.block, an.off + 1, none⟩ = some (.int .i64 5) := n01
  have hadd : ∀ (a : Addr) (k : Nat), k ≠ 0 → a.add k = ⟨a.block, a.off + k, none⟩ := fun a k h => by unfold Addr.add; rw [if_neg h]
  have q10 : w8.cell? ⟨an.block, an.off + 2, none⟩ = some (.int .i64 1) := by rw [← hadd an 2 (by decide)]; exact n10
  have q20 : w8.cell? ⟨an.block, an.off + 4, none⟩ = some (.int .i64 0) := by rw [← hadd an 4 (by decide)]; exact n20
  have p5 : w8.cell? ⟨a0.block, a0.off + 5, none⟩ = some (.int .i64 70000000) := by rw [← hadd a0 5 (by decide)]; exact hv5
  have p4 : w8.cell? ⟨a0.block, a0.off + 4, none⟩ = some (.int .i64 (-1)) := by rw [← hadd a0 4 (by decide)]; exact hv4
  clear hadd
  clear n00 n01 n10 n11 n20 n21 hv5 hv4 hN hrC K1 K2 K3 K4 ho1 ho2 hC8 hC9 hb8 z0 HG7 HX7 HR7 HQ7 HB7
  have HX9 := Aside0.mk (blk_cell HX8.out 0)
  have hx0 : w8.cell? ⟨gl, 0, none⟩ = some (.int .i64 110) := (blk_cell HX8.out 0).trans rfl
  have hx4 : w8.cell? ⟨gl, 4, none⟩ = some (.slice (some a2) 1 c2) := (blk_cell HX8.out 4).trans rfl
  have hE : ∀ w, (Op.equalIn 10000 80 (.agg #[.int .i64 2, .int .i64 5]) (.agg #[.int .i64 2, .int .i64 5])).run Tryd.prog w = .ok true w := fun w => eqNd 2 5 2 5 w 9998
  have hG := fun x y a b w => guardNd .eql x y a b w
  have c3' : (2 : Int) < (3 : Nat) := by omega
  go_wp2_with fail
  go_ret
  exact ⟨rfl, below_then HB1.out HB1.out.size (below_then HB8.out HB8.out.size (Below.refl _ _))⟩
end Go.Proofs.YtngpoonjonojhaaDoor
/-! Walks: equal lists of numbers; short catalogs. -/
namespace Go.Proofs.YtngpoonjonojhaaDoor
open Go.RowKit Go.Proofs.YtngpoonjonojhaaDoorW.PrintWords Go.Proofs.YtngpoonjonojhaaDoorW.PrintLast
set_option linter.unusedVariables false

/-- The program's test of two equal lists. -/
theorem same_calls (A : Option Addr) (c : Nat) (xs : List Int) (A' : Option Addr) (c' : Nat) (w : World) (hx : Kd.C (Kd.int .i64) w A xs.length xs) (hx' : Kd.C (Kd.int .i64) w A' xs.length xs) (hz : xs.length ≤ 1000000) :
    Calls Tryd.prog 12 #[.slice A xs.length c, .slice A' xs.length c'] w fun e w' => e = .returned (.bool true) ∧ Below w.heap.size w w' := by
  have HB := Aside0.mk (Below.refl w.heap.size w)
  have HX := Aside0.mk hx
  have HY := Aside0.mk hx'
  clear hx hx'
  go_enter Tryd.func12, Tryd.ntmps12
  go_wp2
  go_loopw [5] (fun i wr => ∃ k : Nat, k ≤ xs.length ∧ i = .int .i64 k ∧ Aside0 (Below w.heap.size w wr)) (fun i _ => xs.length - (intOf i).toNat)
  case atStart => exact ⟨0, by omega, rfl, HB⟩
  case round =>
    clear HB
    obtain ⟨k, hk, rfl, HB⟩ := hrel
    by_cases hlt : k < xs.length
    · obtain ⟨ad, rfl, h1⟩ := Kd.at_int (Kd.C_below HX.out HB.out) k (by omega) (by omega)
      obtain ⟨ad', rfl, h2⟩ := Kd.at_int (Kd.C_below HY.out HB.out) k (by omega) (by omega)
      simp only [Int.toNat_natCast] at h1 h2
      go_upto_region 6 with (fail)
      go_quiet (fail)
      go_wp2
      go_roundw
      case rel => exact ⟨k + 1, by omega, by go_num, ⟨by have h := HB.out; exact BB⟩⟩
      case measure => simp [intOf]; omega
    · obtain rfl : k = xs.length := by omega
      go_wp2
      go_ret
      exact ⟨rfl, HB.out⟩

def shortC (l : List Prod) : Bool := decide (l.length ≤ 20) && l.all fun p => decide (p.lengths.length ≤ 12) && decide (p.prices.length ≤ 12) && decide (p.name.size ≤ 100)
def shortAt (l : List Prod) (k : Nat) : Prop := k < 20 ∧ (rd_Prod l (k : Nat)).lengths.length ≤ 12 ∧ (rd_Prod l (k : Nat)).prices.length ≤ 12 ∧ (rd_Prod l (k : Nat)).name.size ≤ 100
set_option maxHeartbeats 2000000 in
theorem short_calls (A : Option Addr) (c : Nat) (l : List Prod) (w : World) (hr : Kd.C kProd w A l.length l) :
    Calls Tryd.prog 8 #[.slice A l.length c] w fun e w' => (e = .returned (.bool false) ∨ e = .returned (.bool true) ∧ ∀ k, k < l.length → shortAt l k) ∧ Below w.heap.size w w' := by
  have HB := Aside0.mk (Below.refl w.heap.size w)
  have HR := Aside0.mk hr
  clear hr
  go_enter Tryd.func8, Tryd.ntmps8
  go_wp2
  go_loopw [3] (fun i wr => ∃ k : Nat, k ≤ l.length ∧ i = .int .i64 k ∧ Aside0 (∀ j, j < k → shortAt l j) ∧ k ≤ 20 ∧ Aside0 (Below w.heap.size w wr)) (fun i _ => l.length - (intOf i).toNat)
  case atStart => exact ⟨0, by omega, rfl, ⟨fun j hj => absurd hj (by omega)⟩, by omega, HB⟩
  case round =>
    clear HB
    obtain ⟨k, hk, rfl, HA, hk20, HB⟩ := hrel
    by_cases hlt : k < l.length
    · obtain ⟨ad, A5, c5, A6, c6, rfl, hx0, hx1, hx2, hx3, hx4, hx5, hx6, hx⟩ := at_Prod (Kd.C_below HR.out HB.out) k (by omega) (by omega)
      simp only [Int.toNat_natCast] at hx0 hx1 hx2 hx3 hx4 hx5 hx6
      clear hx
      have hmn : 0 ≤ ((rd_Prod l (k : Nat)).name.size : Int) := by omega
      by_cases g : k < 20 ∧ (rd_Prod l (k : Nat)).lengths.length ≤ 12 ∧ (rd_Prod l (k : Nat)).prices.length ≤ 12 ∧ (rd_Prod l (k : Nat)).name.size ≤ 100
      · have HA1 := Aside0.mk (show ∀ j, j < k + 1 → shortAt l j from fun j hj => by
          by_cases e : j = k
          · subst e; exact g
          · exact HA.out j (by omega))
        obtain ⟨g1, g2, g3, g4⟩ := g
        have b1 : (k : Int) < 20 := by omega
        have b2 : ((rd_Prod l (k : Nat)).lengths.length : Int) ≤ 12 := by omega
        have b3 : ((rd_Prod l (k : Nat)).prices.length : Int) ≤ 12 := by omega
        have b4 : ((rd_Prod l (k : Nat)).name.size : Int) ≤ 100 := by omega
        go_wp2
        go_roundw
        case rel => exact ⟨k + 1, by omega, by go_num, HA1, by omega, HB⟩
        case measure => simp [intOf]; omega
      · have HG := Aside0.mk g
        clear g
        go_wp2_with fail
        all_goals try (go_ret; exact ⟨Or.inl (rb rfl), HB.out⟩)
        all_goals (exfalso; have h := HG.out; omega)
    · obtain rfl : k = l.length := by omega
      go_wp2
      go_ret
      exact ⟨Or.inr ⟨rb rfl, HA.out⟩, HB.out⟩
end Go.Proofs.YtngpoonjonojhaaDoor
