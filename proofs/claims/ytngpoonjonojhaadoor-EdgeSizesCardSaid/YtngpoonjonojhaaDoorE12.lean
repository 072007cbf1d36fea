/- Words and walks that the row leans on: WNam, WCat, WDft. -/
import Derived.Test.YtngpoonjonojhaaDoorE05
import Derived.Deep.RegionHeld3
import Derived.Test.YtngpoonjonojhaaDoorE04
set_option linter.all false
/-! Walks: names. -/
namespace Go.Proofs.YtngpoonjonojhaaDoor
open Go.RowKit Go.Proofs.YtngpoonjonojhaaDoorW.PrintWords Go.Proofs.YtngpoonjonojhaaDoorW.PrintLast
set_option linter.unusedVariables false

theorem isName_no {s : ByteArray} (h : ¬ (1 ≤ s.size ∧ s.size ≤ 16 ∧ lower (bti s 0) = true)) : isName s = false := by
  cases e : isName s with
  | false => rfl
  | true =>
    simp only [isName, Bool.and_eq_true, decide_eq_true_eq] at e
    exact absurd ⟨e.1.1.1, e.1.1.2, e.1.2⟩ h
theorem size_toList (s : ByteArray) : s.toList.length = s.size := by rw [ByteArray.toList_eq, Array.length_toList]; rfl
theorem empty_toList {s : ByteArray} (h : s.size = 0) : s.toList = [] := List.eq_nil_of_length_eq_zero (by rw [size_toList]; exact h)
theorem ne_toList {s : ByteArray} (h : s.size ≠ 0) : s.toList.isEmpty = false := by
  cases e : s.toList.isEmpty with
  | false => rfl
  | true => rw [List.isEmpty_iff] at e; have := size_toList s; rw [e] at this; simp at this; omega
set_option maxHeartbeats 2000000 in
theorem name_bad (s : ByteArray) (h00 : 0 < s.size) (hg : ((s[0]'h00).toNat : Int) < 48 ∨ 57 < ((s[0]'h00).toNat : Int)) (q5 : (((s[0]'h00).toNat : Int) == 95) = false) (q6 : ((s[0]'h00).toNat : Int) < 97 ∨ 122 < ((s[0]'h00).toNat : Int)) (HE : Aside0 (isName s = false)) (hs : s.size ≤ 9223372036854775807) (e2 : s.toList.isEmpty = false) (h2 : decide (16 < (s.size : Int)) = false) (w : World) :
    Calls Tryd.prog 44 #[.string s] w fun e w' => e = .returned (.bool (isName s)) ∧ Below w.heap.size w w' := by
  have HB := Aside0.mk (Below.refl w.heap.size w)
  have q7 : (((s[0]'h00).toNat : Int) != 95) = true := by rw [bne, q5]; rfl
  by_cases w1 : ((s[0]'h00).toNat : Int) < 48
  · clear hg q6
    go_enter Tryd.func44, Tryd.ntmps44
    go_wp2
    all_goals (refine wp_loop_rounds 1 ?_; rw [rounds_succ])
    all_goals go_wp2
    all_goals (go_ret; exact ⟨rb HE.out.symm, HB.out⟩)
  have w2 : 57 < ((s[0]'h00).toNat : Int) := by omega
  have w3 : decide (((s[0]'h00).toNat : Int) ≤ 57) = false := decide_eq_false (by omega)
  by_cases w4 : ((s[0]'h00).toNat : Int) < 97
  · clear hg q6
    go_enter Tryd.func44, Tryd.ntmps44
    go_wp2
    all_goals (refine wp_loop_rounds 1 ?_; rw [rounds_succ])
    all_goals go_wp2
    all_goals (go_ret; exact ⟨rb HE.out.symm, HB.out⟩)
  · have w5 : 122 < ((s[0]'h00).toNat : Int) := by omega
    clear hg q6
    go_enter Tryd.func44, Tryd.ntmps44
    go_wp2
    all_goals (refine wp_loop_rounds 1 ?_; rw [rounds_succ])
    all_goals go_wp2
    all_goals (go_ret; exact ⟨rb HE.out.symm, HB.out⟩)

set_option maxHeartbeats 2000000 in
theorem name_calls (s : ByteArray) (hs : s.size ≤ 9223372036854775807) (w : World) :
    Calls Tryd.prog 44 #[.string s] w fun e w' => e = .returned (.bool (isName s)) ∧ Below w.heap.size w w' := by
  have HB := Aside0.mk (Below.refl w.heap.size w)
  by_cases h0 : s.size = 0
  · have HE := Aside0.mk (isName_no (s := s) (by omega))
    have e1 := empty_toList h0
    have e2 : s.toList.isEmpty = true := by rw [e1]; rfl
    clear e1
    go_enter Tryd.func44, Tryd.ntmps44
    go_wp2
    all_goals (go_ret; exact ⟨rb HE.out.symm, BB⟩)
  have e2 := ne_toList h0
  by_cases h1 : 16 < (s.size : Int)
  · have HE := Aside0.mk (isName_no (s := s) (by omega))
    go_enter Tryd.func44, Tryd.ntmps44
    go_wp2
    all_goals (go_ret; exact ⟨rb HE.out.symm, BB⟩)
  have h2 : decide (16 < (s.size : Int)) = false := decide_eq_false h1
  have hb0 := bti_at s 0 (by omega)
  by_cases h3 : lower (bti s 0) = true
  · have h3' := h3
    simp only [lower, Bool.and_eq_true, decide_eq_true_eq] at h3'
    rw [show bti s 0 = _ from hb0] at h3'
    obtain ⟨g1, g2⟩ := h3'
    have HE := Aside0.mk (show isName s = decide (firstErr (nameErr1 s) s.size = 0) by simp only [isName, h3, decide_eq_true (show 1 ≤ s.size by omega), decide_eq_true (show s.size ≤ 16 by omega), Bool.true_and])
    have k1 : decide (((s[0]'(by omega)).toNat : Int) ≤ 57) = false := decide_eq_false (by omega)
    have k2 : (((s[0]'(by omega)).toNat : Int) == 95) = false := beq_eq_false_iff_ne.2 (by omega)
    clear h3 hb0
    have h00 : 0 < s.size := by omega

    go_enter Tryd.func44, Tryd.ntmps44
    go_wp2
    go_loopw [24] (fun i wr => ∃ k : Nat, k ≤ s.size ∧ i = .int .i64 k ∧ Aside0 (firstErr (nameErr1 s) k = 0) ∧ Aside0 (Below w.heap.size w wr)) (fun i _ => s.size - (intOf i).toNat)
    case atStart => exact ⟨0, by omega, rfl, ⟨rfl⟩, HB⟩
    case round =>
      obtain ⟨k, hk, rfl, HA, HB⟩ := hrel
      by_cases hlt : k < s.size
      · have hbk := bti_at s k hlt
        have HN := Aside0.mk (show nameErr1 s k = if lower (bti s k) || digit (bti s k) || bti s k == 95 then 0 else 1 from rfl)
        by_cases g : (lower (bti s k) || digit (bti s k) || bti s k == 95) = true
        · have HA1 := Aside0.mk (firstErr_step HA.out (HN.out.trans (if_pos g)))
          have hg : (97 ≤ ((s[k]'hlt).toNat : Int) ∧ ((s[k]'hlt).toNat : Int) ≤ 122) ∨ (48 ≤ ((s[k]'hlt).toNat : Int) ∧ ((s[k]'hlt).toNat : Int) ≤ 57) ∨ ((s[k]'hlt).toNat : Int) = 95 := by
            rw [hbk] at g
            simp only [lower, digit, Bool.or_eq_true, Bool.and_eq_true, decide_eq_true_eq, beq_iff_eq] at g; omega
          clear g hbk HN
          by_cases q1 : ((s[k]'hlt).toNat : Int) = 95
          · have q2 : (((s[k]'hlt).toNat : Int) != 95) = false := bne_eq_false_iff_eq.2 q1
            have q3 : decide (((s[k]'hlt).toNat : Int) ≤ 57) = false := decide_eq_false (by omega)
            have q4 : 48 ≤ ((s[k]'hlt).toNat : Int) := by omega
            clear q1 hg
            go_wp2
            go_roundw
            case rel => exact ⟨k + 1, by omega, by go_num, HA1, HB⟩
            case measure => simp [intOf]; omega
          have q2 : (((s[k]'hlt).toNat : Int) != 95) = true := bne_iff_ne.2 q1
          by_cases q3 : ((s[k]'hlt).toNat : Int) ≤ 57
          · have q4 : 48 ≤ ((s[k]'hlt).toNat : Int) := by omega
            have q5 : decide (((s[k]'hlt).toNat : Int) ≤ 57) = true := decide_eq_true q3
            clear q1 hg q3
            go_wp2
            go_roundw
            case rel => exact ⟨k + 1, by omega, by go_num, HA1, HB⟩
            case measure => simp [intOf]; omega
          · have q4 : 97 ≤ ((s[k]'hlt).toNat : Int) := by omega
            have q5 : ((s[k]'hlt).toNat : Int) ≤ 122 := by omega
            have q6 : decide (((s[k]'hlt).toNat : Int) ≤ 57) = false := decide_eq_false (by omega)
            have q7 : decide (((s[k]'hlt).toNat : Int) < 97) = false := decide_eq_false (by omega)
            have q8 : decide (122 < ((s[k]'hlt).toNat : Int)) = false := decide_eq_false (by omega)
            have q9 : 48 ≤ ((s[k]'hlt).toNat : Int) := by omega
            clear q1 hg q3
            go_wp2
            go_roundw
            case rel => exact ⟨k + 1, by omega, by go_num, HA1, HB⟩
            case measure => simp [intOf]; omega
        · have HF := Aside0.mk (show isName s = false by
            have e := HN.out.trans (if_neg g)
            rw [HE.out, firstErr_found HA.out (by rw [e]; decide) hlt, e]; rfl)
          have HG := Aside0.mk g
          rw [hbk] at HG
          have hg : ¬ (((97 ≤ ((s[k]'hlt).toNat : Int) ∧ ((s[k]'hlt).toNat : Int) ≤ 122) ∨ 48 ≤ ((s[k]'hlt).toNat : Int) ∧ ((s[k]'hlt).toNat : Int) ≤ 57) ∨ ((s[k]'hlt).toNat : Int) = 95) := by
            have h := HG.out; simpa only [lower, digit, Bool.or_eq_true, Bool.and_eq_true, decide_eq_true_eq, beq_iff_eq] using h
          clear g hbk HN HG
          obtain ⟨x, hx⟩ : ∃ x : Int, x = ((s[k]'hlt).toNat : Int) := ⟨_, rfl⟩
          have k3 : (((s[k]'hlt).toNat : Int) != 95) = true := bne_iff_ne.2 (by omega)
          by_cases q1 : ((s[k]'hlt).toNat : Int) < 48
          · clear hx hg
            go_wp2
            all_goals (go_ret; exact ⟨rb HF.out.symm, HB.out⟩)
          by_cases q2 : ((s[k]'hlt).toNat : Int) < 97
          · have q3 : 57 < ((s[k]'hlt).toNat : Int) := by omega
            have q4 : decide (((s[k]'hlt).toNat : Int) ≤ 57) = false := decide_eq_false (by omega)
            clear hx hg
            go_wp2
            all_goals (go_ret; exact ⟨rb HF.out.symm, HB.out⟩)
          · have q3 : 122 < ((s[k]'hlt).toNat : Int) := by omega
            have q4 : decide (((s[k]'hlt).toNat : Int) ≤ 57) = false := decide_eq_false (by omega)
            clear hx hg
            go_wp2
            all_goals (go_ret; exact ⟨rb HF.out.symm, HB.out⟩)
      · obtain rfl : k = s.size := by omega
        have HF := Aside0.mk (show isName s = true by rw [HE.out, HA.out]; rfl)
        go_wp2
        go_ret
        exact ⟨rb HF.out.symm, HB.out⟩
  · have HE := Aside0.mk (isName_no (s := s) (by intro h; exact h3 h.2.2))
    have HL := Aside0.mk h3
    have hg : ¬ (97 ≤ bti s 0 ∧ bti s 0 ≤ 122) := by
      have h := HL.out; simpa only [lower, Bool.and_eq_true, decide_eq_true_eq] using h
    rw [show bti s 0 = _ from hb0] at hg
    have h00 : 0 < s.size := by omega
    clear h3 hb0 HL
    by_cases q1 : 48 ≤ ((s[0]'h00).toNat : Int)
    · by_cases q2 : ((s[0]'h00).toNat : Int) ≤ 57
      · clear hg
        go_enter Tryd.func44, Tryd.ntmps44
        go_wp2
        all_goals (go_ret; exact ⟨rb HE.out.symm, BB⟩)
      · have q3 : decide (((s[0]'h00).toNat : Int) ≤ 57) = false := decide_eq_false q2
        by_cases q4 : ((s[0]'h00).toNat : Int) = 95
        · have q5 : (((s[0]'h00).toNat : Int) == 95) = true := beq_iff_eq.2 q4
          clear q4 hg
          go_enter Tryd.func44, Tryd.ntmps44
          go_wp2
          all_goals (go_ret; exact ⟨rb HE.out.symm, BB⟩)
        · have q5 : (((s[0]'h00).toNat : Int) == 95) = false := beq_eq_false_iff_ne.2 q4
          exact name_bad s h00 (by omega) q5 (by omega) HE hs e2 h2 w
    · exact name_bad s h00 (by omega) (beq_eq_false_iff_ne.2 (by omega)) (by omega) HE hs e2 h2 w
end Go.Proofs.YtngpoonjonojhaaDoor
/-! Walks. -/
namespace Go.Proofs.YtngpoonjonojhaaDoor
open Go.RowKit Go.Proofs.YtngpoonjonojhaaDoorW.PrintWords Go.Proofs.YtngpoonjonojhaaDoorW.PrintLast
set_option linter.unusedVariables false


set_option maxHeartbeats 2000000 in
set_option maxRecDepth 100000 in
theorem catCheck_calls (A : Option Addr) (c : Nat) (l : List Prod) (w : World) (hn : ∀ i, i < l.length → (rd_Prod l i).name.size ≤ 9223372036854775807) (hr : Kd.C kProd w A l.length l) (hc : l.length ≤ c) :
    Calls Tryd.prog 23 #[.slice A l.length c] w fun e w' => e = .returned (.int .i64 (catCheck l)) ∧ Below w.heap.size w w' := by
  have HB := Aside0.mk (Below.refl w.heap.size w)
  have HR := Aside0.mk hr
  have HN := Aside0.mk hn
  clear hr hn
  by_cases h1 : 16 < (l.length : Int)
  · have HF := Aside0.mk (show catCheck l = 4 from if_pos (by omega))
    go_enter Tryd.func23, Tryd.ntmps23
    go_wp2
    go_ret
    exact ⟨ri HF.out.symm, HB.out⟩
  have HF := Aside0.mk (show catCheck l = firstErr (prodErr1 l) l.length from if_neg (by omega))
  have hb1 : decide (16 < (l.length : Int)) = false := decide_eq_false h1
  go_enter Tryd.func23, Tryd.ntmps23
  go_wp2
  go_loopw [13] (fun i wr => ∃ k : Nat, k ≤ l.length ∧ i = .int .i64 k ∧ Aside0 (firstErr (prodErr1 l) k = 0) ∧ Aside0 (Below w.heap.size w wr)) (fun i _ => l.length - (intOf i).toNat)
  case atStart => exact ⟨0, by omega, rfl, ⟨rfl⟩, HB⟩
  case round =>
    clear HB
    obtain ⟨k, hk, rfl, HA, HB⟩ := hrel
    by_cases hlt : k < l.length
    · obtain ⟨ad, A5, c5, A6, c6, rfl, hx0, hx1, hx2, hx3, hx4, hx5, hx6, hl5, hr5, hl6, hr6⟩ := at_Prod (Kd.C_below HR.out HB.out) k (by omega) (by omega)
      simp only [Int.toNat_natCast] at hx0 hx1 hx2 hx3 hx4 hx5 hx6
      have H5 := Aside0.mk hr5
      have H6 := Aside0.mk hr6
      clear hr5 hr6 hl5 hl6
      have HS := Aside0.mk (show prodErr1 l k = if isName (rd_Prod l k).name = false then 6 else if hasName l k (rd_Prod l k).name then 7
        else if sized (rd_Prod l k).thick (rd_Prod l k).width (rd_Prod l k).allow (rd_Prod l k).wane = false then 9 else lenErr (rd_Prod l k).lengths (rd_Prod l k).prices from rfl)
      go_wp2_with fail
      refine (name_calls _ (HN.out k hlt) _).mono ?_
      rintro e w1 ⟨rfl, hb1⟩
      have hv : w1.heap[wr.heap.size]? = some (.cells #[.string (rd_Prod l k).name, .int .i64 (rd_Prod l k).thick, .int .i64 (rd_Prod l k).width, .int .i64 (rd_Prod l k).allow, .int .i64 (rd_Prod l k).wane, .slice A5 (rd_Prod l k).lengths.length c5, .slice A6 (rd_Prod l k).prices.length c6] 43 (0, 0)) := blk_below KK hb1
      have HV := Aside0.mk hv
      have hv0 : w1.cell? ⟨wr.heap.size, 0, none⟩ = some (.string (rd_Prod l k).name) := (blk_cell hv 0).trans rfl
      obtain ⟨hB1, hb2⟩ := adv HB.out hb1
      have HB1 := Aside0.mk hB1
      have HD := Aside0.mk hb2
      clear hb1 hv hB1 hb2 hx0 hx1 hx2 hx3 hx4 hx5 hx6
      rcases g0 : isName (rd_Prod l k).name with _ | _
      · have e := HS.out.trans (if_pos g0)
        have HE := Aside0.mk ((HF.out.trans (firstErr_found HA.out (by rw [e]; decide) hlt)).trans e)
        clear g0 e
        go_wp2
        go_ret
        exact ⟨ri HE.out.symm, HB1.out⟩
      have HS1 := Aside0.mk (HS.out.trans (if_neg (by rw [g0]; simp)))
      clear g0 HS
      go_wp2_with fail
      have q0 : (0 : Int) ≤ k := by omega
      have q1 : (k : Int) ≤ c := by omega
      go_region_held3 (fun w' => Below w1.heap.size w1 w' ∧ Below w.heap.size w w' ∧ w'.cell? ⟨wr.heap.size, 0, none⟩ = some (.string (rd_Prod l k).name))
        (first | (refine ⟨BB, by have h := HB1.out; exact BB, ?_⟩; go_simp; done) | (go_split_ands; refine ⟨below_then (by assumption) (Below.size (by assumption)) hb1, below_then (by assumption) (Below.size (by assumption)) hb1, pw_cell_below hb1 (by assumption)⟩))
        (first | (go_at_call 45; refine (find_calls _ _ l _ k (by omega) (by omega) _ ?c1).mono ?_; (case c1 => (go_split_ands; exact Kd.C_below HR.out (by assumption))); rintro e w2 ⟨⟨fi, rfl⟩, hb1⟩))
      go_split_ands
      have hbw : Below w1.heap.size w1 w2 := by assumption
      have HB2 := Aside0.mk (show Below w.heap.size w w2 by assumption)
      have hv := blk_below HV.out hbw
      have HD2 := Aside0.mk (below_then HD.out HD.out.size hbw)
      have hv_0 : w2.cell? ⟨wr.heap.size, 0, none⟩ = some (.string (rd_Prod l k).name) := (blk_cell hv 0).trans rfl
      have hv_1 : w2.cell? ⟨wr.heap.size, 1, none⟩ = some (.int .i64 (rd_Prod l k).thick) := (blk_cell hv 1).trans rfl
      have hv_2 : w2.cell? ⟨wr.heap.size, 2, none⟩ = some (.int .i64 (rd_Prod l k).width) := (blk_cell hv 2).trans rfl
      have hv_3 : w2.cell? ⟨wr.heap.size, 3, none⟩ = some (.int .i64 (rd_Prod l k).allow) := (blk_cell hv 3).trans rfl
      have hv_4 : w2.cell? ⟨wr.heap.size, 4, none⟩ = some (.int .i64 (rd_Prod l k).wane) := (blk_cell hv 4).trans rfl
      have hv_5 : w2.cell? ⟨wr.heap.size, 5, none⟩ = some (.slice A5 (rd_Prod l k).lengths.length c5) := (blk_cell hv 5).trans rfl
      have hv_6 : w2.cell? ⟨wr.heap.size, 6, none⟩ = some (.slice A6 (rd_Prod l k).prices.length c6) := (blk_cell hv 6).trans rfl
      have HV2 := Aside0.mk hv
      clear hbw hv hv0 q0 q1
      rcases g1 : hasName l k (rd_Prod l k).name with _ | _
      · have HS2 := Aside0.mk (HS1.out.trans (if_neg (by rw [g1]; simp)))
        clear g1
        go_wp2_with fail
        refine (sized_calls _ _ _ _ _ _ _ _ _ _ _ _).mono ?_
        rintro e w3 ⟨rfl, hb1⟩
        obtain ⟨hB3, hb3⟩ := adv HB2.out hb1
        have HB3 := Aside0.mk hB3
        have hv := blk_below HV2.out hb3
        have HD3 := Aside0.mk (below_then HD2.out HD2.out.size hb3)
        clear hv_0 hv_1 hv_2 hv_3 hv_4 hv_5 hv_6
        have hv_0 : w3.cell? ⟨wr.heap.size, 0, none⟩ = some (.string (rd_Prod l k).name) := (blk_cell hv 0).trans rfl
        have hv_1 : w3.cell? ⟨wr.heap.size, 1, none⟩ = some (.int .i64 (rd_Prod l k).thick) := (blk_cell hv 1).trans rfl
        have hv_2 : w3.cell? ⟨wr.heap.size, 2, none⟩ = some (.int .i64 (rd_Prod l k).width) := (blk_cell hv 2).trans rfl
        have hv_3 : w3.cell? ⟨wr.heap.size, 3, none⟩ = some (.int .i64 (rd_Prod l k).allow) := (blk_cell hv 3).trans rfl
        have hv_4 : w3.cell? ⟨wr.heap.size, 4, none⟩ = some (.int .i64 (rd_Prod l k).wane) := (blk_cell hv 4).trans rfl
        have hv_5 : w3.cell? ⟨wr.heap.size, 5, none⟩ = some (.slice A5 (rd_Prod l k).lengths.length c5) := (blk_cell hv 5).trans rfl
        have hv_6 : w3.cell? ⟨wr.heap.size, 6, none⟩ = some (.slice A6 (rd_Prod l k).prices.length c6) := (blk_cell hv 6).trans rfl
        clear hv hb1 hB3 hb3
        rcases g2 : sized (rd_Prod l k).thick (rd_Prod l k).width (rd_Prod l k).allow (rd_Prod l k).wane with _ | _
        · have e := HS2.out.trans (if_pos g2)
          have HE := Aside0.mk ((HF.out.trans (firstErr_found HA.out (by rw [e]; decide) hlt)).trans e)
          clear g2 e
          go_wp2
          go_ret
          exact ⟨ri HE.out.symm, HB3.out⟩
        have HS3 := Aside0.mk (HS2.out.trans (if_neg (by rw [g2]; simp)))
        clear g2
        go_wp2_with fail
        refine (lenErr_calls _ _ _ _ _ _ _ _ _ _ _ _ ?c1 ?c2).mono ?_
        case c1 => exact Kd.C_below H5.out HD3.out
        case c2 => exact Kd.C_below H6.out HD3.out
        rintro e w4 ⟨rfl, hb1⟩
        have HB4 := Aside0.mk (adv HB3.out hb1).1
        clear hb1 hv_0 hv_1 hv_2 hv_3 hv_4 hv_5 hv_6
        by_cases g3 : lenErr (rd_Prod l k).lengths (rd_Prod l k).prices = 0
        · have HA1 := Aside0.mk (firstErr_step HA.out (HS3.out.trans g3))
          rw [g3]
          clear g3
          go_wp2
          go_roundw
          case rel => exact ⟨k + 1, by omega, by go_num, HA1, HB4⟩
          case measure => simp [intOf]; omega
        · have HE := Aside0.mk ((HF.out.trans (firstErr_found HA.out (by rw [HS3.out]; exact g3) hlt)).trans HS3.out)
          have g4 : (lenErr (rd_Prod l k).lengths (rd_Prod l k).prices != 0) = true := bne_iff_ne.2 g3
          clear g3
          go_wp2
          go_ret
          exact ⟨ri HE.out.symm, HB4.out⟩
      · have e := HS1.out.trans (if_pos g1)
        have HE := Aside0.mk ((HF.out.trans (firstErr_found HA.out (by rw [e]; decide) hlt)).trans e)
        clear g1 e
        go_wp2
        go_ret
        exact ⟨ri HE.out.symm, HB2.out⟩
    · obtain rfl : k = l.length := by omega
      go_wp2
      go_ret
      exact ⟨ri (HF.out.trans HA.out).symm, HB.out⟩
end Go.Proofs.YtngpoonjonojhaaDoor
/-! Walks. -/
namespace Go.Proofs.YtngpoonjonojhaaDoor
open Go.RowKit Go.Proofs.YtngpoonjonojhaaDoorW.PrintWords Go.Proofs.YtngpoonjonojhaaDoorW.PrintLast
set_option linter.unusedVariables false


set_option maxHeartbeats 1000000 in
theorem dftCheck_calls (A : Option Addr) (c : Nat) (l : List Dft) (w : World) (hr : Kd.C kDft w A l.length l) :
    Calls Tryd.prog 69 #[.slice A l.length c] w fun e w' => e = .returned (.int .i64 (dftCheck l)) ∧ Below w.heap.size w w' := by
  have HB := Aside0.mk (Below.refl w.heap.size w)
  have HR := Aside0.mk hr
  clear hr
  by_cases h1 : 64 < (l.length : Int)
  · have HF := Aside0.mk (show dftCheck l = 4 from if_pos (by omega))
    go_enter Tryd.func69, Tryd.ntmps69
    go_wp2
    go_ret
    exact ⟨ri HF.out.symm, HB.out⟩
  have HF := Aside0.mk (show dftCheck l = firstErr (fun i => flawed (rd_Dft l i)) l.length from if_neg (by omega))
  have hb1 : decide (64 < (l.length : Int)) = false := decide_eq_false h1
  go_enter Tryd.func69, Tryd.ntmps69
  go_wp2
  go_loopw [11] (fun i wr => ∃ k : Nat, k ≤ l.length ∧ i = .int .i64 k ∧ Aside0 (firstErr (fun i => flawed (rd_Dft l i)) k = 0) ∧ Aside0 (Below w.heap.size w wr)) (fun i _ => l.length - (intOf i).toNat)
  case atStart => exact ⟨0, by omega, rfl, ⟨rfl⟩, HB⟩
  case round =>
    obtain ⟨k, hk, rfl, HA, HB⟩ := hrel
    by_cases hlt : k < l.length
    · obtain ⟨ad, rfl, hx0, hx1, hx2, hx3, hx4, hx5, hx6⟩ := at_Dft (Kd.C_below HR.out HB.out) k (by omega) (by omega)
      simp only [Int.toNat_natCast] at hx0 hx1 hx2 hx3 hx4 hx5 hx6
      go_wp2_with fail
      refine (flawed_calls _ _ _ _ _ _ _ _).mono ?_
      rintro e w1 ⟨rfl, hb1⟩
      have HB1 := Aside0.mk (adv HB.out hb1).1
      clear hb1 hx0 hx1 hx2 hx3 hx4 hx5 hx6
      by_cases hq : flawed (rd_Dft l k) = 0
      · have HA1 := Aside0.mk (firstErr_step (f := fun i => flawed (rd_Dft l i)) HA.out hq)
        rw [show flawed ⟨(rd_Dft l k).kind, ⟨⟨(rd_Dft l k).box.x.a, (rd_Dft l k).box.x.b⟩, ⟨(rd_Dft l k).box.y.a, (rd_Dft l k).box.y.b⟩, ⟨(rd_Dft l k).box.z.a, (rd_Dft l k).box.z.b⟩⟩⟩ = 0 from hq]
        clear hq
        go_wp2
        go_roundw
        case rel => exact ⟨k + 1, by omega, by go_num, HA1, HB1⟩
        case measure => simp [intOf]; omega
      · have HE := Aside0.mk (HF.out.trans (firstErr_found (f := fun i => flawed (rd_Dft l i)) HA.out hq hlt))
        have hq1 : (flawed ⟨(rd_Dft l k).kind, ⟨⟨(rd_Dft l k).box.x.a, (rd_Dft l k).box.x.b⟩, ⟨(rd_Dft l k).box.y.a, (rd_Dft l k).box.y.b⟩, ⟨(rd_Dft l k).box.z.a, (rd_Dft l k).box.z.b⟩⟩⟩ != 0) = true := bne_iff_ne.2 hq
        clear hq
        go_wp2
        go_ret
        exact ⟨ri HE.out.symm, HB1.out⟩
    · obtain rfl : k = l.length := by omega
      go_wp2
      go_ret
      exact ⟨ri (HF.out.trans HA.out).symm, HB.out⟩
end Go.Proofs.YtngpoonjonojhaaDoor
