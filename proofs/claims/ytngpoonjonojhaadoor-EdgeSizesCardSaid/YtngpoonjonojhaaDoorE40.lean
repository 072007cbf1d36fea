/- Words and walks that the row leans on: WRfa, WRfn. -/
import Derived.Test.YtngpoonjonojhaaDoorE12
import Derived.Test.YtngpoonjonojhaaDoorE03
import Derived.IntWalk
import Derived.Handy
set_option linter.all false
/-! Walks: the reference: names, sizes, lengths. -/
namespace Go.Proofs.YtngpoonjonojhaaDoor
open Go.RowKit Go.Proofs.YtngpoonjonojhaaDoorW.PrintWords Go.Proofs.YtngpoonjonojhaaDoorW.PrintLast
set_option linter.unusedVariables false

theorem rsized_calls (nm : ByteArray) (th wd al wa : Int) (A5 : Option Addr) (n5 c5 : Nat) (A6 : Option Addr) (n6 c6 : Nat) (w : World) :
    Calls Tryd.prog 51 #[.agg #[.string nm, .int .i64 th, .int .i64 wd, .int .i64 al, .int .i64 wa, .slice A5 n5 c5, .slice A6 n6 c6]] w fun e w' => e = .returned (.bool (decide (1 ≤ th) && decide (th ≤ 600) && decide (1 ≤ wd) && decide (wd ≤ 600))) ∧ Below w.heap.size w w' := by
  go_enter Tryd.func51, Tryd.ntmps51
  go_wp2
  all_goals go_ret
  all_goals exact ⟨rb (Bool.eq_iff_iff.2 (by simp; try omega)), BB⟩

theorem tdiv_pos {a : Int} (h : 0 ≤ a) : a.tdiv 1000 = a / 1000 := Int.tdiv_eq_ediv_of_nonneg h
set_option maxHeartbeats 2000000 in
theorem rgreen_calls (nm : ByteArray) (th wd al wa : Int) (A5 : Option Addr) (n5 c5 : Nat) (A6 : Option Addr) (n6 c6 : Nat) (w : World) :
    Calls Tryd.prog 26 #[.agg #[.string nm, .int .i64 th, .int .i64 wd, .int .i64 al, .int .i64 wa, .slice A5 n5 c5, .slice A6 n6 c6]] w fun e w' => e = .returned (.tuple #[.int .i64 (greenT th wd al), .int .i64 (greenW th wd al)]) ∧ Below w.heap.size w w' := by
  have HB := Aside0.mk (Below.refl w.heap.size w)
  by_cases h : okGreen th wd al = true
  · have ht : greenT th wd al = (th * (1000 + al) + 999) / 1000 := by unfold greenT; rw [if_pos h]
    have hw : greenW th wd al = (wd * (1000 + al) + 999) / 1000 := by unfold greenW; rw [if_pos h]
    simp only [okGreen, Bool.and_eq_true, decide_eq_true_eq] at h
    obtain ⟨⟨⟨⟨⟨a1, a2⟩, a3⟩, a4⟩, a5⟩, a6⟩ := h
    have g1 := green_bound th al a1 a2 a5 a6
    have g2 := green_bound wd al a3 a4 a5 a6
    rw [ht, hw]
    clear ht hw
    obtain ⟨g11, g12⟩ := g1
    obtain ⟨g21, g22⟩ := g2
    have j1 : (decide (1 ≤ th) && decide (th ≤ 600) && decide (1 ≤ wd) && decide (wd ≤ 600)) = true := by simp [a1, a2, a3, a4]
    go_enter Tryd.func26, Tryd.ntmps26
    go_wp2_with fail
    refine (rsized_calls _ _ _ _ _ _ _ _ _ _ _ _).mono ?_
    rintro e w1 ⟨rfl, hb1⟩
    obtain ⟨hB1, hb2⟩ := adv HB.out hb1
    have hz : w1.heap[w.heap.size]? = some (.cells #[.string nm, .int .i64 th, .int .i64 wd, .int .i64 al, .int .i64 wa, .slice A5 n5 c5, .slice A6 n6 c6] 43 (0, 0)) := blk_below (by repeat (first | exact blk_newi _ (by simp) | refine blk_drewN ?_ _ | refine blk_drew ?_ | refine blk_alloc ?_ _)) hb1
    have hz_0 : w1.cell? ⟨w.heap.size, 0, none⟩ = some (.string nm) := (blk_cell hz 0).trans rfl
    have hz_1 : w1.cell? ⟨w.heap.size, 1, none⟩ = some (.int .i64 th) := (blk_cell hz 1).trans rfl
    have hz_2 : w1.cell? ⟨w.heap.size, 2, none⟩ = some (.int .i64 wd) := (blk_cell hz 2).trans rfl
    have hz_3 : w1.cell? ⟨w.heap.size, 3, none⟩ = some (.int .i64 al) := (blk_cell hz 3).trans rfl
    have hz_4 : w1.cell? ⟨w.heap.size, 4, none⟩ = some (.int .i64 wa) := (blk_cell hz 4).trans rfl
    have hz_5 : w1.cell? ⟨w.heap.size, 5, none⟩ = some (.slice A5 n5 c5) := (blk_cell hz 5).trans rfl
    have hz_6 : w1.cell? ⟨w.heap.size, 6, none⟩ = some (.slice A6 n6 c6) := (blk_cell hz 6).trans rfl
    replace hz := Aside0.mk hz
    replace HB := Aside0.mk hB1
    clear hb1 hB1 hb2
    rw [j1]
    clear j1 hz hz_0 hz_4 hz_5 hz_6
    have i1 : IntKind.i64.wrap (1000 + al) = 1000 + al := IntWalk.i64_in _ (by omega)
    have i2 : IntKind.i64.wrap (th * (1000 + al)) = th * (1000 + al) := IntWalk.i64_in _ (by omega)
    have i3 : IntKind.i64.wrap (th * (1000 + al) + 999) = th * (1000 + al) + 999 := IntWalk.i64_in _ (by omega)
    have i4 : IntKind.i64.wrap (wd * (1000 + al)) = wd * (1000 + al) := IntWalk.i64_in _ (by omega)
    have i5 : IntKind.i64.wrap (wd * (1000 + al) + 999) = wd * (1000 + al) + 999 := IntWalk.i64_in _ (by omega)
    go_upto_region 3 with (fail)
    go_quiet (fail)
    go_wp2
    go_ret2
    exact ⟨rfl, by have h := HB.out; exact BB⟩
  · have ht : greenT th wd al = 0 := by unfold greenT; rw [if_neg h]
    have hw : greenW th wd al = 0 := by unfold greenW; rw [if_neg h]
    rw [ht, hw]
    have H := Aside0.mk h
    clear ht hw h
    go_enter Tryd.func26, Tryd.ntmps26
    go_wp2_with fail
    refine (rsized_calls _ _ _ _ _ _ _ _ _ _ _ _).mono ?_
    rintro e w1 ⟨rfl, hb1⟩
    obtain ⟨hB1, hb2⟩ := adv HB.out hb1
    have hz : w1.heap[w.heap.size]? = some (.cells #[.string nm, .int .i64 th, .int .i64 wd, .int .i64 al, .int .i64 wa, .slice A5 n5 c5, .slice A6 n6 c6] 43 (0, 0)) := blk_below (by repeat (first | exact blk_newi _ (by simp) | refine blk_drewN ?_ _ | refine blk_drew ?_ | refine blk_alloc ?_ _)) hb1
    have hz_0 : w1.cell? ⟨w.heap.size, 0, none⟩ = some (.string nm) := (blk_cell hz 0).trans rfl
    have hz_1 : w1.cell? ⟨w.heap.size, 1, none⟩ = some (.int .i64 th) := (blk_cell hz 1).trans rfl
    have hz_2 : w1.cell? ⟨w.heap.size, 2, none⟩ = some (.int .i64 wd) := (blk_cell hz 2).trans rfl
    have hz_3 : w1.cell? ⟨w.heap.size, 3, none⟩ = some (.int .i64 al) := (blk_cell hz 3).trans rfl
    have hz_4 : w1.cell? ⟨w.heap.size, 4, none⟩ = some (.int .i64 wa) := (blk_cell hz 4).trans rfl
    have hz_5 : w1.cell? ⟨w.heap.size, 5, none⟩ = some (.slice A5 n5 c5) := (blk_cell hz 5).trans rfl
    have hz_6 : w1.cell? ⟨w.heap.size, 6, none⟩ = some (.slice A6 n6 c6) := (blk_cell hz 6).trans rfl
    replace hz := Aside0.mk hz
    replace HB := Aside0.mk hB1
    clear hb1 hB1 hb2
    clear hz hz_0 hz_4 hz_5 hz_6
    cases hq : (decide (1 ≤ th) && decide (th ≤ 600) && decide (1 ≤ wd) && decide (wd ≤ 600)) with
    | false =>
      go_wp2
      go_ret2
      exact ⟨rfl, HB.out⟩
    | true =>
      have HQ := Aside0.mk hq
      clear hq
      by_cases g1 : al < 0
      · go_wp2
        go_ret2
        exact ⟨rfl, HB.out⟩
      · have g2 : 200 < al := by
          have h := H.out
          have q := HQ.out
          simp only [okGreen, Bool.and_eq_true, decide_eq_true_eq] at h q
          omega
        go_wp2
        go_ret2
        exact ⟨rfl, HB.out⟩

set_option maxHeartbeats 2000000 in
theorem rlenErr_calls (nm : ByteArray) (th wd al wa : Int) (A5 : Option Addr) (c5 : Nat) (ls : List Int) (A6 : Option Addr) (c6 : Nat) (ps : List Int) (w : World) (hl : Kd.C (Kd.int .i64) w A5 ls.length ls) (hp : Kd.C (Kd.int .i64) w A6 ps.length ps) :
    Calls Tryd.prog 50 #[.agg #[.string nm, .int .i64 th, .int .i64 wd, .int .i64 al, .int .i64 wa, .slice A5 ls.length c5, .slice A6 ps.length c6]] w fun e w' => e = .returned (.int .i64 (lenErr ls ps)) ∧ Below w.heap.size w w' := by
  have HB := Aside0.mk (Below.refl w.heap.size w)
  have HL := Aside0.mk hl
  have HP := Aside0.mk hp
  clear hl hp
  by_cases h1 : ls.length = 0
  · have HF := Aside0.mk (show lenErr ls ps = 3 from if_pos h1)
    go_enter Tryd.func50, Tryd.ntmps50
    go_wp2
    go_ret
    exact ⟨ri HF.out.symm, BB⟩
  by_cases h2 : 8 < ls.length
  · have HF := Aside0.mk (show lenErr ls ps = 4 from (if_neg h1).trans (if_pos h2))
    have hb1 : ((ls.length : Int) == 0) = false := beq_eq_false_iff_ne.2 (by omega)
    go_enter Tryd.func50, Tryd.ntmps50
    go_wp2
    go_ret
    exact ⟨ri HF.out.symm, BB⟩
  by_cases h3 : ls.length ≠ ps.length
  · have HF := Aside0.mk (show lenErr ls ps = 19 from (if_neg h1).trans ((if_neg h2).trans (if_pos h3)))
    have hb1 : ((ls.length : Int) == 0) = false := beq_eq_false_iff_ne.2 (by omega)
    go_enter Tryd.func50, Tryd.ntmps50
    go_wp2
    go_ret
    exact ⟨ri HF.out.symm, BB⟩
  have HF := Aside0.mk (show lenErr ls ps = (if firstErr (lenErr1 ls) ls.length ≠ 0 then firstErr (lenErr1 ls) ls.length else firstErr (priceErr1 ps) ps.length) from (if_neg h1).trans ((if_neg h2).trans (if_neg (by omega))))
  have hb1 : ((ls.length : Int) == 0) = false := beq_eq_false_iff_ne.2 (by omega)
  have H3 := Aside0.mk (show ls.length = ps.length by omega)
  have h4 : ls.length ≤ 8 := by omega
  have h5 : ps.length ≤ 8 := by omega
  have h6 : 0 < ls.length := by omega
  have hb2 : decide (8 < (ls.length : Int)) = false := decide_eq_false (by omega)
  have hb3 : ((ps.length : Int) != (ls.length : Int)) = false := bne_eq_false_iff_eq.2 (by omega)
  clear h1 h2 h3
  go_enter Tryd.func50, Tryd.ntmps50
  go_wp2
  go_loopw [3] (fun i wr => ∃ k : Nat, k ≤ ls.length ∧ i = .int .i64 k ∧ Aside0 (firstErr (lenErr1 ls) k = 0) ∧ Aside0 (Below w.heap.size w wr) ∧ Aside0 (wr.heap[w.heap.size]? = some (.cells #[.string nm, .int .i64 th, .int .i64 wd, .int .i64 al, .int .i64 wa, .slice A5 ls.length c5, .slice A6 ps.length c6] 43 (0, 0)))) (fun i _ => ls.length - (intOf i).toNat)
  case atStart => exact ⟨0, by omega, rfl, ⟨rfl⟩, ⟨BB⟩, ⟨KK⟩⟩
  case round =>
    obtain ⟨k, hk, rfl, HA, HB, HK⟩ := hrel
    have hz5 : wr.cell? ⟨w.heap.size, 5, none⟩ = some (.slice A5 ls.length c5) := (blk_cell HK.out 5).trans rfl
    by_cases hlt : k < ls.length
    · obtain ⟨ad, rfl, hx⟩ := Kd.at_int (Kd.C_below HL.out HB.out) k (by omega) (by omega)
      simp only [Int.toNat_natCast] at hx
      have HS := Aside0.mk (show lenErr1 ls k = if rd ls k < 100 ∨ 20000 < rd ls k then 9 else if 0 < k ∧ rd ls k ≤ rd ls ((k : Int) - 1) then 11 else 0 from rfl)
      by_cases g1 : rd ls k < 100 ∨ 20000 < rd ls k
      · have HE := Aside0.mk (show lenErr ls ps = 9 by
          have e := HS.out.trans (if_pos g1)
          have f := firstErr_found HA.out (by rw [e]; decide) hlt
          rw [HF.out, f, e]; rfl)
        have HG := Aside0.mk g1
        clear g1
        go_wp2_with fail
        all_goals try (go_ret; exact ⟨ri HE.out.symm, HB.out⟩)
        all_goals (exfalso; have h := HG.out; omega)
      have g11 : 100 ≤ rd ls k := by omega
      have g12 : rd ls k ≤ 20000 := by omega
      have HS1 := Aside0.mk (HS.out.trans (if_neg g1))
      clear g1 HS
      by_cases hk0 : k = 0
      · have HA1 := Aside0.mk (firstErr_step HA.out (HS1.out.trans (if_neg (by omega))))
        subst hk0
        have hx0 : wr.cell? ad = some (.int .i64 (rd ls 0)) := by have h := hx; rw [add_zero_] at h; exact h
        have g21 : 100 ≤ rd ls 0 := g11
        have g22 : rd ls 0 ≤ 20000 := g12
        clear HS1 hx g11 g12
        go_upto_region 12 with (fail)
        go_quiet (fail)
        go_wp2
        go_roundw
        case rel => exact ⟨1, by omega, by go_num, HA1, ⟨by have h := HB.out; exact BB⟩, ⟨by have h := HK.out; repeat (first | exact h | refine blk_drewN ?_ _ | refine blk_drew ?_)⟩⟩
        case measure => simp [intOf]; omega
      have hk1 : decide (0 < k) = true := decide_eq_true (by omega)
      obtain ⟨ad', e', hy⟩ := Kd.at_int (Kd.C_below HL.out HB.out) ((k : Int) - 1) (by omega) (by omega)
      cases e'
      rw [show ((k : Int) - 1).toNat = k - 1 by omega] at hy
      by_cases g2 : rd ls k ≤ rd ls ((k : Int) - 1)
      · have HE := Aside0.mk (show lenErr ls ps = 11 by
          have e := HS1.out.trans (if_pos ⟨by omega, g2⟩)
          have f := firstErr_found HA.out (by rw [e]; decide) hlt
          rw [HF.out, f, e]; rfl)
        have hy2 : wr.cell? (ad.add ((k : Int) - 1).toNat) = some (.int .i64 (rd ls ((k : Int) - 1))) := by rw [show ((k : Int) - 1).toNat = k - 1 by omega]; exact hy
        have j1 : IntKind.i64.wrap ((k : Int) - 1) = (k : Int) - 1 := IntWalk.i64_in _ (by omega)
        go_upto_region 12 with (fail)
        go_quiet (fail)
        go_wp2
        go_ret
        exact ⟨ri HE.out.symm, by have h := HB.out; exact BB⟩
      · have HA1 := Aside0.mk (firstErr_step HA.out (HS1.out.trans (if_neg (by omega))))
        clear HS1
        have hy2 : wr.cell? (ad.add ((k : Int) - 1).toNat) = some (.int .i64 (rd ls ((k : Int) - 1))) := by rw [show ((k : Int) - 1).toNat = k - 1 by omega]; exact hy
        have j1 : IntKind.i64.wrap ((k : Int) - 1) = (k : Int) - 1 := IntWalk.i64_in _ (by omega)
        go_upto_region 12 with (fail)
        go_quiet (fail)
        go_wp2
        go_roundw
        case rel => exact ⟨k + 1, by omega, by go_num, HA1, ⟨by have h := HB.out; exact BB⟩, ⟨by have h := HK.out; repeat (first | exact h | refine blk_drewN ?_ _ | refine blk_drew ?_)⟩⟩
        case measure => simp [intOf]; omega
    · obtain rfl : k = ls.length := by omega
      have HF1 := Aside0.mk (show lenErr ls ps = firstErr (priceErr1 ps) ps.length by rw [HF.out, HA.out]; rfl)
      clear HF HA
      have hz6 : wr.cell? ⟨w.heap.size, 6, none⟩ = some (.slice A6 ps.length c6) := (blk_cell HK.out 6).trans rfl
      go_wp2
      go_loopw [4] (fun i wr => ∃ k : Nat, k ≤ ps.length ∧ i = .int .i64 k ∧ Aside0 (firstErr (priceErr1 ps) k = 0) ∧ Aside0 (Below w.heap.size w wr) ∧ Aside0 (wr.heap[w.heap.size]? = some (.cells #[.string nm, .int .i64 th, .int .i64 wd, .int .i64 al, .int .i64 wa, .slice A5 ls.length c5, .slice A6 ps.length c6] 43 (0, 0)))) (fun i _ => ps.length - (intOf i).toNat)
      case atStart => exact ⟨0, by omega, rfl, ⟨rfl⟩, HB, HK⟩
      case round =>
        clear HB HK hz6
        obtain ⟨k, hk, rfl, HA, HB, HK⟩ := hrel
        have hz6 : wr.cell? ⟨w.heap.size, 6, none⟩ = some (.slice A6 ps.length c6) := (blk_cell HK.out 6).trans rfl
        by_cases hlt : k < ps.length
        · obtain ⟨ad, rfl, hx⟩ := Kd.at_int (Kd.C_below HP.out HB.out) k (by omega) (by omega)
          simp only [Int.toNat_natCast] at hx
          have HS := Aside0.mk (show priceErr1 ps k = if rd ps k < 0 ∨ 1000000 < rd ps k then 9 else 0 from rfl)
          by_cases g1 : rd ps k < 0 ∨ 1000000 < rd ps k
          · have HE := Aside0.mk (show lenErr ls ps = 9 by
              have e := HS.out.trans (if_pos g1)
              have f := firstErr_found HA.out (by rw [e]; decide) hlt
              rw [HF1.out, f, e])
            have HG := Aside0.mk g1
            clear g1
            go_wp2_with fail
            all_goals try (go_ret; exact ⟨ri HE.out.symm, HB.out⟩)
            all_goals (exfalso; have h := HG.out; omega)
          have g11 : 0 ≤ rd ps k := by omega
          have g12 : rd ps k ≤ 1000000 := by omega
          have HA1 := Aside0.mk (firstErr_step HA.out (HS.out.trans (if_neg g1)))
          clear g1 HS
          go_wp2
          go_roundw
          case rel => exact ⟨k + 1, by omega, by go_num, HA1, HB, HK⟩
          case measure => simp [intOf]; omega
        · obtain rfl : k = ps.length := by omega
          go_wp2
          go_ret
          exact ⟨ri (HF1.out.trans HA.out).symm, HB.out⟩

end Go.Proofs.YtngpoonjonojhaaDoor
/-! Walks: the reference: names. -/
namespace Go.Proofs.YtngpoonjonojhaaDoor
open Go.RowKit Go.Proofs.YtngpoonjonojhaaDoorW.PrintWords Go.Proofs.YtngpoonjonojhaaDoorW.PrintLast
set_option linter.unusedVariables false

set_option maxHeartbeats 4000000 in
theorem rname_calls (s : ByteArray) (hs : s.size ≤ 9223372036854775807) (w : World) :
    Calls Tryd.prog 49 #[.string s] w fun e w' => e = .returned (.bool (isName s)) ∧ Below w.heap.size w w' := by
  have HB := Aside0.mk (Below.refl w.heap.size w)
  by_cases h0 : s.size = 0
  · have HE := Aside0.mk (isName_no (s := s) (by omega))
    have e1 := empty_toList h0
    have e2 : s.toList.isEmpty = true := by rw [e1]; rfl
    have e3 : ((s.size : Int) < 1) = True := by simp; omega
    clear e1
    go_enter Tryd.func49, Tryd.ntmps49
    go_wp2
    all_goals (go_ret; exact ⟨rb HE.out.symm, BB⟩)
  have e2 := ne_toList h0
  have e3 : 1 ≤ (s.size : Int) := by omega
  by_cases h1 : 16 < (s.size : Int)
  · have HE := Aside0.mk (isName_no (s := s) (by omega))
    go_enter Tryd.func49, Tryd.ntmps49
    go_wp2
    all_goals (go_ret; exact ⟨rb HE.out.symm, BB⟩)
  have h2 : (s.size : Int) ≤ 16 := by omega
  have HI := Aside0.mk (show isName s = (lower (bti s 0) && decide (firstErr (nameErr1 s) s.size = 0)) by simp only [isName, decide_eq_true (show 1 ≤ s.size by omega), decide_eq_true (show s.size ≤ 16 by omega), Bool.true_and])
  clear h1
  go_enter Tryd.func49, Tryd.ntmps49
  go_wp2
  go_loopw [3] (fun i wr => ∃ k : Nat, k ≤ s.size ∧ i = .int .i64 k ∧ Aside0 (firstErr (nameErr1 s) k = 0) ∧ Aside0 (0 < k → lower (bti s 0) = true) ∧ Aside0 (Below w.heap.size w wr)) (fun i _ => s.size - (intOf i).toNat)
  case atStart => exact ⟨0, by omega, rfl, ⟨rfl⟩, ⟨fun h => absurd h (by omega)⟩, HB⟩
  case round =>
    clear HB
    obtain ⟨k, hk, rfl, HA, H0, HB⟩ := hrel
    by_cases hlt : k < s.size
    · have hbk := bti_at s k hlt
      have HN := Aside0.mk (show nameErr1 s k = if lower (bti s k) || digit (bti s k) || bti s k == 95 then 0 else 1 from rfl)
      have HBK := Aside0.mk hbk
      by_cases hl : 97 ≤ ((s[k]'hlt).toNat : Int) ∧ ((s[k]'hlt).toNat : Int) ≤ 122
      · have hlo : lower (bti s k) = true := by
          unfold lower
          rw [hbk]
          simp only [Bool.and_eq_true, decide_eq_true_eq]
          exact hl
        have HA1 := Aside0.mk (firstErr_step HA.out (HN.out.trans (by rw [hlo]; rfl)))
        have H01 : Aside0 (0 < k + 1 → lower (bti s 0) = true) := ⟨fun _ => by
          by_cases hk0 : 0 < k
          · exact H0.out hk0
          · obtain rfl : k = 0 := by omega
            exact hlo⟩
        obtain ⟨q1, q2⟩ := hl
        clear hlo hbk
        go_wp2
        go_roundw
        case rel => exact ⟨k + 1, by omega, by go_num, HA1, H01, HB⟩
        case measure => simp [intOf]; omega
      · have hlo : lower (bti s k) = false := by
          cases e : lower (bti s k) with
          | false => rfl
          | true =>
            unfold lower at e
            rw [hbk] at e
            simp only [Bool.and_eq_true, decide_eq_true_eq] at e
            exact absurd e hl
        have HLO := Aside0.mk hlo
        have hl2 : ((s[k]'hlt).toNat : Int) < 97 ∨ 122 < ((s[k]'hlt).toNat : Int) := by omega
        have HL2 := Aside0.mk hl2
        clear hlo hbk hl hl2
        by_cases hk0 : k = 0
        · subst hk0
          have HF := Aside0.mk (show isName s = false by rw [HI.out, show lower (bti s 0) = false from HLO.out]; rfl)
          rcases HL2.out with q | q
          · go_wp2
            all_goals (go_ret; exact ⟨rb HF.out.symm, HB.out⟩)
          · have q' : 97 ≤ ((s[0]'hlt).toNat : Int) := by omega
            have qd : decide (((s[0]'hlt).toNat : Int) ≤ 122) = false := decide_eq_false (by omega)
            go_wp2
            all_goals (go_ret; exact ⟨rb HF.out.symm, HB.out⟩)
        · have hk1 : ((k : Int) == 0) = false := beq_eq_false_iff_ne.2 (by omega)
          have hkp : 0 < k := by omega
          by_cases hu : ((s[k]'hlt).toNat : Int) = 95
          · have hu2 : (((s[k]'hlt).toNat : Int) != 95) = false := bne_eq_false_iff_eq.2 hu
            have HA1 := Aside0.mk (firstErr_step HA.out (HN.out.trans (by rw [HBK.out, hu]; simp)))
            have q : ((s[k]'hlt).toNat : Int) < 97 := by omega
            clear hu
            go_wp2
            go_roundw
            case rel => exact ⟨k + 1, by omega, by go_num, HA1, ⟨fun _ => H0.out hkp⟩, HB⟩
            case measure => simp [intOf]; omega
          · have hu2 : (((s[k]'hlt).toNat : Int) != 95) = true := bne_iff_ne.2 hu
            by_cases hdg : 48 ≤ ((s[k]'hlt).toNat : Int) ∧ ((s[k]'hlt).toNat : Int) ≤ 57
            · have HA1 := Aside0.mk (firstErr_step HA.out (HN.out.trans (by
                have e : digit (bti s k) = true := by
                  unfold digit
                  rw [HBK.out]
                  simp only [Bool.and_eq_true, decide_eq_true_eq]
                  exact hdg
                rw [e]; simp)))
              obtain ⟨q1, q2⟩ := hdg
              have q : ((s[k]'hlt).toNat : Int) < 97 := by omega
              clear hu
              go_wp2
              go_roundw
              case rel => exact ⟨k + 1, by omega, by go_num, HA1, ⟨fun _ => H0.out hkp⟩, HB⟩
              case measure => simp [intOf]; omega
            · have HF := Aside0.mk (show isName s = false by
                have e : nameErr1 s k = 1 := HN.out.trans (by
                  have e1 : digit (bti s k) = false := by
                    cases e : digit (bti s k) with
                    | false => rfl
                    | true =>
                      unfold digit at e
                      rw [HBK.out] at e
                      simp only [Bool.and_eq_true, decide_eq_true_eq] at e
                      exact absurd e hdg
                  have e2 : (bti s k == 95) = false := by rw [HBK.out]; exact beq_eq_false_iff_ne.2 hu
                  rw [HLO.out, e1, e2]; rfl)
                rw [HI.out, firstErr_found HA.out (by rw [e]; decide) hlt, e]
                simp)
              have HD := Aside0.mk hdg
              clear hdg hu
              rcases HL2.out with q | q
              · by_cases q1 : ((s[k]'hlt).toNat : Int) < 48
                · go_wp2
                  all_goals (go_ret; exact ⟨rb HF.out.symm, HB.out⟩)
                · have q2 : 57 < ((s[k]'hlt).toNat : Int) := by have h := HD.out; omega
                  have q3 : 48 ≤ ((s[k]'hlt).toNat : Int) := by omega
                  have qd : decide (((s[k]'hlt).toNat : Int) ≤ 57) = false := decide_eq_false (by omega)
                  clear q1
                  go_wp2
                  all_goals (go_ret; exact ⟨rb HF.out.symm, HB.out⟩)
              · have q' : 97 ≤ ((s[k]'hlt).toNat : Int) := by omega
                have q2 : 57 < ((s[k]'hlt).toNat : Int) := by omega
                have q3 : 48 ≤ ((s[k]'hlt).toNat : Int) := by omega
                have qd : decide (((s[k]'hlt).toNat : Int) ≤ 57) = false := decide_eq_false (by omega)
                have qe : decide (((s[k]'hlt).toNat : Int) ≤ 122) = false := decide_eq_false (by omega)
                go_wp2
                all_goals (go_ret; exact ⟨rb HF.out.symm, HB.out⟩)
    · obtain rfl : k = s.size := by omega
      have HF := Aside0.mk (show isName s = true by rw [HI.out, H0.out (by omega), HA.out]; rfl)
      go_wp2
      go_ret
      exact ⟨rb HF.out.symm, HB.out⟩
end Go.Proofs.YtngpoonjonojhaaDoor
