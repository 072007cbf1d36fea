/- Words and walks that the row leans on: WErr, WSol, PlVol. -/
import Derived.Test.YtngpoonjonojhaaDoorE03
import Derived.Test.YtngpoonjonojhaaDoorE04
set_option linter.all false
/-! Walks: names, lengths, catalogs. -/
namespace Go.Proofs.YtngpoonjonojhaaDoor
open Go.RowKit Go.Proofs.YtngpoonjonojhaaDoorW.PrintWords Go.Proofs.YtngpoonjonojhaaDoorW.PrintLast
set_option linter.unusedVariables false

theorem rd_rdI (xs : List Int) (i : Int) : rd xs i = rdI xs i := rfl
theorem bt_bti (s : ByteArray) (i : Int) : bt s i = bti s i := rfl

set_option maxHeartbeats 1000000 in
theorem lenErr_calls (nm : ByteArray) (th wd al wa : Int) (A5 : Option Addr) (c5 : Nat) (ls : List Int) (A6 : Option Addr) (c6 : Nat) (ps : List Int) (w : World) (hl : Kd.C (Kd.int .i64) w A5 ls.length ls) (hp : Kd.C (Kd.int .i64) w A6 ps.length ps) :
    Calls Tryd.prog 47 #[.agg #[.string nm, .int .i64 th, .int .i64 wd, .int .i64 al, .int .i64 wa, .slice A5 ls.length c5, .slice A6 ps.length c6]] w fun e w' => e = .returned (.int .i64 (lenErr ls ps)) ∧ Below w.heap.size w w' := by
  have HB := Aside0.mk (Below.refl w.heap.size w)
  have HL := Aside0.mk hl
  have HP := Aside0.mk hp
  clear hl hp
  by_cases h1 : ls.length = 0
  · have HF := Aside0.mk (show lenErr ls ps = 3 from if_pos h1)
    go_enter Tryd.func47, Tryd.ntmps47
    go_wp2
    go_ret
    exact ⟨ri HF.out.symm, BB⟩
  by_cases h2 : 8 < ls.length
  · have HF := Aside0.mk (show lenErr ls ps = 4 from (if_neg h1).trans (if_pos h2))
    have hb1 : ((ls.length : Int) == 0) = false := beq_eq_false_iff_ne.2 (by omega)
    go_enter Tryd.func47, Tryd.ntmps47
    go_wp2
    go_ret
    exact ⟨ri HF.out.symm, BB⟩
  by_cases h3 : ls.length ≠ ps.length
  · have HF := Aside0.mk (show lenErr ls ps = 19 from (if_neg h1).trans ((if_neg h2).trans (if_pos h3)))
    have hb1 : ((ls.length : Int) == 0) = false := beq_eq_false_iff_ne.2 (by omega)
    go_enter Tryd.func47, Tryd.ntmps47
    go_wp2
    go_ret
    exact ⟨ri HF.out.symm, BB⟩
  have HF := Aside0.mk (show lenErr ls ps = (if firstErr (lenErr1 ls) ls.length ≠ 0 then firstErr (lenErr1 ls) ls.length else firstErr (priceErr1 ps) ps.length) from (if_neg h1).trans ((if_neg h2).trans (if_neg (by omega))))
  have hb1 : ((ls.length : Int) == 0) = false := beq_eq_false_iff_ne.2 (by omega)
  have H3 := Aside0.mk (show ls.length = ps.length by omega)
  have h4 : ls.length ≤ 8 := by omega
  have h5 : ps.length ≤ 8 := by omega
  have h6 : 0 < ls.length := by omega
  have hb2 : decide (8 < (ls.length : Int)) = false := decide_eq_false (by omega)
  have hb3 : ((ls.length : Int) != (ps.length : Int)) = false := bne_eq_false_iff_eq.2 (by omega)
  clear h1 h2 h3
  go_enter Tryd.func47, Tryd.ntmps47
  go_wp2
  go_loopw [26] (fun i wr => ∃ k : Nat, k ≤ ls.length ∧ i = .int .i64 k ∧ Aside0 (firstErr (lenErr1 ls) k = 0) ∧ Aside0 (Below w.heap.size w wr) ∧ Aside0 (wr.heap[w.heap.size]? = some (.cells #[.string nm, .int .i64 th, .int .i64 wd, .int .i64 al, .int .i64 wa, .slice A5 ls.length c5, .slice A6 ps.length c6] 43 (0, 0)))) (fun i _ => ls.length - (intOf i).toNat)
  case atStart => exact ⟨0, by omega, rfl, ⟨rfl⟩, ⟨BB⟩, ⟨KK⟩⟩
  case round =>
    obtain ⟨k, hk, rfl, HA, HB, HK⟩ := hrel
    have hz5 : wr.cell? ⟨w.heap.size, 5, none⟩ = some (.slice A5 ls.length c5) := (blk_cell HK.out 5).trans rfl
    by_cases hlt : k < ls.length
    · obtain ⟨ad, rfl, hx⟩ := Kd.at_int (Kd.C_below HL.out HB.out) k (by omega) (by omega)
      simp only [Int.toNat_natCast] at hx
      have HS := Aside0.mk (show lenErr1 ls k = if rd ls k < 100 ∨ 20000 < rd ls k then 9 else if 0 < k ∧ rd ls k ≤ rd ls ((k : Int) - 1) then 11 else 0 from rfl)
      by_cases g1 : rd ls k < 100 ∨ 20000 < rd ls k
      · have HE := Aside0.mk (show lenErr ls ps = 9 by
          have e := HS.out.trans (if_pos g1)
          have f := firstErr_found HA.out (by rw [e]; decide) hlt
          rw [HF.out, f, e]; rfl)
        have HG := Aside0.mk g1
        clear g1
        go_wp2_with fail
        all_goals try (go_ret; exact ⟨ri HE.out.symm, HB.out⟩)
        all_goals (exfalso; have h := HG.out; omega)
      have g11 : 100 ≤ rd ls k := by omega
      have g12 : rd ls k ≤ 20000 := by omega
      have HS1 := Aside0.mk (HS.out.trans (if_neg g1))
      clear g1 HS
      by_cases hk0 : k = 0
      · have HA1 := Aside0.mk (firstErr_step HA.out (HS1.out.trans (if_neg (by omega))))
        subst hk0
        have hx0 : wr.cell? ad = some (.int .i64 (rd ls 0)) := by have h := hx; rw [add_zero_] at h; exact h
        have g21 : 100 ≤ rd ls 0 := g11
        have g22 : rd ls 0 ≤ 20000 := g12
        clear HS1 hx g11 g12
        go_wp2
        go_roundw
        case rel => exact ⟨1, by omega, by go_num, HA1, HB, HK⟩
        case measure => simp [intOf]; omega
      obtain ⟨ad', e', hy⟩ := Kd.at_int (Kd.C_below HL.out HB.out) ((k : Int) - 1) (by omega) (by omega)
      cases e'
      rw [show ((k : Int) - 1).toNat = k - 1 by omega] at hy
      by_cases g2 : rd ls k ≤ rd ls ((k : Int) - 1)
      · have HE := Aside0.mk (show lenErr ls ps = 11 by
          have e := HS1.out.trans (if_pos ⟨by omega, g2⟩)
          have f := firstErr_found HA.out (by rw [e]; decide) hlt
          rw [HF.out, f, e]; rfl)
        go_wp2
        go_ret
        exact ⟨ri HE.out.symm, HB.out⟩
      · have HA1 := Aside0.mk (firstErr_step HA.out (HS1.out.trans (if_neg (by omega))))
        clear HS1
        go_wp2
        go_roundw
        case rel => exact ⟨k + 1, by omega, by go_num, HA1, HB, HK⟩
        case measure => simp [intOf]; omega
    · obtain rfl : k = ls.length := by omega
      have HF1 := Aside0.mk (show lenErr ls ps = firstErr (priceErr1 ps) ps.length by rw [HF.out, HA.out]; rfl)
      clear HF HA hz5
      have hz6 : wr.cell? ⟨w.heap.size, 6, none⟩ = some (.slice A6 ps.length c6) := (blk_cell HK.out 6).trans rfl
      go_wp2
      go_loopw [53] (fun i wr => ∃ k : Nat, k ≤ ps.length ∧ i = .int .i64 k ∧ Aside0 (firstErr (priceErr1 ps) k = 0) ∧ Aside0 (Below w.heap.size w wr)) (fun i _ => ps.length - (intOf i).toNat)
      case atStart => exact ⟨0, by omega, rfl, ⟨rfl⟩, HB⟩
      case round =>
        clear HB hz6
        obtain ⟨k, hk, rfl, HA, HB⟩ := hrel
        by_cases hlt : k < ps.length
        · obtain ⟨ad, rfl, hx⟩ := Kd.at_int (Kd.C_below HP.out HB.out) k (by omega) (by omega)
          simp only [Int.toNat_natCast] at hx
          have HS := Aside0.mk (show priceErr1 ps k = if rd ps k < 0 ∨ 1000000 < rd ps k then 9 else 0 from rfl)
          by_cases g1 : rd ps k < 0 ∨ 1000000 < rd ps k
          · have HE := Aside0.mk (show lenErr ls ps = 9 by
              have e := HS.out.trans (if_pos g1)
              have f := firstErr_found HA.out (by rw [e]; decide) hlt
              rw [HF1.out, f, e])
            have HG := Aside0.mk g1
            clear g1
            go_wp2_with fail
            all_goals try (go_ret; exact ⟨ri HE.out.symm, HB.out⟩)
            all_goals (exfalso; have h := HG.out; omega)
          have g11 : 0 ≤ rd ps k := by omega
          have g12 : rd ps k ≤ 1000000 := by omega
          have HA1 := Aside0.mk (firstErr_step HA.out (HS.out.trans (if_neg g1)))
          clear g1 HS
          go_wp2
          go_roundw
          case rel => exact ⟨k + 1, by omega, by go_num, HA1, HB⟩
          case measure => simp [intOf]; omega
        · obtain rfl : k = ps.length := by omega
          go_wp2
          go_ret
          exact ⟨ri (HF1.out.trans HA.out).symm, HB.out⟩

theorem bti_at (s : ByteArray) (k : Nat) (h : k < s.size) : bti s k = ((s[k]'h).toNat : Int) := by simp [bti, h]

set_option maxHeartbeats 1000000 in
theorem find_calls (A : Option Addr) (c : Nat) (l : List Prod) (nm : ByteArray) (n : Nat) (hn : n ≤ 1000000) (hnl : n ≤ l.length) (w : World) (hr : Kd.C kProd w A l.length l) :
    Calls Tryd.prog 45 #[.slice A n c, .string nm] w fun e w' => (∃ i : Int, e = .returned (.tuple #[.int .i64 i, .bool (hasName l n nm)])) ∧ Below w.heap.size w w' := by
  have HB := Aside0.mk (Below.refl w.heap.size w)
  have HR := Aside0.mk hr
  clear hr
  go_enter Tryd.func45, Tryd.ntmps45
  go_wp2
  go_loopw [10] (fun i wr => ∃ k : Nat, k ≤ n ∧ i = .int .i64 k ∧ Aside0 (hasName l k nm = false) ∧ Aside0 (Below w.heap.size w wr)) (fun i _ => n - (intOf i).toNat)
  case atStart => exact ⟨0, by omega, rfl, ⟨rfl⟩, HB⟩
  case round =>
    obtain ⟨k, hk, rfl, HA, HB⟩ := hrel
    by_cases hlt : k < n
    · obtain ⟨ad, A5, c5, A6, c6, rfl, hx0, hx1, hx2, hx3, hx4, hx5, hx6, hx⟩ := at_Prod (Kd.C_below HR.out HB.out) k (by omega) (by omega)
      clear hx
      simp only [Int.toNat_natCast] at hx0 hx1 hx2 hx3 hx4 hx5 hx6
      by_cases hq : (rd_Prod l k).name.toList = nm.toList
      · have HE := Aside0.mk (show hasName l n nm = true from by
          unfold hasName
          exact any_found (z := zProd) (k := k) (by rw [List.length_take]; omega) (by rw [show (l.take n).getD k zProd = rd_Prod l k by unfold rd_Prod; rw [List.getD_eq_getElem?_getD, List.getD_eq_getElem?_getD, List.getElem?_take_of_lt hlt]; rfl]; exact beq_iff_eq.2 hq))
        go_wp2
        go_ret2
        exact ⟨⟨k, by rw [HE.out]; rfl⟩, by have hb := HB.out; exact BB⟩
      · have hq1 : ((rd_Prod l k).name.toList == nm.toList) = false := beq_eq_false_iff_ne.2 hq
        have HA1 := Aside0.mk (show hasName l (k + 1) nm = false from any_take (z := zProd) (by omega) HA.out hq1)
        have HB1 := Aside0.mk (show Below w.heap.size w (wr.alloc (.cells #[.string (rd_Prod l k).name, .int .i64 (rd_Prod l k).thick, .int .i64 (rd_Prod l k).width, .int .i64 (rd_Prod l k).allow, .int .i64 (rd_Prod l k).wane, .slice A5 (rd_Prod l k).lengths.length c5, .slice A6 (rd_Prod l k).prices.length c6] 43)) from by have hb := HB.out; exact BB)
        go_wp2
        go_roundw
        case rel => exact ⟨k + 1, by omega, by go_num, HA1, HB1⟩
        case measure => simp [intOf]; omega
    · obtain rfl : k = n := by omega
      go_wp2
      go_ret2
      exact ⟨⟨0, by rw [HA.out]; rfl⟩, HB.out⟩

end Go.Proofs.YtngpoonjonojhaaDoor
/-! Walks. -/
namespace Go.Proofs.YtngpoonjonojhaaDoor
open Go.RowKit Go.Proofs.YtngpoonjonojhaaDoorW.PrintWords Go.Proofs.YtngpoonjonojhaaDoorW.PrintLast
set_option linter.unusedVariables false


set_option maxHeartbeats 1000000 in
theorem solCheck_calls (A : Option Addr) (c : Nat) (l : List Slc) (w : World) (hr : Kd.C kSlc w A l.length l) :
    Calls Tryd.prog 64 #[.slice A l.length c] w fun e w' => e = .returned (.int .i64 (solCheck l)) ∧ Below w.heap.size w w' := by
  have HB := Aside0.mk (Below.refl w.heap.size w)
  have HR := Aside0.mk hr
  clear hr
  by_cases h0 : l.length = 0
  · have HF := Aside0.mk (show solCheck l = 3 from if_pos h0)
    have hb0 : ((l.length : Int) == 0) = true := beq_iff_eq.2 (by omega)
    go_enter Tryd.func64, Tryd.ntmps64
    go_wp2
    go_ret
    exact ⟨ri HF.out.symm, HB.out⟩
  have hb0 : ((l.length : Int) == 0) = false := beq_eq_false_iff_ne.2 (by omega)
  by_cases h1 : 24 < (l.length : Int)
  · have HF := Aside0.mk (show solCheck l = 4 from (if_neg h0).trans (if_pos (by omega)))
    go_enter Tryd.func64, Tryd.ntmps64
    go_wp2
    go_ret
    exact ⟨ri HF.out.symm, HB.out⟩
  have HF := Aside0.mk (show solCheck l = firstErr (slcErr1 l) l.length from (if_neg h0).trans (if_neg (by omega)))
  have hb1 : decide (24 < (l.length : Int)) = false := decide_eq_false h1
  go_enter Tryd.func64, Tryd.ntmps64
  go_wp2
  go_loopw [3, 15] (fun left i wr => ∃ k : Nat, k ≤ l.length ∧ left = .int .i64 (20000 - lenTo l k) ∧ i = .int .i64 k ∧ Aside0 (firstErr (slcErr1 l) k = 0) ∧ Aside0 (Below w.heap.size w wr) ∧ 0 ≤ lenTo l k ∧ lenTo l k ≤ 20000) (fun _ i _ => l.length - (intOf i).toNat)
  case atStart => exact ⟨0, by omega, rfl, rfl, ⟨rfl⟩, HB, by show (0:Int) ≤ 0; decide, by show (0 : Int) ≤ 20000; decide⟩
  case round =>
    obtain ⟨k, hk, rfl, rfl, HA, HB, hm0, hm1⟩ := hrel
    by_cases hlt : k < l.length
    · obtain ⟨ad, A2, c2, rfl, hx0, hx1, hx2, hl2, hr2⟩ := at_Slc (Kd.C_below HR.out HB.out) k (by omega) (by omega)
      simp only [Int.toNat_natCast] at hx0 hx1 hx2
      have HR2 := Aside0.mk hr2
      have HL2 := Aside0.mk hl2
      clear hr2 hl2
      have HS := Aside0.mk (show slcErr1 l k = if secCheck (rd_Slc l k).sec.low (rd_Slc l k).sec.rows ≠ 0 then secCheck (rd_Slc l k).sec.low (rd_Slc l k).sec.rows
        else if (rd_Slc l k).sec.rows.length = 0 then 18 else if (rd_Slc l k).len < 1 ∨ 20000 - lenTo l k < (rd_Slc l k).len then 9 else 0 from rfl)
      go_wp2_with fail
      refine (secCheck_calls _ _ _ _ _ (Kd.C_below HR2.out BB) HL2.out).mono ?_
      rintro e w1 ⟨rfl, hb1⟩
      have hv : w1.heap[wr.heap.size]? = some (.cells #[.int .i64 (rd_Slc l k).len, .int .i64 (rd_Slc l k).sec.low, .slice A2 (rd_Slc l k).sec.rows.length c2] 54 (0, 0)) := blk_below KK hb1
      have hv0 : w1.cell? ⟨wr.heap.size, 0, none⟩ = some (.int .i64 (rd_Slc l k).len) := (blk_cell hv 0).trans rfl
      have hv2 : w1.cell? ⟨wr.heap.size, 2, none⟩ = some (.slice A2 (rd_Slc l k).sec.rows.length c2) := (blk_cell hv 2).trans rfl
      have HB1 := Aside0.mk (adv HB.out hb1).1
      clear hb1 hx0 hx1 hx2 hv
      by_cases hq : secCheck (rd_Slc l k).sec.low (rd_Slc l k).sec.rows = 0
      · rw [hq]
        have HS1 := Aside0.mk (HS.out.trans (if_neg (by rw [hq]; simp)))
        clear hq
        by_cases g0 : (rd_Slc l k).sec.rows.length = 0
        · have e := HS1.out.trans (if_pos g0)
          have HE := Aside0.mk ((HF.out.trans (firstErr_found HA.out (by rw [e]; decide) hlt)).trans e)
          have g1 : (((rd_Slc l k).sec.rows.length : Int) == 0) = true := beq_iff_eq.2 (by omega)
          clear g0 e
          go_wp2
          go_ret
          exact ⟨ri HE.out.symm, HB1.out⟩
        have HS2 := Aside0.mk (HS1.out.trans (if_neg g0))
        have g1 : (((rd_Slc l k).sec.rows.length : Int) == 0) = false := beq_eq_false_iff_ne.2 (by omega)
        clear g0 HS1 HS
        by_cases g2 : (rd_Slc l k).len < 1 ∨ 20000 - lenTo l k < (rd_Slc l k).len
        · have e := HS2.out.trans (if_pos g2)
          have HE := Aside0.mk ((HF.out.trans (firstErr_found HA.out (by rw [e]; decide) hlt)).trans e)
          have HG := Aside0.mk g2
          clear g2 e
          go_wp2
          all_goals try (exfalso; have h := HG.out; omega)
          all_goals (go_ret; exact ⟨ri HE.out.symm, HB1.out⟩)
        · have g3 : 1 ≤ (rd_Slc l k).len := by omega
          have g4 : (rd_Slc l k).len ≤ 20000 - lenTo l k := by omega
          have HA1 := Aside0.mk (firstErr_step HA.out (HS2.out.trans (if_neg g2)))
          have HT := Aside0.mk (show lenTo l (k + 1) = lenTo l k + (rd_Slc l k).len from rfl)
          clear g2
          go_wp2
          go_roundw
          case rel => exact ⟨k + 1, by omega, by rw [HT.out]; congr 1; omega, by go_num, HA1, HB1, by rw [HT.out]; omega, by rw [HT.out]; omega⟩
          case measure => simp [intOf]; omega
      · have e := HS.out.trans (if_pos hq)
        have HE := Aside0.mk ((HF.out.trans (firstErr_found HA.out (by rw [e]; exact hq) hlt)).trans e)
        have hq1 : (secCheck (rd_Slc l k).sec.low (rd_Slc l k).sec.rows != 0) = true := bne_iff_ne.2 hq
        clear hq e
        go_wp2
        go_ret
        exact ⟨ri HE.out.symm, HB1.out⟩
    · obtain rfl : k = l.length := by omega
      go_wp2
      go_ret
      exact ⟨ri (HF.out.trans HA.out).symm, HB.out⟩
end Go.Proofs.YtngpoonjonojhaaDoor
/-! Plain laws: areas and volumes. -/
namespace Go.Proofs.YtngpoonjonojhaaDoor
/-- The area of the first n rows of a section in a rectangle. -/
def rowArea (low : Int) (rows : List Sp) (r : Rect) (i : Nat) : Int :=
  spLen (spMeet (rd_Sp rows i) r.x) * spLen (spMeet ⟨10 * (low + i), 10 * (low + i) + 10⟩ r.y)
def rowsArea (low : Int) (rows : List Sp) (r : Rect) : Nat → Int
  | 0 => 0
  | n + 1 => rowsArea low rows r n + rowArea low rows r n
def secWithin (low : Int) (rows : List Sp) (r : Rect) : Int := if secCheck low rows = 0 then rowsArea low rows r rows.length else 0

theorem secCheck_ok {low : Int} {rows : List Sp} (h : secCheck low rows = 0) : rows.length ≤ 120 ∧ -60 ≤ low ∧ low ≤ 60 - rows.length ∧ rows.any spOut = false := by
  unfold secCheck at h
  by_cases h1 : 120 < rows.length
  · rw [if_pos h1] at h; omega
  rw [if_neg h1] at h
  by_cases h2 : low < -60 ∨ 60 - (rows.length : Int) < low
  · rw [if_pos h2] at h; omega
  rw [if_neg h2] at h
  cases h3 : rows.any spOut with
  | true => rw [h3, if_pos rfl] at h; omega
  | false => exact ⟨by omega, by omega, by omega, rfl⟩
theorem any_false_at {α : Type} {p : α → Bool} {xs : List α} {k : Nat} {z : α} (h : k < xs.length) (h0 : xs.any p = false) : p (xs.getD k z) = false := by
  have : xs[k] = xs.getD k z := by simp [List.getD, h]
  rw [← this]
  cases e : p xs[k] with
  | false => rfl
  | true => have := List.any_eq_true.2 ⟨xs[k], List.getElem_mem h, e⟩; rw [h0] at this; cases this
theorem spOut_no {s : Sp} (h : spOut s = false) : -600 ≤ s.a ∧ s.a ≤ 600 ∧ -600 ≤ s.b ∧ s.b ≤ 600 := by
  have h' : ¬ mni s.a s.b < -600 ∧ ¬ 600 < mxi s.a s.b := by simpa only [spOut, Bool.or_eq_false_iff, decide_eq_false_iff_not] using h
  obtain ⟨h1, h2⟩ := h'
  unfold mni at h1
  unfold mxi at h2
  by_cases g1 : s.b < s.a
  · rw [if_pos g1] at h1; rw [if_neg (by omega)] at h2; omega
  · rw [if_neg g1] at h1
    by_cases g2 : s.a < s.b
    · rw [if_pos g2] at h2; omega
    · rw [if_neg g2] at h2; omega
/-- The common part with a span whose ends lie between -600 and 600. -/
theorem meet_bound {s t : Sp} {m : Int} (h0 : 0 ≤ m) (h1 : -m ≤ s.a) (h2 : s.b ≤ m) : -m ≤ (spMeet s t).a ∧ (spMeet s t).b ≤ m ∧ 0 ≤ spLen (spMeet s t) ∧ spLen (spMeet s t) ≤ 2 * m := by
  unfold spMeet spLen mni mxi
  (repeat' split) <;> dsimp only at * <;> omega
theorem meet_len {s t : Sp} : 0 ≤ spLen (spMeet s t) ∧ (s.a ≤ s.b → spLen (spMeet s t) ≤ s.b - s.a) := by
  unfold spMeet spLen mni mxi
  (repeat' split) <;> dsimp only at * <;> omega
theorem rowArea_bound {low : Int} {rows : List Sp} {r : Rect} {i : Nat} (h : rows.any spOut = false) (hi : i < rows.length) : 0 ≤ rowArea low rows r i ∧ rowArea low rows r i ≤ 12000 := by
  have a := spOut_no (any_false_at (z := zSp) hi h)
  have b := @meet_bound (rd_Sp rows i) r.x 600 (by omega) a.1 a.2.2.2
  have c := @meet_len ⟨10 * (low + i), 10 * (low + i) + 10⟩ r.y
  have d := c.2 (by dsimp only; omega)
  dsimp only at d
  unfold rowArea
  refine ⟨Int.mul_nonneg b.2.2.1 c.1, ?_⟩
  have := Int.mul_le_mul b.2.2.2 (show _ ≤ (10 : Int) by omega) c.1 (by omega)
  omega
theorem rowsArea_bound {low : Int} {rows : List Sp} {r : Rect} (h : rows.any spOut = false) : ∀ n, n ≤ rows.length → 0 ≤ rowsArea low rows r n ∧ rowsArea low rows r n ≤ 12000 * n
  | 0, _ => by simp [rowsArea]
  | n + 1, hn => by
    have a := rowsArea_bound (low := low) (r := r) h n (by omega)
    have b := @rowArea_bound low rows r n h (by omega)
    simp only [rowsArea]
    omega
/-- The part of slice i in a span along the log. -/
def slcMeet (l : List Slc) (z : Sp) (i : Nat) : Sp := spMeet ⟨lenTo l i, lenTo l (i + 1)⟩ z
def slcVol (l : List Slc) (b : Box) (i : Nat) : Int :=
  if (slcMeet l b.z i).a < (slcMeet l b.z i).b then ((slcMeet l b.z i).b - (slcMeet l b.z i).a) * secWithin (rd_Slc l i).sec.low (rd_Slc l i).sec.rows ⟨b.x, b.y⟩ else 0
def volTo (l : List Slc) (b : Box) : Nat → Int
  | 0 => 0
  | n + 1 => volTo l b n + slcVol l b n
/-- The volume of a solid in a box. -/
def solWithin (l : List Slc) (b : Box) : Int := if b.x.b ≤ b.x.a ∨ b.y.b ≤ b.y.a then 0 else if solCheck l = 0 then volTo l b l.length else 0
def solLen (l : List Slc) : Int := if solCheck l = 0 then lenTo l l.length else 0
/-- The parts of the first n slices in a span along the log. -/
def partsTo (l : List Slc) (z : Sp) : Nat → List Prt
  | 0 => []
  | n + 1 => partsTo l z n ++ (if (slcMeet l z n).a < (slcMeet l z n).b then [⟨slcMeet l z n, (rd_Slc l n).sec⟩] else [])
def parts (l : List Slc) (z : Sp) : List Prt := if solCheck l = 0 then partsTo l z l.length else []
end Go.Proofs.YtngpoonjonojhaaDoor
