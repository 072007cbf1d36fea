/- Walks. -/
import Derived.Test.YtngpoonjonojhaaDoorE04
import Derived.Test.YtngpoonjonojhaaDoorE05
import Derived.Deep.RegionHeld3
import Derived.IntWalk
set_option linter.all false
namespace Go.Proofs.YtngpoonjonojhaaDoor
open Go.RowKit Go.Proofs.YtngpoonjonojhaaDoorW.PrintWords Go.Proofs.YtngpoonjonojhaaDoorW.PrintLast
set_option linter.unusedVariables false


set_option maxHeartbeats 2000000 in
theorem secWithin_calls (low : Int) (A : Option Addr) (c : Nat) (rows : List Sp) (xa xb ya yb : Int) (w : World) (hr : Kd.C kSp w A rows.length rows) (hc : rows.length ≤ c) :
    Calls Tryd.prog 34 #[.agg #[.int .i64 low, .slice A rows.length c], .agg #[.int .i64 xa, .int .i64 xb, .int .i64 ya, .int .i64 yb]] w fun e w' => e = .returned (.int .i64 (secWithin low rows ⟨⟨xa, xb⟩, ⟨ya, yb⟩⟩)) ∧ Below w.heap.size w w' := by
  have HB := Aside0.mk (Below.refl w.heap.size w)
  have HR := Aside0.mk hr
  clear hr
  by_cases h : secCheck low rows = 0
  · have HF := Aside0.mk (show secWithin low rows ⟨⟨xa, xb⟩, ⟨ya, yb⟩⟩ = rowsArea low rows ⟨⟨xa, xb⟩, ⟨ya, yb⟩⟩ rows.length from if_pos h)
    have HO := Aside0.mk (secCheck_ok h)
    have HH := Aside0.mk h
    clear h
    go_enter Tryd.func34, Tryd.ntmps34
    go_wp2_with fail
    refine (valid_yes low A c rows _ ?c1 hc HH.out).mono ?_
    case c1 => exact Kd.C_below HR.out BB
    rintro e w1 ⟨rfl, hb1⟩
    obtain ⟨hB1, hb2⟩ := adv HB.out hb1
    have hs : w1.heap[w.heap.size]? = some (.cells #[.int .i64 low, .slice A rows.length c] 52 (0, 0)) := blk_below (by repeat (first | exact blk_newi _ (by simp) | refine blk_drewN ?_ _ | refine blk_drew ?_ | refine blk_alloc ?_ _)) hb1
    have hs_0 : w1.cell? ⟨w.heap.size, 0, none⟩ = some (.int .i64 low) := (blk_cell hs 0).trans rfl
    have hs_1 : w1.cell? ⟨w.heap.size, 1, none⟩ = some (.slice A rows.length c) := (blk_cell hs 1).trans rfl
    have hs_f0 : w1.frozen? ⟨w.heap.size, 0, none⟩ = false := blk_frozen hs 0
    have hs_f1 : w1.frozen? ⟨w.heap.size, 1, none⟩ = false := blk_frozen hs 1
    replace hs := Aside0.mk hs
    have ht : w1.heap[w.heap.size + 1]? = some (.cells #[.int .i64 xa, .int .i64 xb, .int .i64 ya, .int .i64 yb] 35 (0, 0)) := blk_below (by repeat (first | exact blk_newi _ (by simp) | refine blk_drewN ?_ _ | refine blk_drew ?_ | refine blk_alloc ?_ _)) hb1
    have ht_0 : w1.cell? ⟨w.heap.size + 1, 0, none⟩ = some (.int .i64 xa) := (blk_cell ht 0).trans rfl
    have ht_1 : w1.cell? ⟨w.heap.size + 1, 1, none⟩ = some (.int .i64 xb) := (blk_cell ht 1).trans rfl
    have ht_2 : w1.cell? ⟨w.heap.size + 1, 2, none⟩ = some (.int .i64 ya) := (blk_cell ht 2).trans rfl
    have ht_3 : w1.cell? ⟨w.heap.size + 1, 3, none⟩ = some (.int .i64 yb) := (blk_cell ht 3).trans rfl
    replace ht := Aside0.mk ht
    have hlt : w.heap.size < w1.heap.size := by have hq_ := hb1.size; simp at hq_; omega
    have hlt1 : w.heap.size < w1.heap.size + 1 := by have hq_ := hb1.size; simp at hq_; omega
    have hlt2 : w.heap.size < w1.heap.size + 1 + 1 := by have hq_ := hb1.size; simp at hq_; omega
    have hlt3 : w.heap.size < w1.heap.size + 1 + 1 + 1 := by have hq_ := hb1.size; simp at hq_; omega
    have hlu : w.heap.size + 1 < w1.heap.size := by have hq_ := hb1.size; simp at hq_; omega
    have hlu1 : w.heap.size + 1 < w1.heap.size + 1 := by have hq_ := hb1.size; simp at hq_; omega
    have hlu2 : w.heap.size + 1 < w1.heap.size + 1 + 1 := by have hq_ := hb1.size; simp at hq_; omega
    have hlu3 : w.heap.size + 1 < w1.heap.size + 1 + 1 + 1 := by have hq_ := hb1.size; simp at hq_; omega
    replace HB := Aside0.mk hB1
    clear hb1 hB1 hb2
    clear hc
    go_wp2
    go_loopw [5, 14] (fun v i wr => ∃ k : Nat, k ≤ rows.length ∧ v = .int .i64 (rowsArea low rows ⟨⟨xa, xb⟩, ⟨ya, yb⟩⟩ k) ∧ i = .int .i64 k ∧ Aside0 (Below w.heap.size w wr) ∧ Aside0 (wr.heap[w.heap.size]? = some (.cells #[.int .i64 low, .slice A rows.length c] 52 (0, 0))) ∧ Aside0 (wr.heap[w.heap.size + 1]? = some (.cells #[.int .i64 xa, .int .i64 xb, .int .i64 ya, .int .i64 yb] 35 (0, 0)))) (fun _ i _ => rows.length - (intOf i).toNat)
    case atStart => exact ⟨0, by omega, rfl, rfl, ⟨below_set (below_set HB.out (by omega)) (by omega)⟩, ⟨blk_put (blk_put hs.out 0 _ rfl) 1 _ rfl⟩, ⟨blk_far (blk_far ht.out (by simp) _) (by simp) _⟩⟩
    case round =>
      clear hs ht ht_0 ht_1 ht_2 ht_3 hlt hlt1 hlt2 hlt3 hlu hlu1 hlu2 hlu3 HB
      obtain ⟨k, hk, rfl, rfl, HB, HS, HT⟩ := hrel
      have hz0 : wr.cell? ⟨w.heap.size, 0, none⟩ = some (.int .i64 low) := (blk_cell HS.out 0).trans rfl
      have ht0 : wr.cell? ⟨w.heap.size + 1, 0, none⟩ = some (.int .i64 xa) := (blk_cell HT.out 0).trans rfl
      have ht1 : wr.cell? ⟨w.heap.size + 1, 1, none⟩ = some (.int .i64 xb) := (blk_cell HT.out 1).trans rfl
      have ht2 : wr.cell? ⟨w.heap.size + 1, 2, none⟩ = some (.int .i64 ya) := (blk_cell HT.out 2).trans rfl
      have ht3 : wr.cell? ⟨w.heap.size + 1, 3, none⟩ = some (.int .i64 yb) := (blk_cell HT.out 3).trans rfl
      obtain ⟨o1, o2, o3, o4⟩ := HO.out
      by_cases hlt : k < rows.length
      · obtain ⟨ad, rfl, hx0, hx1⟩ := at_Sp (Kd.C_below HR.out HB.out) k (by omega) (by omega)
        simp only [Int.toNat_natCast] at hx0 hx1
        have hsz : w.heap.size + 1 < wr.heap.size := blk_lt HT.out
        have hsz1 : w.heap.size < wr.heap.size := by omega
        have bnd := rowsArea_bound (low := low) (r := ⟨⟨xa, xb⟩, ⟨ya, yb⟩⟩) o4 k hk
        obtain ⟨b1, b2⟩ := bnd
        have arb := @rowArea_bound low rows ⟨⟨xa, xb⟩, ⟨ya, yb⟩⟩ k o4 hlt
        have so := spOut_no (any_false_at (z := zSp) hlt o4)
        have mb := @meet_bound (rd_Sp rows k) ⟨xa, xb⟩ 600 (by omega) so.1 so.2.2.2
        have mc := @meet_bound ⟨10 * (low + (k : Int)), 10 * (low + (k : Int)) + 10⟩ ⟨ya, yb⟩ 100000 (by omega) (by dsimp only; omega) (by dsimp only; omega)
        have m1 : -1000000 ≤ (spMeet ⟨(rd_Sp rows k).a, (rd_Sp rows k).b⟩ ⟨xa, xb⟩).a := Int.le_trans (by omega) mb.1
        have m2 : (spMeet ⟨(rd_Sp rows k).a, (rd_Sp rows k).b⟩ ⟨xa, xb⟩).b ≤ 1000000 := Int.le_trans mb.2.1 (by omega)
        have m3 : -1000000 ≤ (spMeet ⟨10 * (low + (k : Int)), 10 * (low + (k : Int)) + 10⟩ ⟨ya, yb⟩).a := Int.le_trans (by omega) mc.1
        have m4 : (spMeet ⟨10 * (low + (k : Int)), 10 * (low + (k : Int)) + 10⟩ ⟨ya, yb⟩).b ≤ 1000000 := Int.le_trans mc.2.1 (by omega)
        have p1 : 0 ≤ spLen ⟨(spMeet ⟨(rd_Sp rows k).a, (rd_Sp rows k).b⟩ ⟨xa, xb⟩).a, (spMeet ⟨(rd_Sp rows k).a, (rd_Sp rows k).b⟩ ⟨xa, xb⟩).b⟩ * spLen ⟨(spMeet ⟨10 * (low + (k : Int)), 10 * (low + (k : Int)) + 10⟩ ⟨ya, yb⟩).a, (spMeet ⟨10 * (low + (k : Int)), 10 * (low + (k : Int)) + 10⟩ ⟨ya, yb⟩).b⟩ := arb.1
        have p2 : spLen ⟨(spMeet ⟨(rd_Sp rows k).a, (rd_Sp rows k).b⟩ ⟨xa, xb⟩).a, (spMeet ⟨(rd_Sp rows k).a, (rd_Sp rows k).b⟩ ⟨xa, xb⟩).b⟩ * spLen ⟨(spMeet ⟨10 * (low + (k : Int)), 10 * (low + (k : Int)) + 10⟩ ⟨ya, yb⟩).a, (spMeet ⟨10 * (low + (k : Int)), 10 * (low + (k : Int)) + 10⟩ ⟨ya, yb⟩).b⟩ ≤ 12000 := arb.2
        have HT1 := Aside0.mk (show rowsArea low rows ⟨⟨xa, xb⟩, ⟨ya, yb⟩⟩ (k + 1) = rowsArea low rows ⟨⟨xa, xb⟩, ⟨ya, yb⟩⟩ k + spLen ⟨(spMeet ⟨(rd_Sp rows k).a, (rd_Sp rows k).b⟩ ⟨xa, xb⟩).a, (spMeet ⟨(rd_Sp rows k).a, (rd_Sp rows k).b⟩ ⟨xa, xb⟩).b⟩ * spLen ⟨(spMeet ⟨10 * (low + (k : Int)), 10 * (low + (k : Int)) + 10⟩ ⟨ya, yb⟩).a, (spMeet ⟨10 * (low + (k : Int)), 10 * (low + (k : Int)) + 10⟩ ⟨ya, yb⟩).b⟩ from rfl)
        clear o4 arb so mb mc
        go_wp2_with fail
        have i1 : IntKind.i64.wrap (10 * (low + (k : Int)) + 10) = 10 * (low + (k : Int)) + 10 := IntWalk.i64_in _ (by omega)
        have i2 : IntKind.i64.wrap (spLen ⟨(spMeet ⟨(rd_Sp rows k).a, (rd_Sp rows k).b⟩ ⟨xa, xb⟩).a, (spMeet ⟨(rd_Sp rows k).a, (rd_Sp rows k).b⟩ ⟨xa, xb⟩).b⟩ * spLen ⟨(spMeet ⟨10 * (low + (k : Int)), 10 * (low + (k : Int)) + 10⟩ ⟨ya, yb⟩).a, (spMeet ⟨10 * (low + (k : Int)), 10 * (low + (k : Int)) + 10⟩ ⟨ya, yb⟩).b⟩) = spLen ⟨(spMeet ⟨(rd_Sp rows k).a, (rd_Sp rows k).b⟩ ⟨xa, xb⟩).a, (spMeet ⟨(rd_Sp rows k).a, (rd_Sp rows k).b⟩ ⟨xa, xb⟩).b⟩ * spLen ⟨(spMeet ⟨10 * (low + (k : Int)), 10 * (low + (k : Int)) + 10⟩ ⟨ya, yb⟩).a, (spMeet ⟨10 * (low + (k : Int)), 10 * (low + (k : Int)) + 10⟩ ⟨ya, yb⟩).b⟩ := IntWalk.i64_in _ (by omega)
        have i3 : IntKind.i64.wrap (rowsArea low rows ⟨⟨xa, xb⟩, ⟨ya, yb⟩⟩ k + spLen ⟨(spMeet ⟨(rd_Sp rows k).a, (rd_Sp rows k).b⟩ ⟨xa, xb⟩).a, (spMeet ⟨(rd_Sp rows k).a, (rd_Sp rows k).b⟩ ⟨xa, xb⟩).b⟩ * spLen ⟨(spMeet ⟨10 * (low + (k : Int)), 10 * (low + (k : Int)) + 10⟩ ⟨ya, yb⟩).a, (spMeet ⟨10 * (low + (k : Int)), 10 * (low + (k : Int)) + 10⟩ ⟨ya, yb⟩).b⟩) = rowsArea low rows ⟨⟨xa, xb⟩, ⟨ya, yb⟩⟩ k + spLen ⟨(spMeet ⟨(rd_Sp rows k).a, (rd_Sp rows k).b⟩ ⟨xa, xb⟩).a, (spMeet ⟨(rd_Sp rows k).a, (rd_Sp rows k).b⟩ ⟨xa, xb⟩).b⟩ * spLen ⟨(spMeet ⟨10 * (low + (k : Int)), 10 * (low + (k : Int)) + 10⟩ ⟨ya, yb⟩).a, (spMeet ⟨10 * (low + (k : Int)), 10 * (low + (k : Int)) + 10⟩ ⟨ya, yb⟩).b⟩ := IntWalk.i64_in _ (by omega)
        clear p1 p2
        go_region_held3 (fun w' => Below wr.heap.size wr w' ∧ w'.cell? ⟨wr.heap.size, 0, none⟩ = some (.int .i64 (rd_Sp rows k).a) ∧ w'.cell? ⟨wr.heap.size, 1, none⟩ = some (.int .i64 (rd_Sp rows k).b) ∧ w'.cell? ⟨w.heap.size + 1, 0, none⟩ = some (.int .i64 xa) ∧ w'.cell? ⟨w.heap.size + 1, 1, none⟩ = some (.int .i64 xb) ∧ w'.cell? ⟨w.heap.size + 1, 2, none⟩ = some (.int .i64 ya) ∧ w'.cell? ⟨w.heap.size + 1, 3, none⟩ = some (.int .i64 yb))
          (first
            | (refine ⟨BB, ?_, ?_, ?_, ?_, ?_, ?_⟩ <;> go_simp <;> done)
            | (go_split_ands; refine ⟨below_then (by assumption) (Below.size (by assumption)) hb1, pw_cell_below hb1 (by assumption), pw_cell_below hb1 (by assumption), pw_cell_below hb1 (by assumption), pw_cell_below hb1 (by assumption), pw_cell_below hb1 (by assumption), pw_cell_below hb1 (by assumption)⟩))
          (first
            | (go_at_call 65; refine (spMeet_calls _ _ _ _ _).mono ?_; rintro e w1 ⟨rfl, hb1⟩)
            | (go_at_call 66; refine (spLen_calls _ _ (by assumption) (by assumption) _).mono ?_; rintro e w1 ⟨rfl, hb1⟩))
        go_split_ands
        have hbw : Below wr.heap.size wr w1 := by assumption
        have HB1 := Aside0.mk (below_then HB.out HB.out.size hbw)
        have HS1 := Aside0.mk (blk_below HS.out hbw)
        have HU1 := Aside0.mk (blk_below HT.out hbw)
        clear hbw i1 i2 i3
        go_wp2
        go_roundw
        case rel => exact ⟨k + 1, by omega, by rw [HT1.out], by go_num, HB1, HS1, HU1⟩
        case measure => simp [intOf]; omega
      · obtain rfl : k = rows.length := by omega
        go_wp2
        go_ret
        exact ⟨ri HF.out.symm, HB.out⟩
  · have HF := Aside0.mk (show secWithin low rows ⟨⟨xa, xb⟩, ⟨ya, yb⟩⟩ = 0 from if_neg h)
    have HH := Aside0.mk h
    clear h
    go_enter Tryd.func34, Tryd.ntmps34
    go_wp2_with fail
    refine (valid_no low A c rows _ ?c1 hc HH.out).mono ?_
    case c1 => exact Kd.C_below HR.out BB
    rintro e w1 ⟨rfl, hb1⟩
    obtain ⟨hB1, hb2⟩ := adv HB.out hb1
    have hs : w1.heap[w.heap.size]? = some (.cells #[.int .i64 low, .slice A rows.length c] 52 (0, 0)) := blk_below (by repeat (first | exact blk_newi _ (by simp) | refine blk_drewN ?_ _ | refine blk_drew ?_ | refine blk_alloc ?_ _)) hb1
    have hs_0 : w1.cell? ⟨w.heap.size, 0, none⟩ = some (.int .i64 low) := (blk_cell hs 0).trans rfl
    have hs_1 : w1.cell? ⟨w.heap.size, 1, none⟩ = some (.slice A rows.length c) := (blk_cell hs 1).trans rfl
    have hs_f0 : w1.frozen? ⟨w.heap.size, 0, none⟩ = false := blk_frozen hs 0
    have hs_f1 : w1.frozen? ⟨w.heap.size, 1, none⟩ = false := blk_frozen hs 1
    replace hs := Aside0.mk hs
    have hlt : w.heap.size < w1.heap.size := by have hq_ := hb1.size; simp at hq_; omega
    have hlt1 : w.heap.size < w1.heap.size + 1 := by have hq_ := hb1.size; simp at hq_; omega
    have hlt2 : w.heap.size < w1.heap.size + 1 + 1 := by have hq_ := hb1.size; simp at hq_; omega
    have hlt3 : w.heap.size < w1.heap.size + 1 + 1 + 1 := by have hq_ := hb1.size; simp at hq_; omega
    replace HB := Aside0.mk hB1
    clear hb1 hB1 hb2
    clear hc
    go_wp2
    refine wp_loop_rounds 1 ?_
    rw [rounds_succ]
    go_wp2
    go_ret
    exact ⟨ri HF.out.symm, below_set (below_set HB.out (by omega)) (by omega)⟩
end Go.Proofs.YtngpoonjonojhaaDoor
