/- Walks: parts and volumes of a strip. -/
import Derived.Test.YtngpoonjonojhaaDoorE09
import Derived.Test.YtngpoonjonojhaaDoorE08
import Derived.Test.YtngpoonjonojhaaDoorE11
set_option linter.all false
namespace Go.Proofs.YtngpoonjonojhaaDoor
open Go.RowKit Go.Proofs.YtngpoonjonojhaaDoorW.PrintWords Go.Proofs.YtngpoonjonojhaaDoorW.PrintLast
set_option linter.unusedVariables false

theorem solWithin_bound (l : List Slc) (b : Box) : 0 ≤ solWithin l b ∧ solWithin l b ≤ 700000000000 := by
  unfold solWithin
  by_cases h : b.x.b ≤ b.x.a ∨ b.y.b ≤ b.y.a
  · rw [if_pos h]; omega
  rw [if_neg h]
  by_cases hs : solCheck l = 0
  · rw [if_pos hs]
    obtain ⟨o1, o2, o3⟩ := solCheck_ok hs
    rw [← prts_vol]
    have hl := partsTo_len l b.z l.length
    have := @prtsVol_bound (partsTo l b.z l.length) ⟨b.x, b.y⟩ (fun j hj => ⟨(parts_bound o3 _ (Nat.le_refl _) j hj).1, (parts_bound o3 _ (Nat.le_refl _) j hj).2.1⟩) _ (Nat.le_refl _)
    omega
  · rw [if_neg hs]; omega
theorem volOf_bound (l : List Slc) (r : Rect) (z : Sp) : 0 ≤ volOf l r z ∧ volOf l r z ≤ 700000000000 := solWithin_bound l _

/-- The volume along the first n spans. -/
def volsTo (l : List Slc) (r : Rect) (zs : List Sp) : Nat → Int
  | 0 => 0
  | n + 1 => volsTo l r zs n + volOf l r (rd_Sp zs n)
theorem volsTo_bound (l : List Slc) (r : Rect) (zs : List Sp) : ∀ n, 0 ≤ volsTo l r zs n ∧ volsTo l r zs n ≤ 700000000000 * n
  | 0 => by simp [volsTo]
  | n + 1 => by
    have a := volsTo_bound l r zs n
    have b := volOf_bound l r (rd_Sp zs n)
    simp only [volsTo]
    omega

theorem part_calls (v0 v1 : Value) (xa xb ya yb k1 k2 k3 k4 t1 t2 t3 len p q : Int) (h0 : v0.oneCell' = true) (h1 : v1.oneCell' = true) (x1 : -600 ≤ xa) (x2 : xa ≤ 600) (p1 : 0 ≤ p) (p2 : p ≤ 4000) (q1 : 0 ≤ q) (q2 : q ≤ 4000) (w : World) :
    Calls Tryd.prog 63 #[.agg #[v0, v1, .int .i64 xa, .int .i64 xb, .int .i64 ya, .int .i64 yb, .int .i64 k1, .int .i64 k2, .int .i64 k3, .int .i64 k4, .int .i64 t1, .int .i64 t2, .int .i64 t3, .int .i64 len], .int .i64 p, .int .i64 q] w fun e w' => e = .returned (.agg #[.int .i64 (xa + p), .int .i64 (xa + q), .int .i64 ya, .int .i64 yb]) ∧ Below w.heap.size w w' := by
  go_enter Tryd.func63, Tryd.ntmps63
  go_wp2
  all_goals refine bodyPost_ret (by simp [results, Tryd.results63, go_sem]; rfl) rfl ⟨?_, BB⟩
  all_goals rfl

set_option maxHeartbeats 2000000 in
set_option maxRecDepth 100000 in
theorem svol_calls (A : Option Addr) (c : Nat) (l : List Slc) (A1 : Option Addr) (n1 c1 : Nat) (xa xb ya yb k1 k2 k3 k4 t1 t2 t3 len ra rb' sa sb : Int) (Az : Option Addr) (cz : Nat) (zs : List Sp) (hz : zs.length ≤ 1000) (w : World) (hr : Kd.C kSlc w A l.length l) (hzs : Kd.C kSp w Az zs.length zs) :
    Calls Tryd.prog 62 #[.agg #[.slice A l.length c, .slice A1 n1 c1, .int .i64 xa, .int .i64 xb, .int .i64 ya, .int .i64 yb, .int .i64 k1, .int .i64 k2, .int .i64 k3, .int .i64 k4, .int .i64 t1, .int .i64 t2, .int .i64 t3, .int .i64 len], .agg #[.int .i64 ra, .int .i64 rb', .int .i64 sa, .int .i64 sb], .slice Az zs.length cz] w fun e w' => e = .returned (.int .i64 (volsTo l ⟨⟨ra, rb'⟩, ⟨sa, sb⟩⟩ zs zs.length)) ∧ Below w.heap.size w w' := by
  have HB := Aside0.mk (Below.refl w.heap.size w)
  have HR := Aside0.mk hr
  have HZ := Aside0.mk hzs
  clear hr hzs
  go_enter Tryd.func62, Tryd.ntmps62
  go_wp2
  go_loopw [7, 12] (fun v i wr => ∃ k : Nat, k ≤ zs.length ∧ v = .int .i64 (volsTo l ⟨⟨ra, rb'⟩, ⟨sa, sb⟩⟩ zs k) ∧ i = .int .i64 k ∧ Aside0 (Below w.heap.size w wr) ∧ Aside0 (wr.heap[w.heap.size]? = some (.cells #[.slice A l.length c, .slice A1 n1 c1, .int .i64 xa, .int .i64 xb, .int .i64 ya, .int .i64 yb, .int .i64 k1, .int .i64 k2, .int .i64 k3, .int .i64 k4, .int .i64 t1, .int .i64 t2, .int .i64 t3, .int .i64 len] 137 (0, 0))) ∧ Aside0 (wr.heap[w.heap.size + 1]? = some (.cells #[.int .i64 ra, .int .i64 rb', .int .i64 sa, .int .i64 sb] 35 (0, 0)))) (fun _ i _ => zs.length - (intOf i).toNat)
  case atStart => exact ⟨0, by omega, rfl, rfl, ⟨BB⟩, ⟨by repeat (with_reducible first | refine blk_drewN ?_ _ | refine blk_drew ?_ | (refine blk_newi _ ?_; simp; done) | refine blk_alloc ?_ _)⟩, ⟨by repeat (with_reducible first | refine blk_drewN ?_ _ | refine blk_drew ?_ | (refine blk_newi _ ?_; simp; done) | refine blk_alloc ?_ _)⟩⟩
  case round =>
    clear HB
    obtain ⟨k, hk, rfl, rfl, HB, HK, HM⟩ := hrel
    by_cases hlt : k < zs.length
    · obtain ⟨ad, rfl, hx0, hx1⟩ := at_Sp (Kd.C_below HZ.out HB.out) k (by omega) (by omega)
      simp only [Int.toNat_natCast] at hx0 hx1
      have hk0 : wr.cell? ⟨w.heap.size, 0, none⟩ = some (.slice A l.length c) := (blk_cell HK.out 0).trans rfl
      have hm0 : wr.cell? ⟨w.heap.size + 1, 0, none⟩ = some (.int .i64 ra) := (blk_cell HM.out 0).trans rfl
      have hm1 : wr.cell? ⟨w.heap.size + 1, 1, none⟩ = some (.int .i64 rb') := (blk_cell HM.out 1).trans rfl
      have hm2 : wr.cell? ⟨w.heap.size + 1, 2, none⟩ = some (.int .i64 sa) := (blk_cell HM.out 2).trans rfl
      have hm3 : wr.cell? ⟨w.heap.size + 1, 3, none⟩ = some (.int .i64 sb) := (blk_cell HM.out 3).trans rfl
      have hsz := blk_lt HM.out
      have hsz1 : w.heap.size < wr.heap.size := by omega
      have vb := volOf_bound l ⟨⟨ra, rb'⟩, ⟨sa, sb⟩⟩ (rd_Sp zs k)
      have sb' := volsTo_bound l ⟨⟨ra, rb'⟩, ⟨sa, sb⟩⟩ zs k
      have HT := Aside0.mk (show volsTo l ⟨⟨ra, rb'⟩, ⟨sa, sb⟩⟩ zs (k + 1) = volsTo l ⟨⟨ra, rb'⟩, ⟨sa, sb⟩⟩ zs k + volOf l ⟨⟨ra, rb'⟩, ⟨sa, sb⟩⟩ (rd_Sp zs k) from rfl)
      go_upto_region 5 with (fail)
      go_wp2_with fail
      refine (solWithin_calls _ _ l _ _ _ _ _ _ _ ?c1).mono ?_
      case c1 => exact Kd.C_below HR.out (by have h := HB.out; exact BB)
      rintro e w2 ⟨rfl, hb1⟩
      rw [show solWithin l ⟨⟨ra, rb'⟩, ⟨sa, sb⟩, ⟨(rd_Sp zs k).a, (rd_Sp zs k).b⟩⟩ = volOf l ⟨⟨ra, rb'⟩, ⟨sa, sb⟩⟩ (rd_Sp zs k) from rfl]
      have HB1 := Aside0.mk (adv HB.out hb1).1
      have hK1 := (adv HB.out hb1).2
      have HK1 := Aside0.mk (blk_below HK.out hK1)
      have HM1 := Aside0.mk (blk_below HM.out hK1)
      clear hb1 hK1 HB HK HM hk0 hm0 hm1 hm2 hm3 hx0 hx1
      generalize volOf l ⟨⟨ra, rb'⟩, ⟨sa, sb⟩⟩ (rd_Sp zs k) = vv at *
      go_wp2
      go_roundw
      case rel => exact ⟨k + 1, by omega, by rw [HT.out], by go_num, HB1, HK1, HM1⟩
      case measure => simp [intOf]; omega
    · obtain rfl : k = zs.length := by omega
      go_wp2
      go_ret
      exact ⟨rfl, HB.out⟩
end Go.Proofs.YtngpoonjonojhaaDoor
