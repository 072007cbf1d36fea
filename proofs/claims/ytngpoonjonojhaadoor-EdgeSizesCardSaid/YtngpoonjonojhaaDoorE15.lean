/- Walks: the best box of a rectangle. -/
import Derived.Test.YtngpoonjonojhaaDoorE11
import Derived.Test.YtngpoonjonojhaaDoorE14
set_option linter.all false
namespace Go.Proofs.YtngpoonjonojhaaDoor
open Go.RowKit Go.Proofs.YtngpoonjonojhaaDoorW.PrintWords Go.Proofs.YtngpoonjonojhaaDoorW.PrintLast
set_option linter.unusedVariables false

def bA (b : Option (Sp × Int)) : Int := match b with | none => 0 | some (s, _) => s.a
def bB (b : Option (Sp × Int)) : Int := match b with | none => 0 | some (s, _) => s.b
def bV (b : Option (Sp × Int)) : Int := match b with | none => 0 | some (_, v) => v

theorem own_C {w : World} {base : Nat} {v : Value} {xs : List Int} (h : OwnRow (fun p c => c = [.int .i64 p]) 3 1 w base v xs) : ∃ A c, v = .slice A xs.length c ∧ xs.length ≤ c ∧ Kd.C (Kd.int .i64) w A xs.length xs := by
  obtain ⟨A, c, rfl, hc, hrow⟩ := OwnRow.reads h
  exact ⟨A, c, rfl, hc, ReadsRow.imp_ hrow (Below.refl _ _) (fun p cs hp => hp)⟩
theorem solLen_bound (l : List Slc) : 0 ≤ solLen l ∧ solLen l ≤ 20000 := by
  unfold solLen
  by_cases h : solCheck l = 0
  · rw [if_pos h]; exact lenTo_le (solCheck_ok h).2.2 _ (Nat.le_refl _)
  · rw [if_neg h]; omega
theorem lookOk_all {l : List Slc} {d : List Dft} {p : Prod} {r : Rect} (h : lookOk l d p r = true) : d.length ≤ 64 ∧ p.lengths.length ≤ 8 ∧ p.lengths.length = p.prices.length ∧ (∀ i, 0 ≤ rdI p.prices i ∧ rdI p.prices i ≤ 1000000) ∧ (∀ i : Nat, i < p.lengths.length → 0 ≤ rdI p.lengths i ∧ rdI p.lengths i ≤ 20000) ∧ l.length ≤ 24 := by
  simp only [lookOk, Bool.and_eq_true, decide_eq_true_eq] at h
  obtain ⟨⟨⟨⟨h1, h2⟩, h3⟩, h4⟩, h5⟩ := h
  have d1 : d.length ≤ 64 := by
    unfold dftCheck at h1
    by_cases c : 64 < d.length
    · rw [if_pos c] at h1; omega
    · omega
  have p1 : prodErr1 [p] 0 = 0 := by
    have h2 : firstErr (prodErr1 [p]) 1 = 0 := h2
    exact firstErr_zero h2 0 (by omega)
  have p2 : lenErr p.lengths p.prices = 0 := by
    unfold prodErr1 at p1
    split at p1
    · omega
    · split at p1
      · omega
      · split at p1
        · omega
        · exact p1
  unfold lenErr at p2
  split at p2
  · omega
  · split at p2
    · omega
    · split at p2
      · omega
      · split at p2
        · exact absurd p2 (by assumption)
        · rename_i a1 a2 a3 a4
          have a5 : firstErr (lenErr1 p.lengths) p.lengths.length = 0 := by omega
          refine ⟨d1, by omega, by omega, fun i => ?_, fun i hi => ?_, (solCheck_ok h3).1⟩
          · by_cases hi : i.toNat < p.prices.length
            · have q := firstErr_zero p2 i.toNat hi
              have q' : priceErr1 p.prices i.toNat = 0 := q
              unfold priceErr1 at q'
              have e : rdI p.prices (i.toNat : Int) = rdI p.prices i := by unfold rdI; congr 1
              rw [e] at q'
              split at q' <;> omega
            · have e : rdI p.prices i = 0 := by unfold rdI; rw [List.getD_eq_getElem?_getD, List.getElem?_eq_none (by omega)]; rfl
              omega
          · have q := firstErr_zero a5 i hi
            have q' : lenErr1 p.lengths i = 0 := q
            unfold lenErr1 at q'
            split at q'
            · omega
            · omega
theorem stepsIn_eq {len step : Int} {k : Nat} (hs : 1 ≤ step) (h1 : len ≤ k * step) (h2 : k = 0 ∨ ((k : Int) - 1) * step < len) : stepsIn len step = k := by
  unfold stepsIn
  rcases h2 with rfl | h2
  · have h3 : len ≤ 0 := by simpa using h1
    have : (len + step - 1) / step ≤ 0 := by
      have := Int.ediv_le_ediv (c := step) (by omega) (show len + step - 1 ≤ step - 1 by omega)
      rw [Int.ediv_eq_zero_of_lt (a := step - 1) (by omega) (by omega)] at this
      exact this
    omega
  · have e : (len + step - 1) / step = k := by
      rw [show ((k : Int) - 1) * step = k * step - step by rw [Int.sub_mul, Int.one_mul]] at h2
      have a : (k : Int) ≤ (len + step - 1) / step := Int.le_ediv_of_mul_le (by omega) (by omega)
      have b : (len + step - 1) / step < k + 1 := Int.ediv_lt_of_lt_mul (by omega) (by rw [Int.add_mul, Int.one_mul]; omega)
      omega
    rw [e]; rfl

set_option maxHeartbeats 4000000 in
set_option maxRecDepth 100000 in
theorem wbest_calls (A : Option Addr) (c : Nat) (l : List Slc) (A' : Option Addr) (c' : Nat) (d : List Dft) (p : Prod) (A5 : Option Addr) (c5 : Nat) (A6 : Option Addr) (c6 : Nat) (r : Rect) (step fine : Int) (w : World)
    (hl : Kd.C kSlc w A l.length l) (hd : Kd.C kDft w A' d.length d) (hn : p.name.size ≤ 9223372036854775807) (l5 : p.lengths.length ≤ c5) (h5 : Kd.C (Kd.int .i64) w A5 p.lengths.length p.lengths) (l6 : p.prices.length ≤ c6) (h6 : Kd.C (Kd.int .i64) w A6 p.prices.length p.prices) :
    Calls Tryd.prog 77 #[.slice A l.length c, .slice A' d.length c', .agg #[.string p.name, .int .i64 p.thick, .int .i64 p.width, .int .i64 p.allow, .int .i64 p.wane, .slice A5 p.lengths.length c5, .slice A6 p.prices.length c6], .agg #[.int .i64 r.x.a, .int .i64 r.x.b, .int .i64 r.y.a, .int .i64 r.y.b], .int .i64 step, .int .i64 fine] w fun e w' => e = .returned (.tuple #[.agg #[.int .i64 (bA (bestOf l d p r step fine)), .int .i64 (bB (bestOf l d p r step fine))], .int .i64 (bV (bestOf l d p r step fine)), .bool (bestOf l d p r step fine).isSome]) ∧ Below w.heap.size w w' := by
  have HB := Aside0.mk (Below.refl w.heap.size w)
  have HL := Aside0.mk hl
  have HD := Aside0.mk hd
  have HN := Aside0.mk hn
  have H5 := Aside0.mk h5
  have H6 := Aside0.mk h6
  have HL5 := Aside0.mk l5
  have HL6 := Aside0.mk l6
  clear hl hd hn h5 h6 l5 l6
  obtain ⟨R, hR⟩ : ∃ R, R = bestOf l d p r step fine := ⟨_, rfl⟩
  rw [← hR]
  have HR := Aside0.mk hR
  clear hR
  go_enter Tryd.func77, Tryd.ntmps77
  go_wp2_with fail
  refine (look_calls _ _ l _ _ d p _ _ _ _ r _ ?c1 ?c2 HN.out HL5.out ?c3 HL6.out ?c4).mono ?_
  case c1 => exact Kd.C_below HL.out BB
  case c2 => exact Kd.C_below HD.out BB
  case c3 => exact Kd.C_below H5.out BB
  case c4 => exact Kd.C_below H6.out BB
  rintro e w1 ⟨(⟨hno, rfl⟩ | ⟨hyes, v, v', rfl, hoe, how⟩), hb1⟩
  · have HNL := Aside0.mk hno
    clear hno
    have hp : w1.heap[w.heap.size]? = some (.cells #[.string p.name, .int .i64 p.thick, .int .i64 p.width, .int .i64 p.allow, .int .i64 p.wane, .slice A5 p.lengths.length c5, .slice A6 p.prices.length c6] 43 (0, 0)) := blk_below (by repeat (first | exact blk_newi _ (by simp) | refine blk_drewN ?_ _ | refine blk_drew ?_ | refine blk_alloc ?_ _)) hb1
    have hz : w1.heap[w.heap.size + 1 + 1]? = some (.cells #[.int .i64 0, .int .i64 0] 33 (0, 0)) := blk_below (by repeat (first | exact blk_newi _ (by simp) | refine blk_drewN ?_ _ | refine blk_drew ?_ | refine blk_alloc ?_ _)) hb1
    have HP := Aside0.mk hp
    have HZ := Aside0.mk hz
    have hB := (adv HB.out hb1).1
    clear HB
    have HB := Aside0.mk hB
    clear hp hz hb1 hB
    obtain ⟨W2, hW2⟩ : ∃ W2, W2 = w1.alloc (.cells #[.slice none 0 0, .string ⟨#[]⟩, .int .i64 0, .int .i64 0, .int .i64 0, .int .i64 0, .slice none 0 0, .slice none 0 0, .int .i64 0, .int .i64 0, .int .i64 0, .int .i64 0, .int .i64 0, .slice none 0 0, .slice none 0 0] 180) := ⟨_, rfl⟩
    go_upto_region 2 with (fail)
    rw [← hW2]
    have HZ2 := Aside0.mk (show W2.heap[w.heap.size + 1 + 1]? = some (.cells #[.int .i64 0, .int .i64 0] 33 (0, 0)) by rw [hW2]; exact blk_alloc HZ.out _)
    have HB2 := Aside0.mk (show Below w.heap.size w W2 by rw [hW2]; exact below_alloc HB.out _)
    clear HZ HB hW2 HP
    have HZ := HZ2
    have HB := HB2
    clear HZ2 HB2
    have HNO := Aside0.mk (show R = none by rw [HR.out]; unfold bestOf; rw [HNL.out]; rfl)
    have hz0 : W2.cell? ⟨w.heap.size + 1 + 1, 0, none⟩ = some (.int .i64 0) := (blk_cell HZ.out 0).trans rfl
    have hzf0 : W2.frozen? ⟨w.heap.size + 1 + 1, 0, none⟩ = false := blk_frozen HZ.out 0
    have hz1 : W2.cell? ⟨w.heap.size + 1 + 1, 1, none⟩ = some (.int .i64 0) := (blk_cell HZ.out 1).trans rfl
    have hzf1 : W2.frozen? ⟨w.heap.size + 1 + 1, 1, none⟩ = false := blk_frozen HZ.out 1
    go_wp2_with fail
    clear hz0 hz1 hzf0 hzf1
    have HB_ := Aside0.mk (below_set (j := 1) (v := .int .i64 0) (below_set (j := 0) (v := .int .i64 0) HB.out (show w.heap.size ≤ w.heap.size + 1 + 1 by omega)) (show w.heap.size ≤ w.heap.size + 1 + 1 by omega))
    have HZ_ := Aside0.mk (blk_put (blk_put HZ.out 0 (.int .i64 0) rfl) 1 (.int .i64 0) rfl)
    generalize ((W2).setCell ⟨w.heap.size + 1 + 1, 0, none⟩ (.int .i64 0)).setCell ⟨w.heap.size + 1 + 1, 1, none⟩ (.int .i64 0) = W9 at *
    clear HB
    have HB := HB_
    clear HB_
    clear HZ
    have HZ := HZ_
    clear HZ_
    refine bodyPost_ret (results_cell_tmp2 rfl _ _ (w.heap.size + 1 + 1) 33 #[.int .i64 0, .int .i64 0] (0, 0) _ rfl HZ.out Tryd.underlying33 rfl (by kernel_rfl)) rfl ⟨by rw [HNO.out]; rfl, HB.out⟩
  obtain ⟨Ae, ce, rfl, hle, hce⟩ := own_C hoe
  obtain ⟨Aw, cw, rfl, hlw, hcw⟩ := own_C how
  clear hoe how hle hlw
  have HCE := Aside0.mk hce
  have HCW := Aside0.mk hcw
  have HYES := Aside0.mk hyes
  clear hce hcw hyes
  have hp : w1.heap[w.heap.size]? = some (.cells #[.string p.name, .int .i64 p.thick, .int .i64 p.width, .int .i64 p.allow, .int .i64 p.wane, .slice A5 p.lengths.length c5, .slice A6 p.prices.length c6] 43 (0, 0)) := blk_below (by repeat (first | exact blk_newi _ (by simp) | refine blk_drewN ?_ _ | refine blk_drew ?_ | refine blk_alloc ?_ _)) hb1
  have hz : w1.heap[w.heap.size + 1 + 1]? = some (.cells #[.int .i64 0, .int .i64 0] 33 (0, 0)) := blk_below (by repeat (first | exact blk_newi _ (by simp) | refine blk_drewN ?_ _ | refine blk_drew ?_ | refine blk_alloc ?_ _)) hb1
  have HP := Aside0.mk hp
  have HZ := Aside0.mk hz
  have hB := (adv HB.out hb1).1
  clear HB
  have HB := Aside0.mk hB
  clear hp hz hb1 hB
  obtain ⟨W2, hW2⟩ : ∃ W2, W2 = w1.alloc (.cells #[.slice A' d.length c', .string p.name, .int .i64 p.thick, .int .i64 p.width, .int .i64 p.allow, .int .i64 p.wane, .slice A5 p.lengths.length c5, .slice A6 p.prices.length c6, .int .i64 r.x.a, .int .i64 r.x.b, .int .i64 r.y.a, .int .i64 r.y.b, .int .i64 (solLen l), .slice Ae (endsTo l l.length).length ce, .slice Aw (wanesTo l r l.length).length cw] 180) := ⟨_, rfl⟩
  go_upto_region 2 with (fail)
  rw [← hW2]
  have HZ2 := Aside0.mk (show W2.heap[w.heap.size + 1 + 1]? = some (.cells #[.int .i64 0, .int .i64 0] 33 (0, 0)) by rw [hW2]; exact blk_alloc HZ.out _)
  have HP2 := Aside0.mk (show W2.heap[w.heap.size]? = some (.cells #[.string p.name, .int .i64 p.thick, .int .i64 p.width, .int .i64 p.allow, .int .i64 p.wane, .slice A5 p.lengths.length c5, .slice A6 p.prices.length c6] 43 (0, 0)) by rw [hW2]; exact blk_alloc HP.out _)
  have HK2 := Aside0.mk (show W2.heap[w1.heap.size]? = some (.cells #[.slice A' d.length c', .string p.name, .int .i64 p.thick, .int .i64 p.width, .int .i64 p.allow, .int .i64 p.wane, .slice A5 p.lengths.length c5, .slice A6 p.prices.length c6, .int .i64 r.x.a, .int .i64 r.x.b, .int .i64 r.y.a, .int .i64 r.y.b, .int .i64 (solLen l), .slice Ae (endsTo l l.length).length ce, .slice Aw (wanesTo l r l.length).length cw] 180 (0, 0)) by rw [hW2]; exact blk_new _ _)
  have HB2 := Aside0.mk (show Below w.heap.size w W2 by rw [hW2]; exact below_alloc HB.out _)
  have HCE2 := Aside0.mk (show Kd.C (Kd.int .i64) W2 Ae (endsTo l l.length).length (endsTo l l.length) by rw [hW2]; exact Kd.C_below HCE.out BB)
  have HCW2 := Aside0.mk (show Kd.C (Kd.int .i64) W2 Aw (wanesTo l r l.length).length (wanesTo l r l.length) by rw [hW2]; exact Kd.C_below HCW.out BB)
  clear HZ HB hW2 HP HCE HCW
  generalize w1.heap.size = gk at *
  rcases hs : (decide (1 ≤ step) && decide (step ≤ 20000)) with _ | _
  · go_wp2_with fail
    refine (from_calls _ _ _ _).mono ?_
    rintro e w3 ⟨rfl, hb1⟩
    obtain ⟨hB1, hb2⟩ := adv HB2.out hb1
    replace HZ2 := Aside0.mk (blk_below HZ2.out hb2)
    replace HB2 := Aside0.mk hB1
    clear hb1 hB1 hb2
    rw [hs]
    have HB := HB2
    have HZ := HZ2
    clear HB2 HZ2
    have HNO := Aside0.mk (show R = none by rw [HR.out]; unfold bestOf; rw [hs, Bool.false_and, Bool.and_false]; rfl)
    have hz0 : w3.cell? ⟨w.heap.size + 1 + 1, 0, none⟩ = some (.int .i64 0) := (blk_cell HZ.out 0).trans rfl
    have hzf0 : w3.frozen? ⟨w.heap.size + 1 + 1, 0, none⟩ = false := blk_frozen HZ.out 0
    have hz1 : w3.cell? ⟨w.heap.size + 1 + 1, 1, none⟩ = some (.int .i64 0) := (blk_cell HZ.out 1).trans rfl
    have hzf1 : w3.frozen? ⟨w.heap.size + 1 + 1, 1, none⟩ = false := blk_frozen HZ.out 1
    go_wp2_with fail
    clear hz0 hz1 hzf0 hzf1
    have HB_ := Aside0.mk (below_set (j := 1) (v := .int .i64 0) (below_set (j := 0) (v := .int .i64 0) HB.out (show w.heap.size ≤ w.heap.size + 1 + 1 by omega)) (show w.heap.size ≤ w.heap.size + 1 + 1 by omega))
    have HZ_ := Aside0.mk (blk_put (blk_put HZ.out 0 (.int .i64 0) rfl) 1 (.int .i64 0) rfl)
    generalize ((w3).setCell ⟨w.heap.size + 1 + 1, 0, none⟩ (.int .i64 0)).setCell ⟨w.heap.size + 1 + 1, 1, none⟩ (.int .i64 0) = W9 at *
    clear HB
    have HB := HB_
    clear HB_
    clear HZ
    have HZ := HZ_
    clear HZ_
    refine bodyPost_ret (results_cell_tmp2 rfl _ _ (w.heap.size + 1 + 1) 33 #[.int .i64 0, .int .i64 0] (0, 0) _ rfl HZ.out Tryd.underlying33 rfl (by kernel_rfl)) rfl ⟨by rw [HNO.out]; rfl, HB.out⟩
  rcases hf : (decide (0 ≤ fine) && decide (fine ≤ 1000000)) with _ | _
  · go_wp2_with fail
    refine (from_calls _ _ _ _).mono ?_
    rintro e w3 ⟨rfl, hb1⟩
    obtain ⟨hB1, hb2⟩ := adv HB2.out hb1
    replace HZ2 := Aside0.mk (blk_below HZ2.out hb2)
    replace HB2 := Aside0.mk hB1
    clear hb1 hB1 hb2
    rw [hs]
    go_wp2_with fail
    refine (from_calls _ _ _ _).mono ?_
    rintro e w4 ⟨rfl, hb1⟩
    obtain ⟨hB1, hb2⟩ := adv HB2.out hb1
    replace HZ2 := Aside0.mk (blk_below HZ2.out hb2)
    replace HB2 := Aside0.mk hB1
    clear hb1 hB1 hb2
    rw [hf]
    have HB := HB2
    have HZ := HZ2
    clear HB2 HZ2
    have HNO := Aside0.mk (show R = none by rw [HR.out]; unfold bestOf; rw [hf, Bool.and_false, Bool.and_false]; rfl)
    have hz0 : w4.cell? ⟨w.heap.size + 1 + 1, 0, none⟩ = some (.int .i64 0) := (blk_cell HZ.out 0).trans rfl
    have hzf0 : w4.frozen? ⟨w.heap.size + 1 + 1, 0, none⟩ = false := blk_frozen HZ.out 0
    have hz1 : w4.cell? ⟨w.heap.size + 1 + 1, 1, none⟩ = some (.int .i64 0) := (blk_cell HZ.out 1).trans rfl
    have hzf1 : w4.frozen? ⟨w.heap.size + 1 + 1, 1, none⟩ = false := blk_frozen HZ.out 1
    go_wp2_with fail
    clear hz0 hz1 hzf0 hzf1
    have HB_ := Aside0.mk (below_set (j := 1) (v := .int .i64 0) (below_set (j := 0) (v := .int .i64 0) HB.out (show w.heap.size ≤ w.heap.size + 1 + 1 by omega)) (show w.heap.size ≤ w.heap.size + 1 + 1 by omega))
    have HZ_ := Aside0.mk (blk_put (blk_put HZ.out 0 (.int .i64 0) rfl) 1 (.int .i64 0) rfl)
    generalize ((w4).setCell ⟨w.heap.size + 1 + 1, 0, none⟩ (.int .i64 0)).setCell ⟨w.heap.size + 1 + 1, 1, none⟩ (.int .i64 0) = W9 at *
    clear HB
    have HB := HB_
    clear HB_
    clear HZ
    have HZ := HZ_
    clear HZ_
    refine bodyPost_ret (results_cell_tmp2 rfl _ _ (w.heap.size + 1 + 1) 33 #[.int .i64 0, .int .i64 0] (0, 0) _ rfl HZ.out Tryd.underlying33 rfl (by kernel_rfl)) rfl ⟨by rw [HNO.out]; rfl, HB.out⟩
  go_wp2_with fail
  refine (from_calls _ _ _ _).mono ?_
  rintro e w3 ⟨rfl, hb1⟩
  have HP3 := Aside0.mk (blk_below HP2.out hb1)
  have HK3 := Aside0.mk (blk_below HK2.out hb1)
  have HZ3 := Aside0.mk (blk_below HZ2.out hb1)
  have HCE3 := Aside0.mk (Kd.C_below HCE2.out hb1)
  have HCW3 := Aside0.mk (Kd.C_below HCW2.out hb1)
  have HB3 := Aside0.mk (below_then HB2.out HB2.out.size hb1)
  clear HP2 HK2 HZ2 HCE2 HCW2 HB2 hb1
  rw [hs]
  go_wp2_with fail
  refine (from_calls _ _ _ _).mono ?_
  rintro e w4 ⟨rfl, hb1⟩
  have HP4 := Aside0.mk (blk_below HP3.out hb1)
  have HK4 := Aside0.mk (blk_below HK3.out hb1)
  have HZ4 := Aside0.mk (blk_below HZ3.out hb1)
  have HCE4 := Aside0.mk (Kd.C_below HCE3.out hb1)
  have HCW4 := Aside0.mk (Kd.C_below HCW3.out hb1)
  have HB4 := Aside0.mk (below_then HB3.out HB3.out.size hb1)
  clear HP3 HK3 HZ3 HCE3 HCW3 HB3 hb1
  rw [hf]
  have HR1 := Aside0.mk (show R = bestTo (fun z => worthK d p r (solLen l) (endsTo l l.length) (wanesTo l r l.length) z fine) p.lengths step (stepsIn (solLen l) step) by rw [HR.out]; unfold bestOf; rw [HYES.out, hs, hf]; rfl)
  simp only [Bool.and_eq_true, decide_eq_true_eq] at hs hf
  obtain ⟨s1, s2⟩ := hs
  obtain ⟨f1, f2⟩ := hf
  have sl := solLen_bound l
  obtain ⟨sl1, sl2⟩ := sl
  have la := lookOk_all HYES.out
  obtain ⟨a1, a2, a3, a4, a5, a6⟩ := la
  have A3 := Aside0.mk a3
  have A4 := Aside0.mk a4
  have A5' := Aside0.mk a5
  clear a3 a4 a5 HR HYES
  have HL4 := Aside0.mk (Kd.C_below HL.out HB4.out)
  have HD4 := Aside0.mk (Kd.C_below HD.out HB4.out)
  have H54 := Aside0.mk (Kd.C_below H5.out HB4.out)
  have H64 := Aside0.mk (Kd.C_below H6.out HB4.out)
  clear HL HD H5 H6
  obtain ⟨F, hF⟩ : ∃ F : Sp → Option Int, F = fun z => worthK d p r (solLen l) (endsTo l l.length) (wanesTo l r l.length) z fine := ⟨_, rfl⟩
  rw [← hF] at HR1
  have HF := Aside0.mk hF
  clear hF
  go_upto_region 6 with (fail)
  have HN4 := Aside0.mk (show (w4.alloc (.cells #[.int .i64 0, .int .i64 0] 33)).heap[w4.heap.size]? = some (.cells #[.int .i64 0, .int .i64 0] 33 (0, 0)) from blk_new _ _)
  have HM4 := Aside0.mk (show Below w4.heap.size w4 (w4.alloc (.cells #[.int .i64 0, .int .i64 0] 33)) from BB)
  generalize w4.alloc (.cells #[.int .i64 0, .int .i64 0] 33) = W5 at *
  have hp1 := blk_lt HP4.out
  have hk1 := blk_lt HK4.out
  have hz1 := blk_lt HZ4.out
  have hsz := HB4.out.size
  go_wp2_with fail
  go_loopw [18, 19, 20] (fun v f at_ wr => ∃ k : Nat, v = .int .i64 (bV (bestTo F p.lengths step k)) ∧ f = .bool (bestTo F p.lengths step k).isSome ∧ at_ = .int .i64 (k * step) ∧ (k = 0 ∨ ((k : Int) - 1) * step < solLen l) ∧ Aside0 (Below w4.heap.size w4 wr) ∧ Aside0 (wr.heap[w4.heap.size]? = some (.cells #[.int .i64 (bA (bestTo F p.lengths step k)), .int .i64 (bB (bestTo F p.lengths step k))] 33 (0, 0)))) (fun _ _ a _ => (solLen l - intOf a).toNat)
  case atStart => exact ⟨0, rfl, rfl, by go_num, Or.inl rfl, HM4, HN4⟩
  case round =>
    clear HM4 HN4
    obtain ⟨k, rfl, rfl, rfl, hk0, HM, HN⟩ := hrel
    have HKw := Aside0.mk (blk_below HK4.out HM.out)
    have HPw := Aside0.mk (blk_below HP4.out HM.out)
    obtain ⟨pos, hpos⟩ : ∃ q : Int, q = (k : Int) * step := ⟨_, rfl⟩
    rw [← hpos]
    have hq0 : 0 ≤ pos := by rw [hpos]; exact Int.mul_nonneg (by omega) (by omega)
    have hpk : (((k + 1 : Nat) : Int)) * step = pos + step := by rw [hpos]; push_cast; rw [Int.add_mul, Int.one_mul]
    have hk12 : wr.cell? ⟨gk, 12, none⟩ = some (.int .i64 (solLen l)) := (blk_cell HKw.out 12).trans rfl
    have hp5 : wr.cell? ⟨w.heap.size, 5, none⟩ = some (.slice A5 p.lengths.length c5) := (blk_cell HPw.out 5).trans rfl
    by_cases hlt : pos < solLen l
    · obtain ⟨b0, hb0⟩ : ∃ b0, b0 = bestTo F p.lengths step k := ⟨_, rfl⟩
      have HB0 := Aside0.mk (show bestTo F p.lengths step (k + 1) = bestIn F p.lengths pos b0 p.lengths.length by rw [hpos, hb0]; rfl)
      have HPK := Aside0.mk hpk
      have HPOS := Aside0.mk hpos
      rw [← hb0] at HN ⊢
      clear hb0 hpk hpos hk0
      go_wp2
      clear hk12 hp5 HKw HPw
      go_loopw [18, 19, 57] (fun v f i wr => ∃ j : Nat, j ≤ p.lengths.length ∧ v = .int .i64 (bV (bestIn F p.lengths pos b0 j)) ∧ f = .bool (bestIn F p.lengths pos b0 j).isSome ∧ i = .int .i64 j ∧ Aside0 (Below w4.heap.size w4 wr) ∧ Aside0 (wr.heap[w4.heap.size]? = some (.cells #[.int .i64 (bA (bestIn F p.lengths pos b0 j)), .int .i64 (bB (bestIn F p.lengths pos b0 j))] 33 (0, 0)))) (fun _ _ i _ => p.lengths.length - (intOf i).toNat)
      case atStart => exact ⟨0, by omega, rfl, rfl, rfl, HM, HN⟩
      case round =>
        clear HM HN
        rename_i wq
        obtain ⟨j, hj, rfl, rfl, rfl, HM, HN⟩ := hrel
        by_cases hlj : j < p.lengths.length
        · obtain ⟨ad, rfl, hx⟩ := Kd.at_int (Kd.C_below H54.out HM.out) j (by omega) (by omega)
          simp only [Int.toNat_natCast] at hx
          have b1 : 0 ≤ rd p.lengths j ∧ rd p.lengths j ≤ 20000 := A5'.out j hlj
          obtain ⟨b1, b2⟩ := b1
          obtain ⟨b, hb⟩ : ∃ b, b = bestIn F p.lengths pos b0 j := ⟨_, rfl⟩
          obtain ⟨o, ho⟩ : ∃ o, o = F ⟨pos, pos + rd p.lengths j⟩ := ⟨_, rfl⟩
          have HT := Aside0.mk (show bestIn F p.lengths pos b0 (j + 1) = better b ⟨pos, pos + rd p.lengths j⟩ o by rw [hb, ho]; rfl)
          rw [← hb] at HN ⊢
          clear hb
          have HO := Aside0.mk ho
          clear ho
          go_upto_region 13 with (fail)
          obtain ⟨W6, hW6⟩ : ∃ W6, W6 = wr.alloc (.cells #[.int .i64 pos, .int .i64 (pos + rd p.lengths j)] 33) := ⟨_, rfl⟩
          have HV := Aside0.mk (show W6.heap[wr.heap.size]? = some (.cells #[.int .i64 pos, .int .i64 (pos + rd p.lengths j)] 33 (0, 0)) by rw [hW6]; exact blk_new _ _)
          have HN6 := Aside0.mk (show W6.heap[w4.heap.size]? = some (.cells #[.int .i64 (bA b), .int .i64 (bB b)] 33 (0, 0)) by rw [hW6]; exact blk_alloc HN.out _)
          have HM6 := Aside0.mk (show Below w4.heap.size w4 W6 by rw [hW6]; exact below_alloc HM.out _)
          rw [← hW6]
          have hzn := blk_lt HN.out
          clear hW6 HN HM hx
          generalize wr.heap.size = gz at *
          have HK6 := Aside0.mk (blk_below HK4.out HM6.out)
          have hk0 : W6.cell? ⟨gk, 0, none⟩ = some (.slice A' d.length c') := (blk_cell HK6.out 0).trans rfl
          have hk1 : W6.cell? ⟨gk, 1, none⟩ = some (.string p.name) := (blk_cell HK6.out 1).trans rfl
          have hk2 : W6.cell? ⟨gk, 2, none⟩ = some (.int .i64 p.thick) := (blk_cell HK6.out 2).trans rfl
          have hk3 : W6.cell? ⟨gk, 3, none⟩ = some (.int .i64 p.width) := (blk_cell HK6.out 3).trans rfl
          have hk4 : W6.cell? ⟨gk, 4, none⟩ = some (.int .i64 p.allow) := (blk_cell HK6.out 4).trans rfl
          have hk5 : W6.cell? ⟨gk, 5, none⟩ = some (.int .i64 p.wane) := (blk_cell HK6.out 5).trans rfl
          have hk6 : W6.cell? ⟨gk, 6, none⟩ = some (.slice (some ad) p.lengths.length c5) := (blk_cell HK6.out 6).trans rfl
          have hk7 : W6.cell? ⟨gk, 7, none⟩ = some (.slice A6 p.prices.length c6) := (blk_cell HK6.out 7).trans rfl
          have hk8 : W6.cell? ⟨gk, 8, none⟩ = some (.int .i64 r.x.a) := (blk_cell HK6.out 8).trans rfl
          have hk9 : W6.cell? ⟨gk, 9, none⟩ = some (.int .i64 r.x.b) := (blk_cell HK6.out 9).trans rfl
          have hk10 : W6.cell? ⟨gk, 10, none⟩ = some (.int .i64 r.y.a) := (blk_cell HK6.out 10).trans rfl
          have hk11 : W6.cell? ⟨gk, 11, none⟩ = some (.int .i64 r.y.b) := (blk_cell HK6.out 11).trans rfl
          have hk12 : W6.cell? ⟨gk, 12, none⟩ = some (.int .i64 (solLen l)) := (blk_cell HK6.out 12).trans rfl
          have hk13 : W6.cell? ⟨gk, 13, none⟩ = some (.slice Ae (endsTo l l.length).length ce) := (blk_cell HK6.out 13).trans rfl
          have hk14 : W6.cell? ⟨gk, 14, none⟩ = some (.slice Aw (wanesTo l r l.length).length cw) := (blk_cell HK6.out 14).trans rfl
          have hz0 : W6.cell? ⟨gz, 0, none⟩ = some (.int .i64 pos) := (blk_cell HV.out 0).trans rfl
          have hz1 : W6.cell? ⟨gz, 1, none⟩ = some (.int .i64 (pos + rd p.lengths j)) := (blk_cell HV.out 1).trans rfl
          go_wp2_with fail
          refine (lworth_calls _ _ _ _ _ _ _ _ _ _ _ _ _ _ _ _ _ _ _ _ _ _ _ _ _ _ _ _ ?g1 ?g2 ?g3 ?g4 ?g5 ?g6 ?g7 ?g8 ?g9 _ ?c1 ?c2 ?c3 ?c4 ?c5).mono ?_
          case g1 => exact a1
          case g2 => omega
          case g3 => exact A3.out
          case g4 => exact A4.out
          case g5 => exact f1
          case g6 => exact f2
          case g7 => rw [endsTo_len]; omega
          case g8 => rw [endsTo_len, wanesTo_len]
          case g9 => omega
          case c1 => exact Kd.C_below HD4.out HM6.out
          case c2 => exact Kd.C_below H54.out HM6.out
          case c3 => exact Kd.C_below H64.out HM6.out
          case c4 => exact Kd.C_below HCE4.out HM6.out
          case c5 => exact Kd.C_below HCW4.out HM6.out
          rintro e w7 ⟨he, hb7⟩
          have he' : e = .returned (.tuple #[.int .i64 (o.getD 0), .bool o.isSome]) := he.trans (by rw [HO.out, HF.out] <;> rfl)
          clear he
          subst he'
          have HN := Aside0.mk (blk_below HN6.out hb7)
          have HV7 := Aside0.mk (blk_below HV.out hb7)
          have HM := Aside0.mk (below_then HM6.out HM6.out.size hb7)
          clear HN6 HM6 HV HK6 hb7 HO hk0 hk1 hk2 hk3 hk4 hk5 hk6 hk7 hk8 hk9 hk10 hk11 hk12 hk13 hk14 hz0 hz1
          rcases o with _ | v
          · have HT1 := Aside0.mk (show bestIn F p.lengths pos b0 (j + 1) = b from HT.out)
            clear HT
            dsimp only [Option.getD, Option.isSome_none]
            go_wp2
            go_roundw
            case rel => exact ⟨j + 1, by omega, by rw [HT1.out], by rw [HT1.out], by go_num, HM, ⟨by rw [HT1.out]; exact HN.out⟩⟩
            case measure => simp [intOf]; omega
          · rcases b with _ | ⟨s, x⟩
            · have HT1 := Aside0.mk (show bestIn F p.lengths pos b0 (j + 1) = some (⟨pos, pos + rd p.lengths j⟩, v) from HT.out)
              clear HT
              dsimp only [Option.getD, Option.isSome_some, Option.isSome_none, bV, bA, bB] at HN ⊢
              have hz0 : w7.cell? ⟨gz, 0, none⟩ = some (.int .i64 pos) := (blk_cell HV7.out 0).trans rfl
              have hz1 : w7.cell? ⟨gz, 1, none⟩ = some (.int .i64 (pos + rd p.lengths j)) := (blk_cell HV7.out 1).trans rfl
              have hn0 : w7.cell? ⟨w4.heap.size, 0, none⟩ = some (.int .i64 (0)) := (blk_cell HN.out 0).trans rfl
              have hnf0 : w7.frozen? ⟨w4.heap.size, 0, none⟩ = false := blk_frozen HN.out 0
              have hn1 : w7.cell? ⟨w4.heap.size, 1, none⟩ = some (.int .i64 (0)) := (blk_cell HN.out 1).trans rfl
              have hnf1 : w7.frozen? ⟨w4.heap.size, 1, none⟩ = false := blk_frozen HN.out 1
              go_upto_region 16 with (fail)
              clear hz0 hz1 hn0 hn1 hnf0 hnf1
              have HM_ := Aside0.mk (below_set (j := 1) (v := .int .i64 (pos + rd p.lengths j)) (below_set (j := 0) (v := .int .i64 pos) HM.out (Nat.le_refl _)) (Nat.le_refl _))
              have HN_ := Aside0.mk (blk_put (cs' := #[.int .i64 pos, .int .i64 (pos + rd p.lengths j)]) (blk_put (cs' := #[.int .i64 pos, .int .i64 (0)]) HN.out 0 (.int .i64 pos) rfl) 1 (.int .i64 (pos + rd p.lengths j)) rfl)
              generalize ((w7).setCell ⟨w4.heap.size, 0, none⟩ (.int .i64 pos)).setCell ⟨w4.heap.size, 1, none⟩ (.int .i64 (pos + rd p.lengths j)) = W8 at *
              clear HM
              have HM := HM_
              clear HM_
              clear HN
              have HN := HN_
              clear HN_
              go_wp2
              go_roundw
              case rel => exact ⟨j + 1, by omega, by rw [HT1.out]; rfl, by rw [HT1.out]; rfl, by go_num, HM, ⟨by rw [HT1.out]; exact HN.out⟩⟩
              case measure => simp [intOf]; omega
            · by_cases hx : x < v
              · have HT1 := Aside0.mk (show bestIn F p.lengths pos b0 (j + 1) = some (⟨pos, pos + rd p.lengths j⟩, v) from HT.out.trans (if_pos hx))
                clear HT
                dsimp only [Option.getD, Option.isSome_some, Option.isSome_none, bV, bA, bB] at HN ⊢
                have hz0 : w7.cell? ⟨gz, 0, none⟩ = some (.int .i64 pos) := (blk_cell HV7.out 0).trans rfl
                have hz1 : w7.cell? ⟨gz, 1, none⟩ = some (.int .i64 (pos + rd p.lengths j)) := (blk_cell HV7.out 1).trans rfl
                have hn0 : w7.cell? ⟨w4.heap.size, 0, none⟩ = some (.int .i64 (s.a)) := (blk_cell HN.out 0).trans rfl
                have hnf0 : w7.frozen? ⟨w4.heap.size, 0, none⟩ = false := blk_frozen HN.out 0
                have hn1 : w7.cell? ⟨w4.heap.size, 1, none⟩ = some (.int .i64 (s.b)) := (blk_cell HN.out 1).trans rfl
                have hnf1 : w7.frozen? ⟨w4.heap.size, 1, none⟩ = false := blk_frozen HN.out 1
                go_upto_region 16 with (fail)
                clear hz0 hz1 hn0 hn1 hnf0 hnf1
                have HM_ := Aside0.mk (below_set (j := 1) (v := .int .i64 (pos + rd p.lengths j)) (below_set (j := 0) (v := .int .i64 pos) HM.out (Nat.le_refl _)) (Nat.le_refl _))
                have HN_ := Aside0.mk (blk_put (cs' := #[.int .i64 pos, .int .i64 (pos + rd p.lengths j)]) (blk_put (cs' := #[.int .i64 pos, .int .i64 (s.b)]) HN.out 0 (.int .i64 pos) rfl) 1 (.int .i64 (pos + rd p.lengths j)) rfl)
                generalize ((w7).setCell ⟨w4.heap.size, 0, none⟩ (.int .i64 pos)).setCell ⟨w4.heap.size, 1, none⟩ (.int .i64 (pos + rd p.lengths j)) = W8 at *
                clear HM
                have HM := HM_
                clear HM_
                clear HN
                have HN := HN_
                clear HN_
                go_wp2
                go_roundw
                case rel => exact ⟨j + 1, by omega, by rw [HT1.out]; rfl, by rw [HT1.out]; rfl, by go_num, HM, ⟨by rw [HT1.out]; exact HN.out⟩⟩
                case measure => simp [intOf]; omega
              · have HT1 := Aside0.mk (show bestIn F p.lengths pos b0 (j + 1) = some (s, x) from HT.out.trans (if_neg hx))
                clear HT
                dsimp only [Option.getD, Option.isSome_some, Option.isSome_none, bV, bA, bB] at HN ⊢
                go_wp2
                go_roundw
                case rel => exact ⟨j + 1, by omega, by rw [HT1.out]; rfl, by rw [HT1.out]; rfl, by go_num, HM, ⟨by rw [HT1.out]; exact HN.out⟩⟩
                case measure => simp [intOf]; omega
        · obtain rfl : j = p.lengths.length := by omega
          have HN' := Aside0.mk (show wr.heap[w4.heap.size]? = some (.cells #[.int .i64 (bA (bestTo F p.lengths step (k + 1))), .int .i64 (bB (bestTo F p.lengths step (k + 1)))] 33 (0, 0)) by rw [HB0.out]; exact HN.out)
          rw [← HB0.out]
          go_wp2
          go_roundw
          case rel => exact ⟨k + 1, rfl, rfl, by rw [HPK.out], Or.inr (by have := HPOS.out; push_cast; rw [Int.add_sub_cancel, ← HPOS.out]; exact hlt), HM, HN'⟩
          case measure => simp [intOf]; omega
    · have hst := stepsIn_eq (len := solLen l) (k := k) s1 (by rw [← hpos]; omega) (by rcases hk0 with h | h; exact Or.inl h; exact Or.inr h)
      have HR2 := Aside0.mk (show R = bestTo F p.lengths step k by rw [HR1.out, hst])
      clear hst hpk hpos hk0
      have HZ := Aside0.mk (blk_below HZ4.out HM.out)
      have HB := Aside0.mk (below_then HB4.out HB4.out.size HM.out)
      rw [← HR2.out] at HN ⊢
      have hz0 : wr.cell? ⟨w.heap.size + 1 + 1, 0, none⟩ = some (.int .i64 0) := (blk_cell HZ.out 0).trans rfl
      have hzf0 : wr.frozen? ⟨w.heap.size + 1 + 1, 0, none⟩ = false := blk_frozen HZ.out 0
      have hz1 : wr.cell? ⟨w.heap.size + 1 + 1, 1, none⟩ = some (.int .i64 0) := (blk_cell HZ.out 1).trans rfl
      have hzf1 : wr.frozen? ⟨w.heap.size + 1 + 1, 1, none⟩ = false := blk_frozen HZ.out 1
      have hn0 : wr.cell? ⟨w4.heap.size, 0, none⟩ = some (.int .i64 (bA R)) := (blk_cell HN.out 0).trans rfl
      have hn1 : wr.cell? ⟨w4.heap.size, 1, none⟩ = some (.int .i64 (bB R)) := (blk_cell HN.out 1).trans rfl
      go_wp2_with fail
      clear hz0 hz1 hzf0 hzf1 hn0 hn1
      have HB_ := Aside0.mk (below_set (j := 1) (v := .int .i64 (bB R)) (below_set (j := 0) (v := .int .i64 (bA R)) HB.out (show w.heap.size ≤ w.heap.size + 1 + 1 by omega)) (show w.heap.size ≤ w.heap.size + 1 + 1 by omega))
      have HZ_ := Aside0.mk (blk_put (cs' := #[.int .i64 (bA R), .int .i64 (bB R)]) (blk_put (cs' := #[.int .i64 (bA R), .int .i64 0]) HZ.out 0 (.int .i64 (bA R)) rfl) 1 (.int .i64 (bB R)) rfl)
      generalize ((wr).setCell ⟨w.heap.size + 1 + 1, 0, none⟩ (.int .i64 (bA R))).setCell ⟨w.heap.size + 1 + 1, 1, none⟩ (.int .i64 (bB R)) = W9 at *
      clear HB
      have HB := HB_
      clear HB_
      clear HZ
      have HZ := HZ_
      clear HZ_
      refine bodyPost_ret (results_cell_tmp2 rfl _ _ (w.heap.size + 1 + 1) 33 #[.int .i64 (bA R), .int .i64 (bB R)] (0, 0) _ rfl HZ.out Tryd.underlying33 rfl (by kernel_rfl)) rfl ⟨rfl, HB.out⟩
end Go.Proofs.YtngpoonjonojhaaDoor
