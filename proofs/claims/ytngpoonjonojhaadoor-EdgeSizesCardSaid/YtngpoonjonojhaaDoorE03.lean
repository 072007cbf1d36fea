/- Words and walks that the row leans on: PlSec, WSec, PlSca, WSca, WScb. -/
import Derived.Test.YtngpoonjonojhaaDoorE01
import Derived.Test.YtngpoonjonojhaaDoorE02
import Derived.Handy
set_option linter.all false
/-! Plain laws: sections. -/
namespace Go.Proofs.YtngpoonjonojhaaDoor

def mxi (a b : Int) : Int := if a < b then b else a
def mni (a b : Int) : Int := if b < a then b else a
def spOut (s : Sp) : Bool := decide (mni s.a s.b < -600) || decide (600 < mxi s.a s.b)
def spEmpty (s : Sp) : Bool := decide (s.b ≤ s.a)
def spBad (s : Sp) : Bool := spEmpty s && !(s.a == 0 && s.b == 0)
/-- The error of a section. -/
def secCheck (low : Int) (rows : List Sp) : Int :=
  if 120 < rows.length then 4 else if low < -60 ∨ 60 - (rows.length : Int) < low then 9
  else if rows.any spOut then 9
  else if rows.length = 0 then (if low = 0 then 0 else 19)
  else if spEmpty (rd_Sp rows 0) || spEmpty (rd_Sp rows (rows.length - 1)) then 19
  else if rows.any spBad then 19 else 0

/-- A search: nothing found among the first ones. -/
theorem any_take {α : Type} {p : α → Bool} {xs : List α} {k : Nat} {z : α} (h : k < xs.length) (h0 : (xs.take k).any p = false) (h1 : p (xs.getD k z) = false) : (xs.take (k + 1)).any p = false := by
  rw [List.take_succ_eq_append_getElem h, List.any_append, h0]
  have : xs[k] = xs.getD k z := by simp [List.getD, h]
  rw [this]; simp only [List.any_cons, List.any_nil, h1, Bool.or_false]
theorem any_found {α : Type} {p : α → Bool} {xs : List α} {k : Nat} {z : α} (h : k < xs.length) (h1 : p (xs.getD k z) = true) : xs.any p = true := by
  rw [List.any_eq_true]
  have : xs[k] = xs.getD k z := by simp [List.getD, h]
  exact ⟨xs[k], List.getElem_mem h, by rw [this]; exact h1⟩
theorem any_all {α : Type} {p : α → Bool} {xs : List α} {k : Nat} (h : xs.length ≤ k) (h0 : (xs.take k).any p = false) : xs.any p = false := by rwa [List.take_of_length_le h] at h0
end Go.Proofs.YtngpoonjonojhaaDoor
/-! Walks: sections. -/
namespace Go.Proofs.YtngpoonjonojhaaDoor
open Go.RowKit Go.Proofs.YtngpoonjonojhaaDoorW.PrintWords Go.Proofs.YtngpoonjonojhaaDoorW.PrintLast
set_option linter.unusedVariables false

theorem BB {p : Prop} (h : p := by repeat (first | exact Below.refl _ _ | assumption | apply below_alloc | apply pw_below_drewN | apply below_drew)) : p := h
theorem blk_newi {w : World} {i : Nat} (o : Obj) (h : i = w.heap.size) : (w.alloc o).heap[i]? = some o := by rw [h]; exact blk_new w o
theorem KK {p : Prop} (h : p := by repeat (first | assumption | exact blk_newi _ (by simp) | refine blk_drewN ?_ _ | refine blk_drew ?_ | refine blk_alloc ?_ _)) : p := h
theorem rb {a b : Bool} (h : a = b) : Ending.returned (.bool a) = .returned (.bool b) := by rw [h]
theorem ri {k : IntKind} {a b : Int} (h : a = b) : Ending.returned (.int k a) = .returned (.int k b) := by rw [h]

theorem add_zero_ (a : Addr) : a.add 0 = a := by simp [Addr.add]

theorem adv {w wr wx w1 : World} (hB : Below w.heap.size w wr) (h1 : Below wx.heap.size wx w1) (hx : Below wr.heap.size wr wx := by repeat (first | exact Below.refl _ _ | assumption | apply below_alloc | apply pw_below_drewN | apply below_drew)) : Below w.heap.size w w1 ∧ Below wr.heap.size wr w1 :=
  have h2 := below_then hx hx.size h1
  ⟨below_then hB hB.size h2, h2⟩

theorem spOut_calls (a b : Int) (w : World) :
    Calls Tryd.prog 86 #[.agg #[.int .i64 a, .int .i64 b]] w fun e w' => e = .returned (.bool (spOut ⟨a, b⟩)) ∧ Below w.heap.size w w' := by
  go_enter Tryd.func86, Tryd.ntmps86
  go_wp2
  all_goals go_ret
  all_goals exact ⟨rb (Bool.eq_iff_iff.2 (by simp [spOut, mni, mxi]; omega)), BB⟩

theorem spEmpty_calls (a b : Int) (w : World) :
    Calls Tryd.prog 59 #[.agg #[.int .i64 a, .int .i64 b]] w fun e w' => e = .returned (.bool (spEmpty ⟨a, b⟩)) ∧ Below w.heap.size w w' := by
  go_enter Tryd.func59, Tryd.ntmps59
  go_wp2
  all_goals go_ret
  all_goals exact ⟨rb rfl, BB⟩

set_option maxHeartbeats 1000000 in
theorem secCheck_calls (low : Int) (A : Option Addr) (c : Nat) (rows : List Sp) (w : World) (hr : Kd.C kSp w A rows.length rows) (hc : rows.length ≤ c) :
    Calls Tryd.prog 56 #[.agg #[.int .i64 low, .slice A rows.length c]] w fun e w' => e = .returned (.int .i64 (secCheck low rows)) ∧ Below w.heap.size w w' := by
  by_cases h1 : 120 < (rows.length : Int)
  · go_enter Tryd.func56, Tryd.ntmps56
    go_wp2
    go_ret
    exact ⟨ri (by unfold secCheck; rw [if_pos (by omega)]), BB⟩
  by_cases h2 : low < -60
  · go_enter Tryd.func56, Tryd.ntmps56
    go_wp2
    go_ret
    exact ⟨ri (by unfold secCheck; rw [if_neg (by omega), if_pos (by omega)]), BB⟩
  by_cases h3 : 60 - (rows.length : Int) < low
  · go_enter Tryd.func56, Tryd.ntmps56
    go_wp2
    go_ret
    exact ⟨ri (by unfold secCheck; rw [if_neg (by omega), if_pos (by omega)]), BB⟩
  have e1 : secCheck low rows = if rows.any spOut then 9
      else if rows.length = 0 then (if low = 0 then 0 else 19)
      else if spEmpty (rd_Sp rows 0) || spEmpty (rd_Sp rows (rows.length - 1)) then 19
      else if rows.any spBad then 19 else 0 := by unfold secCheck; rw [if_neg (by omega), if_neg (by omega)]
  have E1 := Aside0.mk e1
  clear e1
  have HR := Aside0.mk hr
  clear hr
  go_enter Tryd.func56, Tryd.ntmps56
  go_wp2
  go_loopw [26] (fun i wr => ∃ k : Nat, k ≤ rows.length ∧ i = .int .i64 k ∧ Aside0 ((rows.take k).any spOut = false) ∧ Aside0 (Below w.heap.size w wr) ∧ Aside0 (wr.heap[w.heap.size]? = some (.cells #[.int .i64 low, .slice A rows.length c] 52 (0, 0)))) (fun i _ => rows.length - (intOf i).toNat)
  case atStart => exact ⟨0, by omega, rfl, Aside0.mk rfl, Aside0.mk BB, Aside0.mk KK⟩
  case round =>
    obtain ⟨k, hk, rfl, HA, HB, HK⟩ := hrel
    by_cases hlt : k < rows.length
    · obtain ⟨ad, rfl, hx0, hx1⟩ := at_Sp (Kd.C_below HR.out HB.out) k (by omega) (by omega)
      simp only [Int.toNat_natCast] at hx0 hx1
      clear hc h2 h3
      rcases hs : spOut ⟨(rd_Sp rows k).a, (rd_Sp rows k).b⟩ with _ | _
      · go_wp2_with fail
        refine (spOut_calls _ _ _).mono ?_
        rintro e w1 ⟨rfl, hb1⟩
        obtain ⟨hB1, hb2⟩ := adv HB.out hb1
        clear hb1
        have HK1 := Aside0.mk (blk_below HK.out hb2)
        have HB1 := Aside0.mk hB1
        clear hB1 hb2 HK HB
        have HA1 := Aside0.mk (any_take (z := zSp) hlt HA.out hs)
        rw [hs]
        clear hs HA
        go_wp2
        go_roundw
        case rel => exact ⟨k + 1, by omega, by go_num, HA1, HB1, HK1⟩
        case measure => simp [intOf]; omega
      · go_wp2_with fail
        refine (spOut_calls _ _ _).mono ?_
        rintro e w1 ⟨rfl, hb1⟩
        obtain ⟨hB1, hb2⟩ := adv HB.out hb1
        have hf := any_found (z := zSp) hlt hs
        have HF := Aside0.mk (E1.out.trans (if_pos hf))
        clear hf hb1 hb2
        rw [hs]
        clear hs
        go_wp2
        go_ret
        exact ⟨ri HF.out.symm, hB1⟩
    · have hn : rows.any spOut = false := any_all (by omega) HA.out
      have e2 := E1.out
      rw [hn, if_neg (by simp)] at e2
      by_cases h0 : rows.length = 0
      · rw [if_pos h0] at e2
        have hz0 : wr.cell? ⟨w.heap.size, 0, none⟩ = some (.int .i64 low) := (blk_cell HK.out 0).trans rfl
        by_cases hl : low = 0
        · rw [if_pos hl] at e2
          have E2 := Aside0.mk e2
          clear e2 hn
          go_wp2
          go_ret
          exact ⟨ri E2.out.symm, HB.out⟩
        · rw [if_neg hl] at e2
          have E2 := Aside0.mk e2
          clear e2 hn
          go_wp2
          go_ret
          exact ⟨ri E2.out.symm, HB.out⟩
      · rw [if_neg h0] at e2
        have E2 := Aside0.mk e2
        clear e2 hn E1 HA h2 h3
        obtain ⟨ad, rfl, hx0, hx1⟩ := at_Sp (Kd.C_below HR.out HB.out) 0 (by omega) (by omega)
        obtain ⟨ad', e', hy0, hy1⟩ := at_Sp (Kd.C_below HR.out HB.out) ((rows.length : Int) - 1) (by omega) (by omega)
        cases e'
        rw [show Int.toNat 0 * 2 = 0 from rfl, add_zero_] at hx0 hx1
        rw [show ((rows.length : Int) - 1).toNat = rows.length - 1 by omega] at hy0 hy1
        have hz1 : wr.cell? ⟨w.heap.size, 1, none⟩ = some (.slice (some ad) rows.length c) := (blk_cell HK.out 1).trans rfl
        rcases he : spEmpty ⟨(rd_Sp rows 0).a, (rd_Sp rows 0).b⟩ with _ | _
        · go_wp2_with fail
          refine (spEmpty_calls _ _ _).mono ?_
          rintro e w1 ⟨rfl, hb1⟩
          obtain ⟨hB1, hb2⟩ := adv HB.out hb1
          replace hz1 := pw_cell_below hb2 hz1
          replace hy0 := pw_cell_below hb2 hy0
          replace hy1 := pw_cell_below hb2 hy1
          replace HK := Aside0.mk (blk_below HK.out hb2)
          replace HB := Aside0.mk hB1
          clear hb1 hB1 hb2
          clear hx0 hx1
          rw [he]
          have HE := Aside0.mk he
          clear he
          rcases hg : spEmpty ⟨(rd_Sp rows ((rows.length : Int) - 1)).a, (rd_Sp rows ((rows.length : Int) - 1)).b⟩ with _ | _
          · go_wp2_with fail
            refine (spEmpty_calls _ _ _).mono ?_
            rintro e w2 ⟨rfl, hb1⟩
            obtain ⟨hB1, hb2⟩ := adv HB.out hb1
            replace hz1 := pw_cell_below hb2 hz1
            replace HK := Aside0.mk (blk_below HK.out hb2)
            replace HB := Aside0.mk hB1
            clear hb1 hB1 hb2
            clear hy0 hy1
            rw [hg]
            have HG := Aside0.mk hg
            clear hg
            have E3 := Aside0.mk (E2.out.trans (if_neg (by rw [show spEmpty (rd_Sp rows 0) = false from HE.out, show spEmpty (rd_Sp rows ((rows.length : Int) - 1)) = false from HG.out]; simp)))
            clear E2 HE HG
            go_wp2_with fail
            go_loopw [55] (fun i wr => ∃ k : Nat, k ≤ rows.length ∧ i = .int .i64 k ∧ Aside0 ((rows.take k).any spBad = false) ∧ Aside0 (Below w.heap.size w wr)) (fun i _ => rows.length - (intOf i).toNat)
            case atStart => exact ⟨0, by omega, rfl, ⟨rfl⟩, HB⟩
            case round =>
              clear HB HK hz1
              obtain ⟨k, hk, rfl, HA, HB⟩ := hrel
              by_cases hlt : k < rows.length
              · obtain ⟨ad', e', hx0, hx1⟩ := at_Sp (Kd.C_below HR.out HB.out) k (by omega) (by omega)
                cases e'
                simp only [Int.toNat_natCast] at hx0 hx1
                rcases hs : spEmpty ⟨(rd_Sp rows k).a, (rd_Sp rows k).b⟩ with _ | _
                · go_wp2_with fail
                  refine (spEmpty_calls _ _ _).mono ?_
                  rintro e w1 ⟨rfl, hb1⟩
                  obtain ⟨hB1, hb2⟩ := adv HB.out hb1
                  replace HB := Aside0.mk hB1
                  clear hb1 hB1 hb2
                  have HA1 := Aside0.mk (any_take (z := zSp) (p := spBad) hlt HA.out (by unfold spBad; rw [show spEmpty (List.getD rows k zSp) = false from hs]; rfl))
                  rw [hs]
                  clear hs HA
                  go_wp2
                  go_roundw
                  case rel => exact ⟨k + 1, by omega, by go_num, HA1, HB⟩
                  case measure => simp [intOf]; omega
                · have hq : spBad (rd_Sp rows k) = !((rd_Sp rows k).a == 0 && (rd_Sp rows k).b == 0) := by unfold spBad; rw [show spEmpty (rd_Sp rows k) = true from hs]; rfl
                  have HQ := Aside0.mk hq
                  clear hq
                  go_wp2_with fail
                  refine (spEmpty_calls _ _ _).mono ?_
                  rintro e w1 ⟨rfl, hb1⟩
                  obtain ⟨hB1, hb2⟩ := adv HB.out hb1
                  have hv : w1.heap[wr.heap.size]? = some (.cells #[.int .i64 (rd_Sp rows k).a, .int .i64 (rd_Sp rows k).b] 33 (0, 0)) := blk_below (by repeat (first | exact blk_newi _ (by simp) | refine blk_drewN ?_ _ | refine blk_drew ?_ | refine blk_alloc ?_ _)) hb1
                  have hv_0 : w1.cell? ⟨wr.heap.size, 0, none⟩ = some (.int .i64 (rd_Sp rows k).a) := (blk_cell hv 0).trans rfl
                  have hv_1 : w1.cell? ⟨wr.heap.size, 1, none⟩ = some (.int .i64 (rd_Sp rows k).b) := (blk_cell hv 1).trans rfl
                  replace hv := Aside0.mk hv
                  replace HB := Aside0.mk hB1
                  clear hb1 hB1 hb2
                  rw [hs]
                  clear hs hx0 hx1
                  by_cases ha : (rd_Sp rows k).a = 0
                  · by_cases hb : (rd_Sp rows k).b = 0
                    · have HA1 := Aside0.mk (any_take (z := zSp) (p := spBad) hlt HA.out (by rw [show spBad (List.getD rows k zSp) = _ from HQ.out, ha, hb]; rfl))
                      go_wp2
                      go_roundw
                      case rel => exact ⟨k + 1, by omega, by go_num, HA1, HB⟩
                      case measure => simp [intOf]; omega
                    · have HF := Aside0.mk (E3.out.trans (if_pos (any_found (z := zSp) (p := spBad) hlt (by rw [show spBad (List.getD rows k zSp) = _ from HQ.out]; simp [hb]))))
                      go_wp2
                      go_ret
                      exact ⟨ri HF.out.symm, HB.out⟩
                  · have HF := Aside0.mk (E3.out.trans (if_pos (any_found (z := zSp) (p := spBad) hlt (by rw [show spBad (List.getD rows k zSp) = _ from HQ.out]; simp [ha]))))
                    go_wp2
                    go_ret
                    exact ⟨ri HF.out.symm, HB.out⟩
              · have HF := Aside0.mk (E3.out.trans (if_neg (by rw [any_all (by omega) HA.out]; simp)))
                go_wp2
                go_ret
                exact ⟨ri HF.out.symm, HB.out⟩
          · go_wp2_with fail
            refine (spEmpty_calls _ _ _).mono ?_
            rintro e w2 ⟨rfl, hb1⟩
            obtain ⟨hB1, hb2⟩ := adv HB.out hb1
            replace HB := Aside0.mk hB1
            clear hb1 hB1 hb2
            have HF := Aside0.mk (E2.out.trans (if_pos (by rw [show spEmpty (rd_Sp rows ((rows.length : Int) - 1)) = true from hg, Bool.or_true])))
            rw [hg]
            clear hg
            go_wp2
            go_ret
            exact ⟨ri HF.out.symm, HB.out⟩
        · go_wp2_with fail
          refine (spEmpty_calls _ _ _).mono ?_
          rintro e w1 ⟨rfl, hb1⟩
          obtain ⟨hB1, hb2⟩ := adv HB.out hb1
          replace HB := Aside0.mk hB1
          clear hb1 hB1 hb2
          have HF := Aside0.mk (E2.out.trans (if_pos (by rw [show spEmpty (rd_Sp rows 0) = true from he, Bool.true_or])))
          rw [he]
          clear he
          go_wp2
          go_ret
          exact ⟨ri HF.out.symm, HB.out⟩
end Go.Proofs.YtngpoonjonojhaaDoor
/-! Plain laws: spans, products' green sizes. -/
namespace Go.Proofs.YtngpoonjonojhaaDoor
def spMeet (s t : Sp) : Sp := if s.b ≤ s.a ∨ t.b ≤ t.a ∨ mni s.b t.b ≤ mxi s.a t.a then ⟨0, 0⟩ else ⟨mxi s.a t.a, mni s.b t.b⟩
def spLen (s : Sp) : Int := if s.b ≤ s.a then 0 else s.b - s.a
def okGreen (thick width allow : Int) : Bool := decide (1 ≤ thick) && decide (thick ≤ 600) && decide (1 ≤ width) && decide (width ≤ 600) && decide (0 ≤ allow) && decide (allow ≤ 200)
def greenT (thick width allow : Int) : Int := if okGreen thick width allow then (thick * (1000 + allow) + 999) / 1000 else 0
def greenW (thick width allow : Int) : Int := if okGreen thick width allow then (width * (1000 + allow) + 999) / 1000 else 0
def sized (thick width allow wane : Int) : Bool := decide (5 ≤ thick) && decide (thick ≤ 300) && decide (thick ≤ width) && decide (width ≤ 600) && decide (0 ≤ allow) && decide (allow ≤ 200) && decide (0 ≤ wane) && decide (wane ≤ 1000) && decide (greenW thick width allow ≤ 600)
def within (a b low high : Int) : Bool := decide (low ≤ mni a b) && decide (mxi a b ≤ high)
/-- The error of a saw with rates. -/
def sawCheck (kerf trim pitch step chip dust fine : Int) : Int :=
  if (0 ≤ kerf ∧ kerf ≤ 20) ∧ (0 ≤ trim ∧ trim ≤ 20) ∧ (1 ≤ pitch ∧ pitch ≤ 2000) ∧ (1 ≤ step ∧ step ≤ 20000) ∧ (0 ≤ chip ∧ chip ≤ 1000) ∧ (0 ≤ dust ∧ dust ≤ 1000) ∧ (0 ≤ fine ∧ fine ≤ 1000000) then 0 else 9
def spValid (s : Sp) : Bool := decide (s.a < s.b) && decide (-600 ≤ s.a) && decide (s.b ≤ 600)
def across (r : Rect) : Bool := spValid r.x && spValid r.y
def flawed (d : Dft) : Int :=
  if d.kind < 1 ∨ 6 < d.kind then 10
  else if d.box.x.b ≤ d.box.x.a ∨ d.box.y.b ≤ d.box.y.a ∨ d.box.z.b ≤ d.box.z.a then 19
  else if within d.box.x.a d.box.x.b (-600) 600 && within d.box.y.a d.box.y.b (-600) 600 && within d.box.z.a d.box.z.b 0 20000 then 0 else 9
def spTouch (s t : Sp) : Bool := decide ((spMeet s t).a < (spMeet s t).b)
def touches (x y : Box) : Bool := spTouch x.x y.x && spTouch x.y y.y && spTouch x.z y.z
theorem green_bound (x allow : Int) (h1 : 1 ≤ x) (h2 : x ≤ 600) (h3 : 0 ≤ allow) (h4 : allow ≤ 200) : 1000 ≤ x * (1000 + allow) ∧ x * (1000 + allow) ≤ 720000 := by
  have a := Int.mul_le_mul h2 (show 1000 + allow ≤ 1200 by omega) (by omega) (by omega)
  have b := Int.mul_le_mul h1 (show (1000 : Int) ≤ 1000 + allow by omega) (by omega) (by omega)
  omega
end Go.Proofs.YtngpoonjonojhaaDoor
/-! Walks: functions over numbers and small structs. -/
namespace Go.Proofs.YtngpoonjonojhaaDoor
open Go.RowKit Go.Proofs.YtngpoonjonojhaaDoorW.PrintWords Go.Proofs.YtngpoonjonojhaaDoorW.PrintLast
set_option linter.unusedVariables false

theorem rp {u v : Array Value} (h : u = v) : Ending.returned (.tuple u) = .returned (.tuple v) := by rw [h]

theorem agg2 {a b c d : Int} (h : a = c) (k : b = d) : Ending.returned (.agg #[.int .i64 a, .int .i64 b]) = .returned (.agg #[.int .i64 c, .int .i64 d]) := by rw [h, k]
set_option maxHeartbeats 1000000 in
theorem spMeet_calls (a b c d : Int) (w : World) :
    Calls Tryd.prog 65 #[.agg #[.int .i64 a, .int .i64 b], .agg #[.int .i64 c, .int .i64 d]] w fun e w' => e = .returned (.agg #[.int .i64 (spMeet ⟨a, b⟩ ⟨c, d⟩).a, .int .i64 (spMeet ⟨a, b⟩ ⟨c, d⟩).b]) ∧ Below w.heap.size w w' := by
  go_enter Tryd.func65, Tryd.ntmps65
  go_wp2
  all_goals refine bodyPost_ret (by simp [results, Tryd.results65, go_sem]; rfl) rfl ⟨?_, BB⟩
  all_goals refine agg2 ?_ ?_
  all_goals (unfold spMeet mni mxi; (repeat' split) <;> first | rfl | (dsimp only at *; omega))

theorem spLen_calls (a b : Int) (h1 : -1000000 ≤ a) (h2 : b ≤ 1000000) (w : World) :
    Calls Tryd.prog 66 #[.agg #[.int .i64 a, .int .i64 b]] w fun e w' => e = .returned (.int .i64 (spLen ⟨a, b⟩)) ∧ Below w.heap.size w w' := by
  by_cases h : b ≤ a
  · go_enter Tryd.func66, Tryd.ntmps66
    go_wp2
    go_ret
    exact ⟨ri (by unfold spLen; rw [if_pos h]), BB⟩
  · go_enter Tryd.func66, Tryd.ntmps66
    go_wp2
    all_goals go_ret
    all_goals exact ⟨ri (by unfold spLen; rw [if_neg (by dsimp only; omega)]), BB⟩

theorem floor_calls (a : Int) (h0 : 0 ≤ a) (h1 : a ≤ 1000000000) (w : World) :
    Calls Tryd.prog 48 #[.int .i64 a, .int .i64 1000] w fun e w' => e = .returned (.tuple #[.int .i64 (a / 1000), .bool true]) ∧ Below w.heap.size w w' := by
  go_enter Tryd.func48, Tryd.ntmps48
  go_wp2
  go_quiet (fail)
  all_goals go_wp2
  all_goals go_ret2
  all_goals exact ⟨rfl, BB⟩

theorem from_calls (n a b : Int) (w : World) :
    Calls Tryd.prog 93 #[.int .i64 n, .int .i64 a, .int .i64 b] w fun e w' => e = .returned (.bool (decide (a ≤ n) && decide (n ≤ b))) ∧ Below w.heap.size w w' := by
  go_enter Tryd.func93, Tryd.ntmps93
  go_wp2
  all_goals go_ret
  all_goals exact ⟨rb (Bool.eq_iff_iff.2 (by simp; try omega)), BB⟩

theorem within_calls (a b l h : Int) (w : World) :
    Calls Tryd.prog 104 #[.agg #[.int .i64 a, .int .i64 b], .int .i64 l, .int .i64 h] w fun e w' => e = .returned (.bool (within a b l h)) ∧ Below w.heap.size w w' := by
  go_enter Tryd.func104, Tryd.ntmps104
  go_wp2
  all_goals go_ret
  all_goals refine ⟨rb ?_, BB⟩
  all_goals (unfold within mni mxi; (repeat' split) <;> (rw [Bool.eq_iff_iff]; simp <;> omega))

theorem whole_calls (w : World) : Calls Tryd.prog 35 #[] w fun e w' => e = .returned (.agg #[.int .i64 0, .int .i64 20000]) ∧ Below w.heap.size w w' := by
  go_enter Tryd.func35, Tryd.ntmps35
  go_wp2
  all_goals refine bodyPost_ret (by simp [results, Tryd.results35, go_sem]; rfl) rfl ⟨?_, BB⟩
  all_goals rfl

set_option maxHeartbeats 1000000 in
theorem sawCheck_calls (kerf trim pitch step chip dust fine : Int) (w : World) :
    Calls Tryd.prog 70 #[.agg #[.int .i64 kerf, .int .i64 trim, .int .i64 pitch, .int .i64 step], .agg #[.int .i64 chip, .int .i64 dust, .int .i64 fine]] w fun e w' => e = .returned (.int .i64 (sawCheck kerf trim pitch step chip dust fine)) ∧ Below w.heap.size w w' := by
  go_enter Tryd.func70, Tryd.ntmps70
  go_wp2
  all_goals go_ret
  all_goals exact ⟨ri (by unfold sawCheck; first | rw [if_pos (by omega)] | rw [if_neg (by omega)]), BB⟩

end Go.Proofs.YtngpoonjonojhaaDoor
/-! Walks: green sizes, arrays of spans. -/
namespace Go.Proofs.YtngpoonjonojhaaDoor
open Go.RowKit Go.Proofs.YtngpoonjonojhaaDoorW.PrintWords Go.Proofs.YtngpoonjonojhaaDoorW.PrintLast
set_option linter.unusedVariables false

theorem t2 {a b c d : Int} (h : a = c) (k : b = d) : Ending.returned (.tuple #[.int .i64 a, .int .i64 b]) = .returned (.tuple #[.int .i64 c, .int .i64 d]) := by rw [h, k]
set_option maxHeartbeats 1000000 in
theorem green_calls (nm : ByteArray) (th wd al wa : Int) (A5 : Option Addr) (n5 c5 : Nat) (A6 : Option Addr) (n6 c6 : Nat) (w : World) :
    Calls Tryd.prog 24 #[.agg #[.string nm, .int .i64 th, .int .i64 wd, .int .i64 al, .int .i64 wa, .slice A5 n5 c5, .slice A6 n6 c6]] w fun e w' => e = .returned (.tuple #[.int .i64 (greenT th wd al), .int .i64 (greenW th wd al)]) ∧ Below w.heap.size w w' := by
  have HB := Aside0.mk (Below.refl w.heap.size w)
  by_cases h : okGreen th wd al = true
  · have ht : greenT th wd al = (th * (1000 + al) + 999) / 1000 := by unfold greenT; rw [if_pos h]
    have hw : greenW th wd al = (wd * (1000 + al) + 999) / 1000 := by unfold greenW; rw [if_pos h]
    simp only [okGreen, Bool.and_eq_true, decide_eq_true_eq] at h
    obtain ⟨⟨⟨⟨⟨a1, a2⟩, a3⟩, a4⟩, a5⟩, a6⟩ := h
    have g1 := green_bound th al a1 a2 a5 a6
    have g2 := green_bound wd al a3 a4 a5 a6
    rw [ht, hw]
    clear ht hw
    obtain ⟨g11, g12⟩ := g1
    obtain ⟨g21, g22⟩ := g2
    go_enter Tryd.func24, Tryd.ntmps24
    go_wp2_with fail
    all_goals (refine (floor_calls _ (by omega) (by omega) _).mono ?_; rintro e w1 ⟨rfl, hb1⟩)
    all_goals have hz2 : w1.cell? ⟨w.heap.size, 2, none⟩ = some (.int .i64 wd) := (hb1.cell (p := ⟨w.heap.size, 2, none⟩) (by simp)).trans (by go_simp)
    all_goals have hz3 : w1.cell? ⟨w.heap.size, 3, none⟩ = some (.int .i64 al) := (hb1.cell (p := ⟨w.heap.size, 3, none⟩) (by simp)).trans (by go_simp)
    all_goals have HB1 := Aside0.mk (adv HB.out hb1).1
    all_goals clear hb1
    all_goals go_wp2_with fail
    all_goals (refine (floor_calls _ (by omega) (by omega) _).mono ?_; rintro e w2 ⟨rfl, hb1⟩)
    all_goals have HB2 := Aside0.mk (adv HB1.out hb1).1
    all_goals clear hb1
    all_goals go_wp2
    all_goals go_ret2
    all_goals exact ⟨t2 (a := (th * (1000 + al) + 1000 - 1) / 1000) (b := (wd * (1000 + al) + 1000 - 1) / 1000) (by omega) (by omega), HB2.out⟩
  · have ht : greenT th wd al = 0 := by unfold greenT; rw [if_neg h]
    have hw : greenW th wd al = 0 := by unfold greenW; rw [if_neg h]
    rw [ht, hw]
    have H := Aside0.mk h
    clear ht hw h
    go_enter Tryd.func24, Tryd.ntmps24
    go_wp2_with fail
    all_goals try (go_ret2; exact ⟨rfl, BB⟩)
    all_goals (exfalso; have h := H.out; simp only [okGreen, Bool.and_eq_true, decide_eq_true_eq] at h; omega)

set_option maxHeartbeats 1000000 in
theorem sized_calls (nm : ByteArray) (th wd al wa : Int) (A5 : Option Addr) (n5 c5 : Nat) (A6 : Option Addr) (n6 c6 : Nat) (w : World) :
    Calls Tryd.prog 46 #[.agg #[.string nm, .int .i64 th, .int .i64 wd, .int .i64 al, .int .i64 wa, .slice A5 n5 c5, .slice A6 n6 c6]] w fun e w' => e = .returned (.bool (sized th wd al wa)) ∧ Below w.heap.size w w' := by
  have HB := Aside0.mk (Below.refl w.heap.size w)
  by_cases h : 5 ≤ th ∧ th ≤ 300 ∧ th ≤ wd ∧ wd ≤ 600 ∧ 0 ≤ al ∧ al ≤ 200 ∧ 0 ≤ wa ∧ wa ≤ 1000
  · obtain ⟨a1, a2, a3, a4, a5, a6, a7, a8⟩ := h
    have HS := Aside0.mk (show sized th wd al wa = decide (greenW th wd al ≤ 600) by simp only [sized, decide_eq_true a1, decide_eq_true a2, decide_eq_true a3, decide_eq_true a4, decide_eq_true a5, decide_eq_true a6, decide_eq_true a7, decide_eq_true a8, Bool.true_and])
    go_enter Tryd.func46, Tryd.ntmps46
    go_wp2_with fail
    refine (green_calls _ _ _ _ _ _ _ _ _ _ _ _).mono ?_
    rintro e w1 ⟨rfl, hb1⟩
    have HB1 := Aside0.mk (adv HB.out hb1).1
    clear hb1
    go_wp2
    go_ret
    exact ⟨rb HS.out.symm, HB1.out⟩
  · have HS := Aside0.mk (show sized th wd al wa = false by
      cases hs : sized th wd al wa with
      | false => rfl
      | true => simp only [sized, Bool.and_eq_true, decide_eq_true_eq] at hs; omega)
    have H := Aside0.mk h
    clear h
    go_enter Tryd.func46, Tryd.ntmps46
    go_wp2_with fail
    all_goals try (go_ret; exact ⟨rb HS.out.symm, BB⟩)
    all_goals (exfalso; have h := H.out; omega)
end Go.Proofs.YtngpoonjonojhaaDoor
