/- Words and walks that the row leans on: WSow, PlMos, WLac. -/
import Derived.Test.YtngpoonjonojhaaDoorE07
import Derived.Test.YtngpoonjonojhaaDoorE06
import Derived.IntWalk
import Derived.Deep.RegionHeld3
import Derived.Test.YtngpoonjonojhaaDoorE05
import Derived.Deep.CutBlock
import Derived.Deep.DeepCutAuto
set_option linter.all false
/-! Walks. -/
namespace Go.Proofs.YtngpoonjonojhaaDoor
open Go.RowKit Go.Proofs.YtngpoonjonojhaaDoorW.PrintWords Go.Proofs.YtngpoonjonojhaaDoorW.PrintLast
set_option linter.unusedVariables false


/-- The volume of the first n parts of a log in a box. -/
def prtVol (ps : List Prt) (r : Rect) (i : Nat) : Int := ((rd_Prt ps i).z.b - (rd_Prt ps i).z.a) * secWithin (rd_Prt ps i).sec.low (rd_Prt ps i).sec.rows r
def prtsVol (ps : List Prt) (r : Rect) : Nat → Int
  | 0 => 0
  | n + 1 => prtsVol ps r n + prtVol ps r n

theorem prtsVol_app {ps qs : List Prt} {r : Rect} : ∀ n, n ≤ ps.length → prtsVol (ps ++ qs) r n = prtsVol ps r n
  | 0, _ => rfl
  | n + 1, h => by
    have e : rd_Prt (ps ++ qs) n = rd_Prt ps n := by
      unfold rd_Prt
      rw [List.getD_eq_getElem?_getD, List.getD_eq_getElem?_getD, List.getElem?_append_left (by simp; omega)]
    have ih := @prtsVol_app ps qs r n (by omega)
    simp only [prtsVol, prtVol, ih, e]
theorem prts_vol (l : List Slc) (b : Box) : ∀ k, prtsVol (partsTo l b.z k) ⟨b.x, b.y⟩ (partsTo l b.z k).length = volTo l b k
  | 0 => rfl
  | k + 1 => by
    have ih := prts_vol l b k
    simp only [partsTo, volTo, slcVol]
    by_cases g : (slcMeet l b.z k).a < (slcMeet l b.z k).b
    · rw [if_pos g, if_pos g, List.length_append]
      show prtsVol _ _ (_ + 1) = _
      simp only [prtsVol]
      rw [prtsVol_app _ (Nat.le_refl _), ih]
      congr 1
      have e : rd_Prt (partsTo l b.z k ++ [⟨slcMeet l b.z k, (rd_Slc l k).sec⟩]) ((partsTo l b.z k).length : Nat) = ⟨slcMeet l b.z k, (rd_Slc l k).sec⟩ := by
        unfold rd_Prt
        rw [List.getD_eq_getElem?_getD, List.getElem?_append_right (by simp)]
        simp
      simp only [prtVol, e]
    · rw [if_neg g, if_neg g, List.append_nil, ih]; omega
theorem secWithin_bound (low : Int) (rows : List Sp) (r : Rect) : 0 ≤ secWithin low rows r ∧ secWithin low rows r ≤ 1440000 := by
  unfold secWithin
  by_cases h : secCheck low rows = 0
  · rw [if_pos h]
    have o := secCheck_ok h
    have b := @rowsArea_bound low rows r o.2.2.2 rows.length (Nat.le_refl _)
    have := o.1
    omega
  · rw [if_neg h]; omega
/-- Every part has at most 20000 units. -/
theorem parts_bound {l : List Slc} {z : Sp} (ho : ∀ i, i < l.length → slcErr1 l i = 0) : ∀ k, k ≤ l.length → ∀ j, j < (partsTo l z k).length → 0 ≤ (rd_Prt (partsTo l z k) j).z.b - (rd_Prt (partsTo l z k) j).z.a ∧ (rd_Prt (partsTo l z k) j).z.b - (rd_Prt (partsTo l z k) j).z.a ≤ 20000 ∧ 0 ≤ (rd_Prt (partsTo l z k) j).z.a ∧ (rd_Prt (partsTo l z k) j).z.b ≤ 20000
  | 0, _, j, h => by simp [partsTo] at h
  | k + 1, hk, j, h => by
    have ih := parts_bound (z := z) ho k (by omega)
    have b1 := lenTo_le ho k (by omega)
    have b2 := lenTo_le ho (k + 1) hk
    have e2 : lenTo l (k + 1) = lenTo l k + (rd_Slc l k).len := rfl
    simp only [partsTo] at h ⊢
    by_cases g : (slcMeet l z k).a < (slcMeet l z k).b
    · rw [if_pos g] at h ⊢
      by_cases hj : j < (partsTo l z k).length
      · have e : rd_Prt (partsTo l z k ++ [⟨slcMeet l z k, (rd_Slc l k).sec⟩]) j = rd_Prt (partsTo l z k) j := by
          unfold rd_Prt
          rw [List.getD_eq_getElem?_getD, List.getD_eq_getElem?_getD, List.getElem?_append_left (by simpa using hj)]
        rw [e]; exact ih j hj
      · have e : rd_Prt (partsTo l z k ++ [⟨slcMeet l z k, (rd_Slc l k).sec⟩]) j = ⟨slcMeet l z k, (rd_Slc l k).sec⟩ := by
          obtain rfl : j = (partsTo l z k).length := by simp at h; omega
          unfold rd_Prt
          rw [List.getD_eq_getElem?_getD, List.getElem?_append_right (by simp)]
          simp
        rw [e]
        show 0 ≤ (slcMeet l z k).b - (slcMeet l z k).a ∧ _ ∧ _ ∧ _
        unfold slcMeet spMeet mni mxi at g ⊢
        rw [e2] at b2 g ⊢
        (repeat' split at g) <;> (repeat' split) <;> dsimp only at * <;> omega
    · rw [if_neg g, List.append_nil] at h ⊢
      exact ih j h
theorem prtVol_bound {ps : List Prt} {r : Rect} {j : Nat} (h : 0 ≤ (rd_Prt ps j).z.b - (rd_Prt ps j).z.a ∧ (rd_Prt ps j).z.b - (rd_Prt ps j).z.a ≤ 20000) : 0 ≤ prtVol ps r j ∧ prtVol ps r j ≤ 28800000000 := by
  have b := secWithin_bound (rd_Prt ps j).sec.low (rd_Prt ps j).sec.rows r
  unfold prtVol
  refine ⟨Int.mul_nonneg h.1 b.1, ?_⟩
  have := Int.mul_le_mul h.2 b.2 b.1 (by omega)
  omega
theorem prtsVol_bound {ps : List Prt} {r : Rect} (h : ∀ j, j < ps.length → 0 ≤ (rd_Prt ps j).z.b - (rd_Prt ps j).z.a ∧ (rd_Prt ps j).z.b - (rd_Prt ps j).z.a ≤ 20000) : ∀ n, n ≤ ps.length → 0 ≤ prtsVol ps r n ∧ prtsVol ps r n ≤ 28800000000 * n
  | 0, _ => by simp [prtsVol]
  | n + 1, hn => by
    have a := prtsVol_bound (r := r) h n (by omega)
    have b := prtVol_bound (r := r) (h n hn)
    simp only [prtsVol]
    omega

set_option maxHeartbeats 2000000 in
set_option maxRecDepth 100000 in
theorem solWithin_calls (A : Option Addr) (c : Nat) (l : List Slc) (xa xb ya yb za zb : Int) (w : World) (hr : Kd.C kSlc w A l.length l) :
    Calls Tryd.prog 17 #[.slice A l.length c, .agg #[.int .i64 xa, .int .i64 xb, .int .i64 ya, .int .i64 yb, .int .i64 za, .int .i64 zb]] w fun e w' => e = .returned (.int .i64 (solWithin l ⟨⟨xa, xb⟩, ⟨ya, yb⟩, ⟨za, zb⟩⟩)) ∧ Below w.heap.size w w' := by
  have HB := Aside0.mk (Below.refl w.heap.size w)
  have HR := Aside0.mk hr
  clear hr
  by_cases h1 : xb ≤ xa
  · have HF := Aside0.mk (show solWithin l ⟨⟨xa, xb⟩, ⟨ya, yb⟩, ⟨za, zb⟩⟩ = 0 from if_pos (Or.inl h1))
    go_enter Tryd.func17, Tryd.ntmps17
    go_wp2
    go_ret
    exact ⟨ri HF.out.symm, BB⟩
  by_cases h2 : yb ≤ ya
  · have HF := Aside0.mk (show solWithin l ⟨⟨xa, xb⟩, ⟨ya, yb⟩, ⟨za, zb⟩⟩ = 0 from if_pos (Or.inr h2))
    have hb1 : decide (xb ≤ xa) = false := decide_eq_false h1
    go_enter Tryd.func17, Tryd.ntmps17
    go_wp2
    go_ret
    exact ⟨ri HF.out.symm, BB⟩
  have HF := Aside0.mk (show solWithin l ⟨⟨xa, xb⟩, ⟨ya, yb⟩, ⟨za, zb⟩⟩ = if solCheck l = 0 then volTo l ⟨⟨xa, xb⟩, ⟨ya, yb⟩, ⟨za, zb⟩⟩ l.length else 0 from if_neg (by intro h; rcases h with h | h; exact h1 h; exact h2 h))
  have hb1 : decide (xb ≤ xa) = false := decide_eq_false h1
  have hb2 : decide (yb ≤ ya) = false := decide_eq_false h2
  go_enter Tryd.func17, Tryd.ntmps17
  go_wp2_with fail
  refine (parts_calls _ _ l _ _ _ ?c1).mono ?_
  case c1 => exact Kd.C_below HR.out BB
  rintro e w1 ⟨⟨A', c', rfl, hc', hC⟩, hb1⟩
  have HC := Aside0.mk hC
  have hv := blk_below (show (w.alloc (.cells #[.int .i64 xa, .int .i64 xb, .int .i64 ya, .int .i64 yb, .int .i64 za, .int .i64 zb] 57)).heap[w.heap.size]? = _ from blk_new _ _) hb1
  have HV := Aside0.mk hv
  have HB1 := Aside0.mk (adv HB.out hb1).1
  clear hb1 hC hv
  have HG : Aside0 (∀ j, j < (parts l ⟨za, zb⟩).length → 0 ≤ (rd_Prt (parts l ⟨za, zb⟩) j).z.b - (rd_Prt (parts l ⟨za, zb⟩) j).z.a ∧ (rd_Prt (parts l ⟨za, zb⟩) j).z.b - (rd_Prt (parts l ⟨za, zb⟩) j).z.a ≤ 20000 ∧ 0 ≤ (rd_Prt (parts l ⟨za, zb⟩) j).z.a ∧ (rd_Prt (parts l ⟨za, zb⟩) j).z.b ≤ 20000) := ⟨by
    unfold parts
    by_cases h : solCheck l = 0
    · rw [if_pos h]; exact parts_bound (solCheck_ok h).2.2 _ (Nat.le_refl _)
    · rw [if_neg h]; intro j hj; simp at hj⟩
  have hlen : (parts l ⟨za, zb⟩).length ≤ 24 := by
    unfold parts
    by_cases h : solCheck l = 0
    · rw [if_pos h]; have a := partsTo_len l ⟨za, zb⟩ l.length; have b := (solCheck_ok h).1; omega
    · rw [if_neg h]; simp
  have HE := Aside0.mk (show solWithin l ⟨⟨xa, xb⟩, ⟨ya, yb⟩, ⟨za, zb⟩⟩ = prtsVol (parts l ⟨za, zb⟩) ⟨⟨xa, xb⟩, ⟨ya, yb⟩⟩ (parts l ⟨za, zb⟩).length by
    rw [HF.out]
    unfold parts
    by_cases h : solCheck l = 0
    · rw [if_pos h, if_pos h]; exact (prts_vol l ⟨⟨xa, xb⟩, ⟨ya, yb⟩, ⟨za, zb⟩⟩ l.length).symm
    · rw [if_neg h, if_neg h]; rfl)
  clear HF
  generalize parts l ⟨za, zb⟩ = ps at *
  go_wp2
  go_loopw [5, 29] (fun v i wr => ∃ k : Nat, k ≤ ps.length ∧ v = .int .i64 (prtsVol ps ⟨⟨xa, xb⟩, ⟨ya, yb⟩⟩ k) ∧ i = .int .i64 k ∧ Aside0 (Below w1.heap.size w1 wr)) (fun _ i _ => ps.length - (intOf i).toNat)
  case atStart => exact ⟨0, by omega, rfl, rfl, ⟨Below.refl _ _⟩⟩
  case round =>
    obtain ⟨k, hk, rfl, rfl, HD⟩ := hrel
    have HB2 := Aside0.mk (below_then HB1.out HB1.out.size HD.out)
    by_cases hlt : k < ps.length
    · obtain ⟨ad, A3, c3, rfl, hx0, hx1, hx2, hx3, hl3, hr3⟩ := at_Prt (Kd.C_below HC.out HD.out) k (by omega) (by omega)
      simp only [Int.toNat_natCast] at hx0 hx1 hx2 hx3
      have HR3 := Aside0.mk hr3
      have HL3 := Aside0.mk hl3
      have hV := blk_below HV.out HD.out
      have ht0 : wr.cell? ⟨w.heap.size, 0, none⟩ = some (.int .i64 xa) := (blk_cell hV 0).trans rfl
      have ht1 : wr.cell? ⟨w.heap.size, 1, none⟩ = some (.int .i64 xb) := (blk_cell hV 1).trans rfl
      have ht2 : wr.cell? ⟨w.heap.size, 2, none⟩ = some (.int .i64 ya) := (blk_cell hV 2).trans rfl
      have ht3 : wr.cell? ⟨w.heap.size, 3, none⟩ = some (.int .i64 yb) := (blk_cell hV 3).trans rfl
      have hsz : w.heap.size < wr.heap.size := blk_lt hV
      clear hV hl3 hr3
      have pb := HG.out k hlt
      have vb := @prtVol_bound ps ⟨⟨xa, xb⟩, ⟨ya, yb⟩⟩ k ⟨pb.1, pb.2.1⟩
      have sb := @prtsVol_bound ps ⟨⟨xa, xb⟩, ⟨ya, yb⟩⟩ (fun j hj => ⟨(HG.out j hj).1, (HG.out j hj).2.1⟩) k hk
      have HT := Aside0.mk (show prtsVol ps ⟨⟨xa, xb⟩, ⟨ya, yb⟩⟩ (k + 1) = prtsVol ps ⟨⟨xa, xb⟩, ⟨ya, yb⟩⟩ k + ((rd_Prt ps k).z.b - (rd_Prt ps k).z.a) * secWithin (rd_Prt ps k).sec.low (rd_Prt ps k).sec.rows ⟨⟨xa, xb⟩, ⟨ya, yb⟩⟩ from rfl)
      have i1 : IntKind.i64.wrap ((rd_Prt ps k).z.b - (rd_Prt ps k).z.a) = (rd_Prt ps k).z.b - (rd_Prt ps k).z.a := IntWalk.i64_in _ (by omega)
      have i2 : IntKind.i64.wrap (((rd_Prt ps k).z.b - (rd_Prt ps k).z.a) * secWithin (rd_Prt ps k).sec.low (rd_Prt ps k).sec.rows ⟨⟨xa, xb⟩, ⟨ya, yb⟩⟩) = ((rd_Prt ps k).z.b - (rd_Prt ps k).z.a) * secWithin (rd_Prt ps k).sec.low (rd_Prt ps k).sec.rows ⟨⟨xa, xb⟩, ⟨ya, yb⟩⟩ := IntWalk.i64_in _ (by have := vb.1; have := vb.2; unfold prtVol at *; omega)
      have i3 : IntKind.i64.wrap (prtsVol ps ⟨⟨xa, xb⟩, ⟨ya, yb⟩⟩ k + ((rd_Prt ps k).z.b - (rd_Prt ps k).z.a) * secWithin (rd_Prt ps k).sec.low (rd_Prt ps k).sec.rows ⟨⟨xa, xb⟩, ⟨ya, yb⟩⟩) = prtsVol ps ⟨⟨xa, xb⟩, ⟨ya, yb⟩⟩ k + ((rd_Prt ps k).z.b - (rd_Prt ps k).z.a) * secWithin (rd_Prt ps k).sec.low (rd_Prt ps k).sec.rows ⟨⟨xa, xb⟩, ⟨ya, yb⟩⟩ := IntWalk.i64_in _ (by have := vb.1; have := vb.2; unfold prtVol at *; omega)
      clear pb vb sb
      go_wp2_with fail
      go_region_held3 (fun w' => Below wr.heap.size wr w' ∧ w'.cell? ⟨wr.heap.size, 0, none⟩ = some (.int .i64 (rd_Prt ps k).z.a) ∧ w'.cell? ⟨wr.heap.size, 1, none⟩ = some (.int .i64 (rd_Prt ps k).z.b) ∧ w'.cell? ⟨wr.heap.size, 2, none⟩ = some (.int .i64 (rd_Prt ps k).sec.low) ∧ w'.cell? ⟨wr.heap.size, 3, none⟩ = some (.slice A3 (rd_Prt ps k).sec.rows.length c3) ∧ w'.cell? ⟨w.heap.size, 0, none⟩ = some (.int .i64 xa) ∧ w'.cell? ⟨w.heap.size, 1, none⟩ = some (.int .i64 xb) ∧ w'.cell? ⟨w.heap.size, 2, none⟩ = some (.int .i64 ya) ∧ w'.cell? ⟨w.heap.size, 3, none⟩ = some (.int .i64 yb))
        (first
          | (refine ⟨BB, ?_, ?_, ?_, ?_, ?_, ?_, ?_, ?_⟩ <;> go_simp <;> done)
          | (go_split_ands; refine ⟨below_then (by assumption) (Below.size (by assumption)) hb1, pw_cell_below hb1 (by assumption), pw_cell_below hb1 (by assumption), pw_cell_below hb1 (by assumption), pw_cell_below hb1 (by assumption), pw_cell_below hb1 (by assumption), pw_cell_below hb1 (by assumption), pw_cell_below hb1 (by assumption), pw_cell_below hb1 (by assumption)⟩))
        (first | (go_at_call 34; refine (secWithin_calls _ _ _ _ _ _ _ _ _ ?c1 HL3.out).mono ?_; (case c1 => (go_split_ands; exact Kd.C_below HR3.out (by assumption))); rintro e w2 ⟨rfl, hb1⟩))
      go_split_ands
      have hbw : Below wr.heap.size wr w2 := by assumption
      have HD1 := Aside0.mk (below_then HD.out HD.out.size hbw)
      clear hbw i1 i2 i3
      go_wp2
      go_roundw
      case rel => exact ⟨k + 1, by omega, by rw [HT.out], by go_num, HD1⟩
      case measure => simp [intOf]; omega
    · obtain rfl : k = ps.length := by omega
      go_wp2
      go_ret
      exact ⟨ri HE.out.symm, HB2.out⟩
end Go.Proofs.YtngpoonjonojhaaDoor
/-! Plain laws: the greatest wane along a span. -/
namespace Go.Proofs.YtngpoonjonojhaaDoor
/-- The greatest wane of the first n slices that a span meets. -/
def mostTo (ends wane : List Int) (z : Sp) : Nat → Int
  | 0 => 0
  | n + 1 => if (if n = 0 then 0 else rdI ends ((n : Int) - 1)) < z.b ∧ z.a < rdI ends n then mxi (mostTo ends wane z n) (rdI wane n) else mostTo ends wane z n
def most (ends wane : List Int) (z : Sp) : Int := mostTo ends wane z ends.length
def priceOf (ls ps : List Int) (n : Int) : Nat → Option Int
  | 0 => none
  | k + 1 => match priceOf ls ps n k with
    | some p => some p
    | none => if rdI ls k = n then some (rdI ps k) else none
end Go.Proofs.YtngpoonjonojhaaDoor
/-! Walks. -/
namespace Go.Proofs.YtngpoonjonojhaaDoor
open Go.RowKit Go.Proofs.YtngpoonjonojhaaDoorW.PrintWords Go.Proofs.YtngpoonjonojhaaDoorW.PrintLast
set_option linter.unusedVariables false


/-- The wane of slice i. -/
def waneOf (l : List Slc) (r : Rect) (i : Nat) : Int :=
  (1000 * ((r.x.b - r.x.a) * (r.y.b - r.y.a) - secWithin (rd_Slc l i).sec.low (rd_Slc l i).sec.rows r) + (r.x.b - r.x.a) * (r.y.b - r.y.a) - 1).tdiv ((r.x.b - r.x.a) * (r.y.b - r.y.a))
def endsTo (l : List Slc) : Nat → List Int
  | 0 => []
  | n + 1 => endsTo l n ++ [lenTo l (n + 1)]
def wanesTo (l : List Slc) (r : Rect) : Nat → List Int
  | 0 => []
  | n + 1 => wanesTo l r n ++ [waneOf l r n]

theorem tdiv_wrap {a b : Int} (h1 : -9000000000000000000 ≤ a) (h2 : a ≤ 9000000000000000000) : wrap64 (a.tdiv b) = a.tdiv b := by
  have h : (a.tdiv b).natAbs ≤ a.natAbs := by rw [Int.natAbs_tdiv]; exact Nat.div_le_self _ _
  unfold wrap64
  omega
theorem infoInt : (Tryd.prog.info? 3).map (fun i => (i.zero, i.size, i.bytes)) = some (some (.int .i64 0), 1, 8) := by kernel_rfl
theorem ne_append_row {α : Type} {R : α → List Value → Prop} {e size base : Nat} {ps : List α} {W : World} {v v1 v' : Value} (h : NeRow v v') (hat : v1.ownBlock = v.ownBlock ∨ ∃ b, v1.ownBlock = some b ∧ W.heap.size ≤ b) (ho : OwnRow R e size W base v' ps) : NeRow v1 v' := by
  obtain ⟨inner, ho, _⟩ := ho
  exact ne_append h hat ho
theorem endsTo_len (l : List Slc) : ∀ k, (endsTo l k).length = k
  | 0 => rfl
  | k + 1 => by simp [endsTo, endsTo_len l k]
theorem wanesTo_len (l : List Slc) (r : Rect) : ∀ k, (wanesTo l r k).length = k
  | 0 => rfl
  | k + 1 => by simp [wanesTo, wanesTo_len l r k]

set_option maxHeartbeats 2000000 in
set_option maxRecDepth 100000 in
theorem lacks_calls (A : Option Addr) (c : Nat) (l : List Slc) (xa xb ya yb : Int) (w : World) (hr : Kd.C kSlc w A l.length l) (hs : solCheck l = 0) (hx : across ⟨⟨xa, xb⟩, ⟨ya, yb⟩⟩ = true) :
    Calls Tryd.prog 107 #[.slice A l.length c, .agg #[.int .i64 xa, .int .i64 xb, .int .i64 ya, .int .i64 yb]] w fun e w' => (∃ v v', e = .returned (.tuple #[v, v']) ∧ OwnRow (fun p c => c = [.int .i64 p]) 3 1 w' w.heap.size v (endsTo l l.length) ∧ OwnRow (fun p c => c = [.int .i64 p]) 3 1 w' w.heap.size v' (wanesTo l ⟨⟨xa, xb⟩, ⟨ya, yb⟩⟩ l.length)) ∧ Below w.heap.size w w' := by
  have HB := Aside0.mk (Below.refl w.heap.size w)
  have HR := Aside0.mk hr
  clear hr
  go_enter Tryd.func107, Tryd.ntmps107
  have hxx : -600 ≤ xa ∧ xa < xb ∧ xb ≤ 600 ∧ -600 ≤ ya ∧ ya < yb ∧ yb ≤ 600 := by
    simp only [across, spValid, Bool.and_eq_true, decide_eq_true_eq] at hx; omega
  obtain ⟨x1, x2, x3, y1, y2, y3⟩ := hxx
  have ab1 := Int.mul_le_mul (show xb - xa ≤ 1200 by omega) (show yb - ya ≤ 1200 by omega) (by omega) (by omega)
  have ab2 := Int.mul_le_mul (show 1 ≤ xb - xa by omega) (show 1 ≤ yb - ya by omega) (by omega) (by omega)
  have ar1 : 1 ≤ (xb - xa) * (yb - ya) := by omega
  have ar2 : (xb - xa) * (yb - ya) ≤ 1440000 := by omega
  clear ab1 ab2
  obtain ⟨o1, o2, o3⟩ := solCheck_ok hs
  have O3 := Aside0.mk o3
  clear hs hx o3
  go_wp2
  go_loopw [4, 5, 7, 27] (fun v v' at_ i wr => ∃ k : Nat, k ≤ l.length ∧ at_ = .int .i64 (lenTo l k) ∧ i = .int .i64 k ∧ Aside0 (Below w.heap.size w wr) ∧ Aside0 (wr.heap[w.heap.size]? = some (.cells #[.int .i64 xa, .int .i64 xb, .int .i64 ya, .int .i64 yb] 35 (0, 0))) ∧ Aside0 (OwnRow (fun p c => c = [.int .i64 p]) 3 1 wr w.heap.size v (endsTo l k)) ∧ Aside0 (OwnRow (fun p c => c = [.int .i64 p]) 3 1 wr w.heap.size v' (wanesTo l ⟨⟨xa, xb⟩, ⟨ya, yb⟩⟩ k)) ∧ Aside0 (NeRow v v')) (fun _ _ _ i _ => l.length - (intOf i).toNat)
  case atStart => exact ⟨0, by omega, rfl, rfl, ⟨BB⟩, ⟨KK⟩, ⟨OwnRow.none_ _ _ _ _ _⟩, ⟨OwnRow.none_ _ _ _ _ _⟩, ⟨ne_nil _⟩⟩
  case round =>
    clear HB
    obtain ⟨k, hk, rfl, rfl, HB, HZ, HE, HW, HNE⟩ := hrel
    by_cases hlt : k < l.length
    · obtain ⟨ad, A2, c2, rfl, hx0, hx1, hx2, hl2, hr2⟩ := at_Slc HR.out k (by omega) (by omega)
      simp only [Int.toNat_natCast] at hx0 hx1 hx2
      replace hx0 := pw_cell_below HB.out hx0
      replace hx1 := pw_cell_below HB.out hx1
      replace hx2 := pw_cell_below HB.out hx2
      have HR2 := Aside0.mk hr2
      have HL2 := Aside0.mk hl2
      clear hr2 hl2
      have b1 := lenTo_le O3.out k hk
      have b2 := lenTo_le O3.out (k + 1) hlt
      have e2 : lenTo l (k + 1) = lenTo l k + (rd_Slc l k).len := rfl
      have HT := Aside0.mk e2
      rw [e2] at b2
      clear e2
      go_upto_region 7 with (fail)
      obtain ⟨W, hW⟩ : ∃ W, W = wr.alloc (.cells #[.int .i64 (rd_Slc l k).len, .int .i64 (rd_Slc l k).sec.low, .slice A2 (rd_Slc l k).sec.rows.length c2] 54) := ⟨_, rfl⟩
      have hwb : Below wr.heap.size wr W := by rw [hW]; exact BB
      have hv : W.heap[wr.heap.size]? = some (.cells #[.int .i64 (rd_Slc l k).len, .int .i64 (rd_Slc l k).sec.low, .slice A2 (rd_Slc l k).sec.rows.length c2] 54 (0, 0)) := by rw [hW]; exact blk_new _ _
      have HV := Aside0.mk hv
      have HBW := Aside0.mk (below_then HB.out HB.out.size hwb)
      have HD := Aside0.mk hwb
      have HZW := Aside0.mk (blk_below HZ.out hwb)
      have HEW := Aside0.mk (OwnRow.below HE.out hwb)
      have HWW := Aside0.mk (OwnRow.below HW.out hwb)
      rw [← hW]
      clear hW hwb hv HB HZ HE HW hx0 hx1 hx2
      have HL := Aside0.mk (show ((endsTo l k).length + 1) * 8 ≤ 140737488355328 by rw [endsTo_len]; omega)
      have T1 : Aside0 (∀ (ops : Array Oper) (Q : Exit → Act → World → Prop) (o : Oper) (rest : List Oper) (a : Act), o.guard = none → o.op = .call { callee := .builtin .append, args := #[.tmp 35, .tmp 37], argTypes := #[25, 25] } → a.eval (.tmp 35) = u4 → a.eval (.tmp 37) = .slice (some ⟨W.heap.size, 0, none⟩) 1 1 → (∀ v1 w1, OwnRow (fun p c => c = [.int .i64 p]) 3 1 w1 w.heap.size v1 (endsTo l k ++ [lenTo l k + (rd_Slc l k).len]) → Below w.heap.size w w1 → W.grownBy w1 (u4 : Value).ownBlock → (v1.ownBlock = (u4 : Value).ownBlock ∨ ∃ b, v1.ownBlock = some b ∧ W.heap.size ≤ b) → wpList Tryd.prog ops Q rest (a.put o.dst v1) w1) → wpList Tryd.prog ops Q (o :: rest) a (W.alloc (.cells #[.int .i64 (lenTo l k + (rd_Slc l k).len)] 3))) := by
        refine ⟨fun ops Q o rest a hg ho h1 h2 h => ?_⟩
        exact OwnRow.append (W := W) (w0 := w) (R := fun p c => c = [.int .i64 p]) w.heap.size hg (.tmp 35) (.tmp 37) 25 3 (.int .i64 0) 1 8 ho Tryd.underlying25 infoInt rfl (by decide) (by decide) (u4) (endsTo l k) (lenTo l k + (rd_Slc l k).len) [.int .i64 (lenTo l k + (rd_Slc l k).len)] h1 h2 rfl rfl (by simp [Value.oneCell']) HEW.out HBW.out (Below.size HBW.out) HL.out h
      go_wp2_with (first | (at_builtin; refine T1.out _ _ _ _ _ rfl rfl rfl rfl ?_; intro v1 w2 ho hb hg hat; have hv1 := (blk_cell (blk_grown HV.out hg (OwnRow.ne_block HEW.out HV.out (by decide))) 1).trans rfl; have hv2 := (blk_cell (blk_grown HV.out hg (OwnRow.ne_block HEW.out HV.out (by decide))) 2).trans rfl; have hz0 := (blk_cell (blk_grown HZW.out hg (OwnRow.ne_block HEW.out HZW.out (by decide))) 0).trans rfl; have hz1 := (blk_cell (blk_grown HZW.out hg (OwnRow.ne_block HEW.out HZW.out (by decide))) 1).trans rfl; have hz2 := (blk_cell (blk_grown HZW.out hg (OwnRow.ne_block HEW.out HZW.out (by decide))) 2).trans rfl; have hz3 := (blk_cell (blk_grown HZW.out hg (OwnRow.ne_block HEW.out HZW.out (by decide))) 3).trans rfl; have HV2 := Aside0.mk (blk_grown HV.out hg (OwnRow.ne_block HEW.out HV.out (by decide))); have HZ2 := Aside0.mk (blk_grown HZW.out hg (OwnRow.ne_block HEW.out HZW.out (by decide))); have HW2 := Aside0.mk (OwnRow.other HWW.out hg (ne_other HNE.out)); have HN2 := Aside0.mk (ne_append_row HNE.out hat HWW.out); have HE2 := Aside0.mk ho; have HB2 := Aside0.mk hb; clear ho hb hg hat))
      refine (secWithin_calls _ _ _ _ _ _ _ _ _ ?c1 HL2.out).mono ?_
      case c1 => exact Kd.C_below HR2.out HB2.out
      rintro e w3 ⟨rfl, hb1⟩
      have HB3 := Aside0.mk (below_then HB2.out HB2.out.size hb1)
      have HZ3 := Aside0.mk (blk_below HZ2.out hb1)
      have HE3 := Aside0.mk (OwnRow.below HE2.out hb1)
      have HW3 := Aside0.mk (OwnRow.below HW2.out hb1)
      clear hb1 hv1 hv2 hz0 hz1 hz2 hz3
      have sb := secWithin_bound (rd_Slc l k).sec.low (rd_Slc l k).sec.rows ⟨⟨xa, xb⟩, ⟨ya, yb⟩⟩
      obtain ⟨s1, s2⟩ := sb
      have hq : wrap64 ((1000 * ((xb - xa) * (yb - ya) - secWithin (rd_Slc l k).sec.low (rd_Slc l k).sec.rows ⟨⟨xa, xb⟩, ⟨ya, yb⟩⟩) + (xb - xa) * (yb - ya) - 1).tdiv ((xb - xa) * (yb - ya))) = (1000 * ((xb - xa) * (yb - ya) - secWithin (rd_Slc l k).sec.low (rd_Slc l k).sec.rows ⟨⟨xa, xb⟩, ⟨ya, yb⟩⟩) + (xb - xa) * (yb - ya) - 1).tdiv ((xb - xa) * (yb - ya)) := tdiv_wrap (by omega) (by omega)
      have HT2 := Aside0.mk (show wanesTo l ⟨⟨xa, xb⟩, ⟨ya, yb⟩⟩ (k + 1) = wanesTo l ⟨⟨xa, xb⟩, ⟨ya, yb⟩⟩ k ++ [(1000 * ((xb - xa) * (yb - ya) - secWithin (rd_Slc l k).sec.low (rd_Slc l k).sec.rows ⟨⟨xa, xb⟩, ⟨ya, yb⟩⟩) + (xb - xa) * (yb - ya) - 1).tdiv ((xb - xa) * (yb - ya))] from rfl)
      have HT1 := Aside0.mk (show endsTo l (k + 1) = endsTo l k ++ [lenTo l k + (rd_Slc l k).len] from rfl)
      have HL3 := Aside0.mk (show ((wanesTo l ⟨⟨xa, xb⟩, ⟨ya, yb⟩⟩ k).length + 1) * 8 ≤ 140737488355328 by rw [wanesTo_len]; omega)
      have T2 : Aside0 (∀ (ops : Array Oper) (Q : Exit → Act → World → Prop) (o : Oper) (rest : List Oper) (a : Act), o.guard = none → o.op = .call { callee := .builtin .append, args := #[.tmp 39, .tmp 52], argTypes := #[25, 25] } → a.eval (.tmp 39) = u5 → a.eval (.tmp 52) = .slice (some ⟨w3.heap.size, 0, none⟩) 1 1 → (∀ v1 w1, OwnRow (fun p c => c = [.int .i64 p]) 3 1 w1 w.heap.size v1 (wanesTo l ⟨⟨xa, xb⟩, ⟨ya, yb⟩⟩ k ++ [(1000 * ((xb - xa) * (yb - ya) - secWithin (rd_Slc l k).sec.low (rd_Slc l k).sec.rows ⟨⟨xa, xb⟩, ⟨ya, yb⟩⟩) + (xb - xa) * (yb - ya) - 1).tdiv ((xb - xa) * (yb - ya))]) → Below w.heap.size w w1 → w3.grownBy w1 (u5 : Value).ownBlock → (v1.ownBlock = (u5 : Value).ownBlock ∨ ∃ b, v1.ownBlock = some b ∧ w3.heap.size ≤ b) → wpList Tryd.prog ops Q rest (a.put o.dst v1) w1) → wpList Tryd.prog ops Q (o :: rest) a (w3.alloc (.cells #[.int .i64 ((1000 * ((xb - xa) * (yb - ya) - secWithin (rd_Slc l k).sec.low (rd_Slc l k).sec.rows ⟨⟨xa, xb⟩, ⟨ya, yb⟩⟩) + (xb - xa) * (yb - ya) - 1).tdiv ((xb - xa) * (yb - ya)))] 3))) := by
        refine ⟨fun ops Q o rest a hg ho h1 h2 h => ?_⟩
        exact OwnRow.append (W := w3) (w0 := w) (R := fun p c => c = [.int .i64 p]) w.heap.size hg (.tmp 39) (.tmp 52) 25 3 (.int .i64 0) 1 8 ho Tryd.underlying25 infoInt rfl (by decide) (by decide) (u5) (wanesTo l ⟨⟨xa, xb⟩, ⟨ya, yb⟩⟩ k) ((1000 * ((xb - xa) * (yb - ya) - secWithin (rd_Slc l k).sec.low (rd_Slc l k).sec.rows ⟨⟨xa, xb⟩, ⟨ya, yb⟩⟩) + (xb - xa) * (yb - ya) - 1).tdiv ((xb - xa) * (yb - ya))) [.int .i64 ((1000 * ((xb - xa) * (yb - ya) - secWithin (rd_Slc l k).sec.low (rd_Slc l k).sec.rows ⟨⟨xa, xb⟩, ⟨ya, yb⟩⟩) + (xb - xa) * (yb - ya) - 1).tdiv ((xb - xa) * (yb - ya)))] h1 h2 rfl rfl (by simp [Value.oneCell']) HW3.out HB3.out (Below.size HB3.out) HL3.out h
      go_wp2_with (first | (at_builtin; refine T2.out _ _ _ _ _ rfl rfl rfl rfl ?_; intro v3 w4 ho hb hg hat; have HZ4 := Aside0.mk (blk_grown HZ3.out hg (OwnRow.ne_block HW3.out HZ3.out (by decide))); have HE4 := Aside0.mk (OwnRow.other HE3.out hg (ne_other (ne_symm HN2.out))); have HN4 := Aside0.mk (ne_symm (ne_append_row (ne_symm HN2.out) hat HE3.out)); have HW4 := Aside0.mk ho; have HB4 := Aside0.mk hb; clear ho hb hg hat))
      go_roundw
      case rel => exact ⟨k + 1, by omega, by rw [HT.out], by go_num, HB4, HZ4, ⟨by rw [HT1.out]; exact HE4.out⟩, ⟨by rw [HT2.out]; exact HW4.out⟩, HN4⟩
      case measure => simp [intOf]; omega
    · obtain rfl : k = l.length := by omega
      go_wp2
      go_ret2
      exact ⟨⟨_, _, rfl, HE.out, HW.out⟩, HB.out⟩
end Go.Proofs.YtngpoonjonojhaaDoor
