/- Walks: the check of the arguments of a line. -/
import Derived.Test.YtngpoonjonojhaaDoorE09
import Derived.Test.YtngpoonjonojhaaDoorE12
import Derived.Test.YtngpoonjonojhaaDoorE05
import Derived.Test.YtngpoonjonojhaaDoorE03
import Derived.Test.YtngpoonjonojhaaDoorE11
set_option linter.all false
namespace Go.Proofs.YtngpoonjonojhaaDoor
open Go.RowKit Go.Proofs.YtngpoonjonojhaaDoorW.PrintWords Go.Proofs.YtngpoonjonojhaaDoorW.PrintLast
set_option linter.unusedVariables false

def endsAll (zs : List Sp) : Nat → Bool
  | 0 => true
  | n + 1 => endsAll zs n && endsOk (rd_Sp zs n)
theorem endsAll_false {zs : List Sp} {k : Nat} (h : endsAll zs k = false) : ∀ {n}, k ≤ n → endsAll zs n = false
  | 0, hn => by obtain rfl : k = 0 := by omega
                exact h
  | n + 1, hn => by
    by_cases e : k = n + 1
    · subst e; exact h
    · simp only [endsAll, endsAll_false h (n := n) (by omega), Bool.false_and]
theorem endsOk_iff (z : Sp) : endsOk z = true ↔ -600 ≤ z.a ∧ -600 ≤ z.b ∧ z.a ≤ 600 ∧ z.b ≤ 600 := by
  unfold endsOk mni mxi
  simp only [Bool.and_eq_true, decide_eq_true_eq]
  constructor
  · rintro ⟨h1, h2⟩; split at h1 <;> split at h2 <;> omega
  · rintro ⟨h1, h2, h3, h4⟩; constructor <;> split <;> omega

set_option maxHeartbeats 1000000 in
set_option maxRecDepth 100000 in
theorem ends_calls (A : Option Addr) (c : Nat) (zs : List Sp) (hz : zs.length ≤ 1000000) (w : World) (hr : Kd.C kSp w A zs.length zs) :
    Calls Tryd.prog 87 #[.slice A zs.length c] w fun e w' => e = .returned (.bool (endsAll zs zs.length)) ∧ Below w.heap.size w w' := by
  have HB := Aside0.mk (Below.refl w.heap.size w)
  have HR := Aside0.mk hr
  clear hr
  go_enter Tryd.func87, Tryd.ntmps87
  go_wp2
  go_loopw [7] (fun i wr => ∃ k : Nat, k ≤ zs.length ∧ i = .int .i64 k ∧ Aside0 (endsAll zs k = true) ∧ Aside0 (Below w.heap.size w wr)) (fun i _ => zs.length - (intOf i).toNat)
  case atStart => exact ⟨0, by omega, rfl, ⟨rfl⟩, HB⟩
  case round =>
    clear HB
    obtain ⟨k, hk, rfl, HA, HB⟩ := hrel
    by_cases hlt : k < zs.length
    · obtain ⟨ad, rfl, hx0, hx1⟩ := at_Sp (Kd.C_below HR.out HB.out) k (by omega) (by omega)
      simp only [Int.toNat_natCast] at hx0 hx1
      by_cases he : endsOk (rd_Sp zs k) = true
      · have HA1 := Aside0.mk (show endsAll zs (k + 1) = true by show (endsAll zs k && endsOk (rd_Sp zs k)) = true; rw [HA.out, he]; rfl)
        obtain ⟨e1, e2, e3, e4⟩ := (endsOk_iff _).1 he
        clear he
        by_cases hab : (rd_Sp zs k).a ≤ (rd_Sp zs k).b
        · go_wp2
          go_roundw
          case rel => exact ⟨k + 1, by omega, by go_num, HA1, ⟨by have h := HB.out; exact BB⟩⟩
          case measure => simp [intOf]; omega
        · have hab2 : (rd_Sp zs k).b < (rd_Sp zs k).a := by omega
          clear hab
          go_wp2
          go_roundw
          case rel => exact ⟨k + 1, by omega, by go_num, HA1, ⟨by have h := HB.out; exact BB⟩⟩
          case measure => simp [intOf]; omega
      · have HA1 := Aside0.mk (endsAll_false (show endsAll zs (k + 1) = false by show (endsAll zs k && endsOk (rd_Sp zs k)) = false; rw [HA.out, (Bool.not_eq_true _).mp he]; rfl) (show k + 1 ≤ zs.length by omega))
        have HH := Aside0.mk (show (rd_Sp zs k).a < -600 ∨ (rd_Sp zs k).b < -600 ∨ 600 < (rd_Sp zs k).a ∨ 600 < (rd_Sp zs k).b by
          by_cases h : -600 ≤ (rd_Sp zs k).a ∧ -600 ≤ (rd_Sp zs k).b ∧ (rd_Sp zs k).a ≤ 600 ∧ (rd_Sp zs k).b ≤ 600
          · exact absurd ((endsOk_iff _).2 h) he
          · omega)
        clear he
        generalize (rd_Sp zs k).a = p at *
        generalize (rd_Sp zs k).b = q at *
        rcases Int.lt_trichotomy p q with hab | hab | hab
        · go_wp2
          all_goals first | (go_ret; exact ⟨rb HA1.out.symm, by have h := HB.out; exact BB⟩) | (exfalso; have h := HH.out; omega)
        · subst hab
          go_wp2
          all_goals first | (go_ret; exact ⟨rb HA1.out.symm, by have h := HB.out; exact BB⟩) | (exfalso; have h := HH.out; omega)
        · go_wp2
          all_goals first | (go_ret; exact ⟨rb HA1.out.symm, by have h := HB.out; exact BB⟩) | (exfalso; have h := HH.out; omega)
    · obtain rfl : k = zs.length := by omega
      go_wp2
      go_ret
      exact ⟨rb HA.out.symm, HB.out⟩

set_option maxHeartbeats 2000000 in
set_option maxRecDepth 100000 in
theorem echeck_calls (A : Option Addr) (c : Nat) (l : List Slc) (A' : Option Addr) (c' : Nat) (d : List Dft) (A'' : Option Addr) (c'' : Nat) (ps : List Prod) (xa xb ya yb kerf trim pitch step chip dust fine : Int) (w : World)
    (hl : Kd.C kSlc w A l.length l) (hd : Kd.C kDft w A' d.length d) (hp : Kd.C kProd w A'' ps.length ps) (hn : ∀ i, i < ps.length → (rd_Prod ps i).name.size ≤ 9223372036854775807) (hc : ps.length ≤ c'') :
    Calls Tryd.prog 60 #[.slice A l.length c, .slice A' d.length c', .slice A'' ps.length c'', .agg #[.int .i64 xa, .int .i64 xb, .int .i64 ya, .int .i64 yb], .agg #[.int .i64 kerf, .int .i64 trim, .int .i64 pitch, .int .i64 step], .agg #[.int .i64 chip, .int .i64 dust, .int .i64 fine]] w fun e w' => e = .returned (.int .i64 (lineErr l d ps ⟨⟨xa, xb⟩, ⟨ya, yb⟩⟩ ⟨kerf, trim, pitch, step⟩ ⟨chip, dust, fine⟩)) ∧ Below w.heap.size w w' := by
  have HB := Aside0.mk (Below.refl w.heap.size w)
  have HL := Aside0.mk hl
  have HD := Aside0.mk hd
  have HP := Aside0.mk hp
  have HN := Aside0.mk hn
  have HC := Aside0.mk hc
  clear hl hd hp hn hc
  obtain ⟨R, hR⟩ : ∃ R, R = lineErr l d ps ⟨⟨xa, xb⟩, ⟨ya, yb⟩⟩ ⟨kerf, trim, pitch, step⟩ ⟨chip, dust, fine⟩ := ⟨_, rfl⟩
  rw [← hR]
  unfold lineErr at hR
  dsimp only at hR
  have HR := Aside0.mk hR
  clear hR
  go_enter Tryd.func60, Tryd.ntmps60
  go_wp2_with fail
  refine (solCheck_calls _ _ l _ ?c1).mono ?_
  case c1 => exact Kd.C_below HL.out BB
  rintro e w1 ⟨rfl, hb1⟩
  obtain ⟨hB1, hb2⟩ := adv HB.out hb1
  have hr : w1.heap[w.heap.size]? = some (.cells #[.int .i64 xa, .int .i64 xb, .int .i64 ya, .int .i64 yb] 35 (0, 0)) := blk_below (by repeat (first | exact blk_newi _ (by simp) | refine blk_drewN ?_ _ | refine blk_drew ?_ | refine blk_alloc ?_ _)) hb1
  have hr_0 : w1.cell? ⟨w.heap.size, 0, none⟩ = some (.int .i64 xa) := (blk_cell hr 0).trans rfl
  have hr_1 : w1.cell? ⟨w.heap.size, 1, none⟩ = some (.int .i64 xb) := (blk_cell hr 1).trans rfl
  have hr_2 : w1.cell? ⟨w.heap.size, 2, none⟩ = some (.int .i64 ya) := (blk_cell hr 2).trans rfl
  have hr_3 : w1.cell? ⟨w.heap.size, 3, none⟩ = some (.int .i64 yb) := (blk_cell hr 3).trans rfl
  replace hr := Aside0.mk hr
  have hs : w1.heap[w.heap.size + 1]? = some (.cells #[.int .i64 kerf, .int .i64 trim, .int .i64 pitch, .int .i64 step] 37 (0, 0)) := blk_below (by repeat (first | exact blk_newi _ (by simp) | refine blk_drewN ?_ _ | refine blk_drew ?_ | refine blk_alloc ?_ _)) hb1
  have hs_0 : w1.cell? ⟨w.heap.size + 1, 0, none⟩ = some (.int .i64 kerf) := (blk_cell hs 0).trans rfl
  have hs_1 : w1.cell? ⟨w.heap.size + 1, 1, none⟩ = some (.int .i64 trim) := (blk_cell hs 1).trans rfl
  have hs_2 : w1.cell? ⟨w.heap.size + 1, 2, none⟩ = some (.int .i64 pitch) := (blk_cell hs 2).trans rfl
  have hs_3 : w1.cell? ⟨w.heap.size + 1, 3, none⟩ = some (.int .i64 step) := (blk_cell hs 3).trans rfl
  replace hs := Aside0.mk hs
  have ht : w1.heap[w.heap.size + 1 + 1]? = some (.cells #[.int .i64 chip, .int .i64 dust, .int .i64 fine] 39 (0, 0)) := blk_below (by repeat (first | exact blk_newi _ (by simp) | refine blk_drewN ?_ _ | refine blk_drew ?_ | refine blk_alloc ?_ _)) hb1
  have ht_0 : w1.cell? ⟨w.heap.size + 1 + 1, 0, none⟩ = some (.int .i64 chip) := (blk_cell ht 0).trans rfl
  have ht_1 : w1.cell? ⟨w.heap.size + 1 + 1, 1, none⟩ = some (.int .i64 dust) := (blk_cell ht 1).trans rfl
  have ht_2 : w1.cell? ⟨w.heap.size + 1 + 1, 2, none⟩ = some (.int .i64 fine) := (blk_cell ht 2).trans rfl
  replace ht := Aside0.mk ht
  replace HB := Aside0.mk hB1
  clear hb1 hB1 hb2
  clear hr_0 hr_1 hr_2 hr_3 hs_0 hs_1 hs_2 hs_3 ht_0 ht_1 ht_2
  by_cases e1 : solCheck l = 0
  rotate_left
  · have H1 := Aside0.mk (HR.out.trans (if_pos e1))
    have e2 : (solCheck l != 0) = true := bne_iff_ne.2 e1
    go_wp2
    go_ret
    exact ⟨ri H1.out.symm, HB.out⟩
  rw [e1]
  have H1 := Aside0.mk (HR.out.trans (if_neg (fun h => h e1)))
  clear e1 HR
  go_wp2_with fail
  refine (dftCheck_calls _ _ d _ ?c1).mono ?_
  case c1 => exact Kd.C_below HD.out (by have h := HB.out; exact BB)
  rintro e w2 ⟨rfl, hb1⟩
  obtain ⟨hB1, hb2⟩ := adv HB.out hb1
  replace hr := Aside0.mk (blk_below hr.out hb2)
  replace hs := Aside0.mk (blk_below hs.out hb2)
  replace ht := Aside0.mk (blk_below ht.out hb2)
  replace HB := Aside0.mk hB1
  clear hb1 hB1 hb2
  by_cases e1 : dftCheck d = 0
  rotate_left
  · have H2 := Aside0.mk (H1.out.trans (if_pos e1))
    have e2 : (dftCheck d != 0) = true := bne_iff_ne.2 e1
    go_wp2
    go_ret
    exact ⟨ri H2.out.symm, HB.out⟩
  rw [e1]
  have H2 := Aside0.mk (H1.out.trans (if_neg (fun h => h e1)))
  clear e1 H1
  go_wp2_with fail
  refine (catCheck_calls _ _ ps _ ?c0 ?c1 ?c2).mono ?_
  case c0 => exact HN.out
  case c1 => exact Kd.C_below HP.out (by have h := HB.out; exact BB)
  case c2 => exact HC.out
  rintro e w3 ⟨rfl, hb1⟩
  obtain ⟨hB1, hb2⟩ := adv HB.out hb1
  replace hr := Aside0.mk (blk_below hr.out hb2)
  replace hs := Aside0.mk (blk_below hs.out hb2)
  replace ht := Aside0.mk (blk_below ht.out hb2)
  replace HB := Aside0.mk hB1
  clear hb1 hB1 hb2
  by_cases e1 : catCheck ps = 0
  rotate_left
  · have H3 := Aside0.mk (H2.out.trans (if_pos e1))
    have e2 : (catCheck ps != 0) = true := bne_iff_ne.2 e1
    go_wp2
    go_ret
    exact ⟨ri H3.out.symm, HB.out⟩
  rw [e1]
  have H3 := Aside0.mk (H2.out.trans (if_neg (fun h => h e1)))
  clear e1 H2
  have hs0 : w3.cell? ⟨w.heap.size + 1, 0, none⟩ = some (.int .i64 kerf) := (blk_cell hs.out 0).trans rfl
  have hs1 : w3.cell? ⟨w.heap.size + 1, 1, none⟩ = some (.int .i64 trim) := (blk_cell hs.out 1).trans rfl
  have hs2 : w3.cell? ⟨w.heap.size + 1, 2, none⟩ = some (.int .i64 pitch) := (blk_cell hs.out 2).trans rfl
  have hs3 : w3.cell? ⟨w.heap.size + 1, 3, none⟩ = some (.int .i64 step) := (blk_cell hs.out 3).trans rfl
  have ht0 : w3.cell? ⟨w.heap.size + 1 + 1, 0, none⟩ = some (.int .i64 chip) := (blk_cell ht.out 0).trans rfl
  have ht1 : w3.cell? ⟨w.heap.size + 1 + 1, 1, none⟩ = some (.int .i64 dust) := (blk_cell ht.out 1).trans rfl
  have ht2 : w3.cell? ⟨w.heap.size + 1 + 1, 2, none⟩ = some (.int .i64 fine) := (blk_cell ht.out 2).trans rfl
  go_wp2_with fail
  refine (sawCheck_calls _ _ _ _ _ _ _ _).mono ?_
  rintro e w4 ⟨rfl, hb1⟩
  obtain ⟨hB1, hb2⟩ := adv HB.out hb1
  replace hr := Aside0.mk (blk_below hr.out hb2)
  replace HB := Aside0.mk hB1
  clear hb1 hB1 hb2
  clear hs0 hs1 hs2 hs3 ht0 ht1 ht2 hs ht
  by_cases e1 : sawCheck kerf trim pitch step chip dust fine = 0
  rotate_left
  · have H4 := Aside0.mk (H3.out.trans (if_pos e1))
    have e2 : (sawCheck kerf trim pitch step chip dust fine != 0) = true := bne_iff_ne.2 e1
    go_wp2
    go_ret
    exact ⟨ri H4.out.symm, HB.out⟩
  rw [e1]
  have H4 := Aside0.mk (H3.out.trans (if_neg (fun h => h e1)))
  clear e1 H3
  have hr0 : w4.cell? ⟨w.heap.size, 0, none⟩ = some (.int .i64 xa) := (blk_cell hr.out 0).trans rfl
  have hr1 : w4.cell? ⟨w.heap.size, 1, none⟩ = some (.int .i64 xb) := (blk_cell hr.out 1).trans rfl
  have hr2 : w4.cell? ⟨w.heap.size, 2, none⟩ = some (.int .i64 ya) := (blk_cell hr.out 2).trans rfl
  have hr3 : w4.cell? ⟨w.heap.size, 3, none⟩ = some (.int .i64 yb) := (blk_cell hr.out 3).trans rfl
  by_cases e1 : xb ≤ xa
  · have H5 := Aside0.mk (H4.out.trans (if_pos (Or.inl e1)))
    go_wp2
    go_ret
    exact ⟨ri H5.out.symm, HB.out⟩
  by_cases e2 : yb ≤ ya
  · have H5 := Aside0.mk (H4.out.trans (if_pos (Or.inr e2)))
    have e3 : xa < xb := by omega
    clear e1
    go_wp2
    go_ret
    exact ⟨ri H5.out.symm, HB.out⟩
  have H5 := Aside0.mk (H4.out.trans (if_neg (by omega)))
  have e3 : xa < xb := by omega
  have e4 : ya < yb := by omega
  clear e1 e2 H4
  go_wp2_with fail
  refine (ends_calls _ _ [⟨xa, xb⟩, ⟨ya, yb⟩] (by simp) _ ?c1).mono ?_
  case c1 => exact C_two (c1 := [.int .i64 xa, .int .i64 xb]) (c2 := [.int .i64 ya, .int .i64 yb]) (by repeat (first | exact blk_newi _ (by simp) | refine blk_drewN ?_ _ | refine blk_drew ?_ | refine blk_alloc ?_ _)) (kSp_mk _ ⟨xa, xb⟩) (kSp_mk _ ⟨ya, yb⟩)
  rintro e w5 ⟨he, hb1⟩
  have HB5 := Aside0.mk (adv HB.out hb1).1
  have he' : e = .returned (.bool (endsOk ⟨xa, xb⟩ && endsOk ⟨ya, yb⟩)) := he
  clear he hb1
  subst he'
  rcases h1 : (endsOk ⟨xa, xb⟩ && endsOk ⟨ya, yb⟩) with _ | _
  · have H6 := Aside0.mk (show R = 9 by rw [H5.out, h1]; exact if_neg (by simp))
    clear h1
    go_wp2
    go_ret
    exact ⟨ri H6.out.symm, HB5.out⟩
  · have H6 := Aside0.mk (show R = 0 by rw [H5.out, h1]; exact if_pos rfl)
    clear h1
    go_wp2
    go_ret
    exact ⟨ri H6.out.symm, HB5.out⟩
end Go.Proofs.YtngpoonjonojhaaDoor
