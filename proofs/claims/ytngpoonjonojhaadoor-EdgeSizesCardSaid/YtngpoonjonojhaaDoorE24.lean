/- Walks: the line of a strip. -/
import Derived.Test.YtngpoonjonojhaaDoorE22
import Derived.Test.YtngpoonjonojhaaDoorE23
set_option linter.all false
namespace Go.Proofs.YtngpoonjonojhaaDoor
open Go.RowKit Go.Proofs.YtngpoonjonojhaaDoorW.PrintWords Go.Proofs.YtngpoonjonojhaaDoorW.PrintLast
set_option linter.unusedVariables false
/-- The cells of a line, whose rows lie from b on. -/
def LnF (b : Nat) (w : World) (cs : Array Value) (x : Ln) : Prop :=
  ∃ A1 c1 A2 c2 A3 c3 A4 c4, cs = #[.int .i64 x.len, .int .i64 x.kerf, .int .i64 x.pitch, .slice A1 x.sizes.length c1, .slice A2 x.gain.length c2, .slice A3 x.chip.length c3, .slice A4 x.dust.length c4] ∧ (x.sizes.length ≤ c1 ∧ x.gain.length ≤ c2 ∧ x.chip.length ≤ c3 ∧ x.dust.length ≤ c4) ∧ ∀ W, Fr b w W → Kd.C (Kd.int .i64) W A1 x.sizes.length x.sizes ∧ Kd.C (Kd.slice 3 (Kd.int .i64)) W A2 x.gain.length x.gain ∧ Kd.C (Kd.int .i64) W A3 x.chip.length x.chip ∧ Kd.C (Kd.int .i64) W A4 x.dust.length x.dust
theorem own_C_fr {w W : World} {base : Nat} {A : Option Addr} {n c : Nat} {xs : List Int} (h : OwnRow (fun p c => c = [.int .i64 p]) 3 1 w base (.slice A n c) xs) (hf : Fr base w W) : Kd.C (Kd.int .i64) W A xs.length xs := by
  obtain ⟨A', c', e, _, hC⟩ := own_C (own_fr h hf)
  injection e with e1 e2 e3
  subst e1
  exact hC
theorem lineErr_ok {l : List Slc} {d : List Dft} {c : List Prod} {r : Rect} {s : Sw} {t : Rt} (h : lineErr l d c r s t = 0) : solCheck l = 0 ∧ dftCheck d = 0 ∧ catCheck c = 0 ∧ (0 ≤ s.kerf ∧ s.kerf ≤ 20 ∧ 0 ≤ s.trim ∧ s.trim ≤ 20 ∧ 1 ≤ s.pitch ∧ 0 ≤ t.chip ∧ t.chip ≤ 1000 ∧ 0 ≤ t.dust ∧ t.dust ≤ 1000) ∧ r.x.a < r.x.b ∧ r.y.a < r.y.b ∧ -600 ≤ r.x.a ∧ r.x.b ≤ 600 ∧ -600 ≤ r.y.a ∧ r.y.b ≤ 600 := by
  unfold lineErr at h
  split at h
  · exact absurd h (by assumption)
  split at h
  · exact absurd h (by assumption)
  split at h
  · exact absurd h (by assumption)
  split at h
  · exact absurd h (by assumption)
  split at h
  · omega
  split at h
  · rename_i a1 a2 a3 a4 a5 a6
    simp only [Bool.and_eq_true, endsOk_iff] at a6
    have a4 : sawCheck s.kerf s.trim s.pitch s.step t.chip t.dust t.fine = 0 := by omega
    unfold sawCheck at a4
    split at a4
    · exact ⟨by omega, by omega, by omega, by omega, by omega, by omega, by omega, by omega, by omega, by omega⟩
    · omega
  · omega
theorem green_bnd (t w a : Int) : 0 ≤ greenT t w a ∧ greenT t w a ≤ 2000 ∧ 0 ≤ greenW t w a ∧ greenW t w a ≤ 2000 := by
  unfold greenT greenW
  by_cases h : okGreen t w a
  · rw [if_pos h, if_pos h]
    unfold okGreen at h
    have h2 : 1 ≤ t ∧ t ≤ 600 ∧ 1 ≤ w ∧ w ≤ 600 ∧ 0 ≤ a ∧ a ≤ 1000 := by
      simp only [Bool.and_eq_true, decide_eq_true_eq] at h
      omega
    obtain ⟨h3, h4, h5, h6, h7, h8⟩ := h2
    have e1 := Int.mul_le_mul h4 (show 1000 + a ≤ 2000 by omega) (by omega) (by omega)
    have e2 := Int.mul_le_mul h6 (show 1000 + a ≤ 2000 by omega) (by omega) (by omega)
    have e3 : 0 ≤ t * (1000 + a) := Int.mul_nonneg (by omega) (by omega)
    have e4 : 0 ≤ w * (1000 + a) := Int.mul_nonneg (by omega) (by omega)
    omega
  · rw [if_neg h, if_neg h]; omega
theorem szOf_bound {p : Prod} {h v : Int} (e : szOf p h = some v) : 0 ≤ v ∧ v ≤ 2000 := by
  have b := green_bnd p.thick p.width p.allow
  unfold szOf at e
  split at e
  · have e2 := Option.some.inj e; omega
  · split at e
    · have e2 := Option.some.inj e; omega
    · cases e
theorem widthsTo_bound (c : List Prod) (h : Int) : ∀ k x, x ∈ widthsTo c h k → 0 ≤ x ∧ x ≤ 2000
  | 0, x, hx => by simp [widthsTo] at hx
  | k + 1, x, hx => by
    simp only [widthsTo] at hx
    split at hx
    · exact widthsTo_bound c h k x hx
    · rename_i v e
      rcases List.mem_append.1 hx with hx | hx
      · exact widthsTo_bound c h k x hx
      · have : x = v := by simpa using hx
        subst this; exact szOf_bound e
theorem prodsTo_bound (c : List Prod) (h : Int) : ∀ k x, x ∈ prodsTo c h k → 0 ≤ x ∧ x < k
  | 0, x, hx => by simp [prodsTo] at hx
  | k + 1, x, hx => by
    simp only [prodsTo] at hx
    split at hx
    · have := prodsTo_bound c h k x hx; omega
    · rcases List.mem_append.1 hx with hx | hx
      · have := prodsTo_bound c h k x hx; omega
      · have : x = (k : Int) := by simpa using hx
        omega
theorem rdI_mem {xs : List Int} {i : Nat} (h : i < xs.length) : rdI xs (i : Nat) ∈ xs := by
  unfold rdI
  rw [Int.toNat_natCast, List.getD_eq_getElem?_getD, List.getElem?_eq_getElem h]
  exact List.getElem_mem h
theorem gainsTo_eq (l : List Slc) (d : List Dft) (ps : List Prod) (sizes prods : List Int) (r : Rect) (s : Sw) (t : Rt) : ∀ k, gainsTo l d ps sizes prods (r.x.b - r.x.a) r s t k = (List.range k).map fun i => rowOf l d (rd_Prod ps (rdI prods (i : Nat))) r s t (rdI sizes (i : Nat))
  | 0 => rfl
  | k + 1 => by
    rw [List.range_succ, List.map_append, ← gainsTo_eq l d ps sizes prods r s t k]
    rfl
theorem foot_own {w : World} {base go t : Nat} {cells : Array Value} {As : Option Addr} {n cs : Nat} {xs : List Int} (h : OwnRow (fun p c => c = [.int .i64 p]) 3 1 w base (.slice As n cs) xs) (hb : w.heap[go]? = some (.cells cells t (0, 0))) (ht : (3 : Nat) ≠ t) : n = xs.length ∧ n ≤ cs ∧ ∀ W', KeepBut w W' go none → Kd.C (Kd.int .i64) W' As xs.length xs := by
  have key : ∀ W', KeepBut w W' go none → n = xs.length ∧ n ≤ cs ∧ Kd.C (Kd.int .i64) W' As xs.length xs := by
    intro W' hk
    obtain ⟨A, c, e, hc, hC⟩ := own_C (OwnRow.keep h hb ht hk)
    injection e with e1 e2 e3
    subst e1; subst e2; subst e3
    exact ⟨rfl, hc, hC⟩
  exact ⟨(key w (KeepBut.refl _ _ _)).1, (key w (KeepBut.refl _ _ _)).2.1, fun W' hk => (key W' hk).2.2⟩

set_option maxHeartbeats 8000000 in
set_option maxRecDepth 100000 in
theorem line_calls (A : Option Addr) (c : Nat) (l : List Slc) (A' : Option Addr) (c' : Nat) (d : List Dft) (Aq : Option Addr) (cq : Nat) (ps : List Prod) (xa xb ya yb kerf trim pitch step chip dust fine : Int) (w : World)
    (hl : Kd.C kSlc w A l.length l) (hd : Kd.C kDft w A' d.length d) (hp : Kd.C kProd w Aq ps.length ps) (hn : ∀ i, i < ps.length → (rd_Prod ps i).name.size ≤ 9223372036854775807) (hc : ps.length ≤ cq) :
    Calls Tryd.prog 32 #[.slice A l.length c, .slice A' d.length c', .slice Aq ps.length cq, .agg #[.int .i64 xa, .int .i64 xb, .int .i64 ya, .int .i64 yb], .agg #[.int .i64 kerf, .int .i64 trim, .int .i64 pitch, .int .i64 step], .agg #[.int .i64 chip, .int .i64 dust, .int .i64 fine]] w fun e w' => ((lineErr l d ps ⟨⟨xa, xb⟩, ⟨ya, yb⟩⟩ ⟨kerf, trim, pitch, step⟩ ⟨chip, dust, fine⟩ ≠ 0 ∧ e = .returned (.tuple #[.agg #[.int .i64 0, .int .i64 0, .int .i64 0, .slice none 0 0, .slice none 0 0, .slice none 0 0, .slice none 0 0], .int .i64 (lineErr l d ps ⟨⟨xa, xb⟩, ⟨ya, yb⟩⟩ ⟨kerf, trim, pitch, step⟩ ⟨chip, dust, fine⟩)])) ∨ (lineErr l d ps ⟨⟨xa, xb⟩, ⟨ya, yb⟩⟩ ⟨kerf, trim, pitch, step⟩ ⟨chip, dust, fine⟩ = 0 ∧ ∃ cs, e = .returned (.tuple #[.agg cs, .int .i64 0]) ∧ LnF w.heap.size w' cs (lineOf l d ps ⟨⟨xa, xb⟩, ⟨ya, yb⟩⟩ ⟨kerf, trim, pitch, step⟩ ⟨chip, dust, fine⟩))) ∧ Below w.heap.size w w' := by
  have HB := Aside0.mk (Below.refl w.heap.size w)
  have HL := Aside0.mk hl
  have HD := Aside0.mk hd
  have HP := Aside0.mk hp
  have HN := Aside0.mk hn
  have HC := Aside0.mk hc
  clear hl hd hp hn hc
  obtain ⟨E, hE⟩ : ∃ E, E = lineErr l d ps ⟨⟨xa, xb⟩, ⟨ya, yb⟩⟩ ⟨kerf, trim, pitch, step⟩ ⟨chip, dust, fine⟩ := ⟨_, rfl⟩
  rw [← hE]
  have HE0 := Aside0.mk hE
  clear hE
  go_enter Tryd.func32, Tryd.ntmps32
  go_wp2_with fail
  refine (echeck_calls _ _ l _ _ d _ _ ps _ _ _ _ _ _ _ _ _ _ _ _ ?c1 ?c2 ?c3 ?c4 ?c5).mono ?_
  case c1 => exact Kd.C_below HL.out BB
  case c2 => exact Kd.C_below HD.out BB
  case c3 => exact Kd.C_below HP.out BB
  case c4 => exact HN.out
  case c5 => exact HC.out
  rintro e w1 ⟨rfl, hb1⟩
  obtain ⟨hB1, hb2⟩ := adv HB.out hb1
  have hr : w1.heap[w.heap.size]? = some (.cells #[.int .i64 xa, .int .i64 xb, .int .i64 ya, .int .i64 yb] 35 (0, 0)) := blk_below (by repeat (first | exact blk_newi _ (by simp) | refine blk_drewN ?_ _ | refine blk_drew ?_ | refine blk_alloc ?_ _)) hb1
  have hr_0 : w1.cell? ⟨w.heap.size, 0, none⟩ = some (.int .i64 xa) := (blk_cell hr 0).trans rfl
  have hr_1 : w1.cell? ⟨w.heap.size, 1, none⟩ = some (.int .i64 xb) := (blk_cell hr 1).trans rfl
  have hr_2 : w1.cell? ⟨w.heap.size, 2, none⟩ = some (.int .i64 ya) := (blk_cell hr 2).trans rfl
  have hr_3 : w1.cell? ⟨w.heap.size, 3, none⟩ = some (.int .i64 yb) := (blk_cell hr 3).trans rfl
  replace hr := Aside0.mk hr
  have hs : w1.heap[w.heap.size + 1]? = some (.cells #[.int .i64 kerf, .int .i64 trim, .int .i64 pitch, .int .i64 step] 37 (0, 0)) := blk_below (by repeat (first | exact blk_newi _ (by simp) | refine blk_drewN ?_ _ | refine blk_drew ?_ | refine blk_alloc ?_ _)) hb1
  have hs_0 : w1.cell? ⟨w.heap.size + 1, 0, none⟩ = some (.int .i64 kerf) := (blk_cell hs 0).trans rfl
  have hs_1 : w1.cell? ⟨w.heap.size + 1, 1, none⟩ = some (.int .i64 trim) := (blk_cell hs 1).trans rfl
  have hs_2 : w1.cell? ⟨w.heap.size + 1, 2, none⟩ = some (.int .i64 pitch) := (blk_cell hs 2).trans rfl
  have hs_3 : w1.cell? ⟨w.heap.size + 1, 3, none⟩ = some (.int .i64 step) := (blk_cell hs 3).trans rfl
  replace hs := Aside0.mk hs
  have ht : w1.heap[w.heap.size + 1 + 1]? = some (.cells #[.int .i64 chip, .int .i64 dust, .int .i64 fine] 39 (0, 0)) := blk_below (by repeat (first | exact blk_newi _ (by simp) | refine blk_drewN ?_ _ | refine blk_drew ?_ | refine blk_alloc ?_ _)) hb1
  have ht_0 : w1.cell? ⟨w.heap.size + 1 + 1, 0, none⟩ = some (.int .i64 chip) := (blk_cell ht 0).trans rfl
  have ht_1 : w1.cell? ⟨w.heap.size + 1 + 1, 1, none⟩ = some (.int .i64 dust) := (blk_cell ht 1).trans rfl
  have ht_2 : w1.cell? ⟨w.heap.size + 1 + 1, 2, none⟩ = some (.int .i64 fine) := (blk_cell ht 2).trans rfl
  replace ht := Aside0.mk ht
  have hz : w1.heap[w.heap.size + 1 + 1 + 1]? = some (.cells #[.int .i64 0, .int .i64 0, .int .i64 0, .slice none 0 0, .slice none 0 0, .slice none 0 0, .slice none 0 0] 64 (0, 0)) := blk_below (by repeat (first | exact blk_newi _ (by simp) | refine blk_drewN ?_ _ | refine blk_drew ?_ | refine blk_alloc ?_ _)) hb1
  have hz_0 : w1.cell? ⟨w.heap.size + 1 + 1 + 1, 0, none⟩ = some (.int .i64 0) := (blk_cell hz 0).trans rfl
  have hz_1 : w1.cell? ⟨w.heap.size + 1 + 1 + 1, 1, none⟩ = some (.int .i64 0) := (blk_cell hz 1).trans rfl
  have hz_2 : w1.cell? ⟨w.heap.size + 1 + 1 + 1, 2, none⟩ = some (.int .i64 0) := (blk_cell hz 2).trans rfl
  have hz_3 : w1.cell? ⟨w.heap.size + 1 + 1 + 1, 3, none⟩ = some (.slice none 0 0) := (blk_cell hz 3).trans rfl
  have hz_4 : w1.cell? ⟨w.heap.size + 1 + 1 + 1, 4, none⟩ = some (.slice none 0 0) := (blk_cell hz 4).trans rfl
  have hz_5 : w1.cell? ⟨w.heap.size + 1 + 1 + 1, 5, none⟩ = some (.slice none 0 0) := (blk_cell hz 5).trans rfl
  have hz_6 : w1.cell? ⟨w.heap.size + 1 + 1 + 1, 6, none⟩ = some (.slice none 0 0) := (blk_cell hz 6).trans rfl
  replace hz := Aside0.mk hz
  replace HB := Aside0.mk hB1
  clear hb1 hB1 hb2
  clear hr_0 hr_1 hr_2 hr_3 hs_0 hs_1 hs_2 hs_3 ht_0 ht_1 ht_2 hz_0 hz_1 hz_2 hz_3 hz_4 hz_5 hz_6
  rw [← HE0.out]
  by_cases he : E = 0
  rotate_left
  · have HE := Aside0.mk he
    have hb : (E != 0) = true := bne_iff_ne.2 he
    clear he
    have hz0 : w1.cell? ⟨w.heap.size + 1 + 1 + 1, 0, none⟩ = some (.int .i64 0) := (blk_cell hz.out 0).trans rfl
    have hzf0 : w1.frozen? ⟨w.heap.size + 1 + 1 + 1, 0, none⟩ = false := blk_frozen hz.out 0
    have hz1 : w1.cell? ⟨w.heap.size + 1 + 1 + 1, 1, none⟩ = some (.int .i64 0) := (blk_cell hz.out 1).trans rfl
    have hzf1 : w1.frozen? ⟨w.heap.size + 1 + 1 + 1, 1, none⟩ = false := blk_frozen hz.out 1
    have hz2 : w1.cell? ⟨w.heap.size + 1 + 1 + 1, 2, none⟩ = some (.int .i64 0) := (blk_cell hz.out 2).trans rfl
    have hzf2 : w1.frozen? ⟨w.heap.size + 1 + 1 + 1, 2, none⟩ = false := blk_frozen hz.out 2
    have hz3 : w1.cell? ⟨w.heap.size + 1 + 1 + 1, 3, none⟩ = some (.slice none 0 0) := (blk_cell hz.out 3).trans rfl
    have hzf3 : w1.frozen? ⟨w.heap.size + 1 + 1 + 1, 3, none⟩ = false := blk_frozen hz.out 3
    have hz4 : w1.cell? ⟨w.heap.size + 1 + 1 + 1, 4, none⟩ = some (.slice none 0 0) := (blk_cell hz.out 4).trans rfl
    have hzf4 : w1.frozen? ⟨w.heap.size + 1 + 1 + 1, 4, none⟩ = false := blk_frozen hz.out 4
    have hz5 : w1.cell? ⟨w.heap.size + 1 + 1 + 1, 5, none⟩ = some (.slice none 0 0) := (blk_cell hz.out 5).trans rfl
    have hzf5 : w1.frozen? ⟨w.heap.size + 1 + 1 + 1, 5, none⟩ = false := blk_frozen hz.out 5
    have hz6 : w1.cell? ⟨w.heap.size + 1 + 1 + 1, 6, none⟩ = some (.slice none 0 0) := (blk_cell hz.out 6).trans rfl
    have hzf6 : w1.frozen? ⟨w.heap.size + 1 + 1 + 1, 6, none⟩ = false := blk_frozen hz.out 6
    go_wp2_with fail
    clear hb hz0 hzf0 hz1 hzf1 hz2 hzf2 hz3 hzf3 hz4 hzf4 hz5 hzf5 hz6 hzf6
    have HB_ := Aside0.mk (below_set (j := 6) (v := .slice none 0 0) (below_set (j := 5) (v := .slice none 0 0) (below_set (j := 4) (v := .slice none 0 0) (below_set (j := 3) (v := .slice none 0 0) (below_set (j := 2) (v := .int .i64 0) (below_set (j := 1) (v := .int .i64 0) (below_set (j := 0) (v := .int .i64 0) HB.out (show w.heap.size ≤ w.heap.size + 1 + 1 + 1 by omega)) (show w.heap.size ≤ w.heap.size + 1 + 1 + 1 by omega)) (show w.heap.size ≤ w.heap.size + 1 + 1 + 1 by omega)) (show w.heap.size ≤ w.heap.size + 1 + 1 + 1 by omega)) (show w.heap.size ≤ w.heap.size + 1 + 1 + 1 by omega)) (show w.heap.size ≤ w.heap.size + 1 + 1 + 1 by omega)) (show w.heap.size ≤ w.heap.size + 1 + 1 + 1 by omega))
    have hz_ := Aside0.mk (blk_put (cs' := #[.int .i64 0, .int .i64 0, .int .i64 0, .slice none 0 0, .slice none 0 0, .slice none 0 0, .slice none 0 0]) (blk_put (cs' := #[.int .i64 0, .int .i64 0, .int .i64 0, .slice none 0 0, .slice none 0 0, .slice none 0 0, .slice none 0 0]) (blk_put (cs' := #[.int .i64 0, .int .i64 0, .int .i64 0, .slice none 0 0, .slice none 0 0, .slice none 0 0, .slice none 0 0]) (blk_put (cs' := #[.int .i64 0, .int .i64 0, .int .i64 0, .slice none 0 0, .slice none 0 0, .slice none 0 0, .slice none 0 0]) (blk_put (cs' := #[.int .i64 0, .int .i64 0, .int .i64 0, .slice none 0 0, .slice none 0 0, .slice none 0 0, .slice none 0 0]) (blk_put (cs' := #[.int .i64 0, .int .i64 0, .int .i64 0, .slice none 0 0, .slice none 0 0, .slice none 0 0, .slice none 0 0]) (blk_put (cs' := #[.int .i64 0, .int .i64 0, .int .i64 0, .slice none 0 0, .slice none 0 0, .slice none 0 0, .slice none 0 0]) hz.out 0 (.int .i64 0) rfl) 1 (.int .i64 0) rfl) 2 (.int .i64 0) rfl) 3 (.slice none 0 0) rfl) 4 (.slice none 0 0) rfl) 5 (.slice none 0 0) rfl) 6 (.slice none 0 0) rfl)
    generalize (((((((w1).setCell ⟨w.heap.size + 1 + 1 + 1, 0, none⟩ (.int .i64 0)).setCell ⟨w.heap.size + 1 + 1 + 1, 1, none⟩ (.int .i64 0)).setCell ⟨w.heap.size + 1 + 1 + 1, 2, none⟩ (.int .i64 0)).setCell ⟨w.heap.size + 1 + 1 + 1, 3, none⟩ (.slice none 0 0)).setCell ⟨w.heap.size + 1 + 1 + 1, 4, none⟩ (.slice none 0 0)).setCell ⟨w.heap.size + 1 + 1 + 1, 5, none⟩ (.slice none 0 0)).setCell ⟨w.heap.size + 1 + 1 + 1, 6, none⟩ (.slice none 0 0) = W9 at *
    clear HB
    have HB := HB_
    clear HB_
    clear hz
    have hz := hz_
    clear hz_
    refine bodyPost_ret (results_cell_tmp rfl _ _ (w.heap.size + 1 + 1 + 1) 64 #[.int .i64 0, .int .i64 0, .int .i64 0, .slice none 0 0, .slice none 0 0, .slice none 0 0, .slice none 0 0] (0, 0) _ rfl hz.out Tryd.underlying64 rfl (by kernel_rfl)) rfl ⟨Or.inl ⟨HE.out, rfl⟩, HB.out⟩
  have ok := lineErr_ok (HE0.out.symm.trans he)
  have HE := Aside0.mk he
  have hb : (E != 0) = false := bne_eq_false_iff_eq.2 he
  clear he
  dsimp only at ok
  obtain ⟨k1, k2, k3, ⟨s1, s2, s3, s4, s5, t1, t2, t3, t4⟩, r1, r2, r3, r4, r5, r6⟩ := ok
  have K3 := Aside0.mk k3
  clear k1 k2 k3
  go_upto_region 4 with (fail)
  clear hb
  have hr0 : w1.cell? ⟨w.heap.size, 0, none⟩ = some (.int .i64 xa) := (blk_cell hr.out 0).trans rfl
  have hr1 : w1.cell? ⟨w.heap.size, 1, none⟩ = some (.int .i64 xb) := (blk_cell hr.out 1).trans rfl
  have hr2 : w1.cell? ⟨w.heap.size, 2, none⟩ = some (.int .i64 ya) := (blk_cell hr.out 2).trans rfl
  have hr3 : w1.cell? ⟨w.heap.size, 3, none⟩ = some (.int .i64 yb) := (blk_cell hr.out 3).trans rfl
  have hs0 : w1.cell? ⟨w.heap.size + 1, 0, none⟩ = some (.int .i64 kerf) := (blk_cell hs.out 0).trans rfl
  have hs1 : w1.cell? ⟨w.heap.size + 1, 1, none⟩ = some (.int .i64 trim) := (blk_cell hs.out 1).trans rfl
  have hs2 : w1.cell? ⟨w.heap.size + 1, 2, none⟩ = some (.int .i64 pitch) := (blk_cell hs.out 2).trans rfl
  have hs3 : w1.cell? ⟨w.heap.size + 1, 3, none⟩ = some (.int .i64 step) := (blk_cell hs.out 3).trans rfl
  have ht0 : w1.cell? ⟨w.heap.size + 1 + 1, 0, none⟩ = some (.int .i64 chip) := (blk_cell ht.out 0).trans rfl
  have ht1 : w1.cell? ⟨w.heap.size + 1 + 1, 1, none⟩ = some (.int .i64 dust) := (blk_cell ht.out 1).trans rfl
  have ht2 : w1.cell? ⟨w.heap.size + 1 + 1, 2, none⟩ = some (.int .i64 fine) := (blk_cell ht.out 2).trans rfl
  have hlz := blk_lt hz.out
  have KP : Aside0 (∀ X, Below w1.heap.size w1 X → Below w1.heap.size w1 X ∧ X.cell? ⟨w.heap.size, 0, none⟩ = some (.int .i64 xa) ∧ X.cell? ⟨w.heap.size, 1, none⟩ = some (.int .i64 xb) ∧ X.cell? ⟨w.heap.size, 2, none⟩ = some (.int .i64 ya) ∧ X.cell? ⟨w.heap.size, 3, none⟩ = some (.int .i64 yb) ∧ X.cell? ⟨w.heap.size + 1, 0, none⟩ = some (.int .i64 kerf) ∧ X.cell? ⟨w.heap.size + 1, 1, none⟩ = some (.int .i64 trim) ∧ X.cell? ⟨w.heap.size + 1, 2, none⟩ = some (.int .i64 pitch) ∧ X.cell? ⟨w.heap.size + 1, 3, none⟩ = some (.int .i64 step) ∧ X.cell? ⟨w.heap.size + 1 + 1, 0, none⟩ = some (.int .i64 chip) ∧ X.cell? ⟨w.heap.size + 1 + 1, 1, none⟩ = some (.int .i64 dust) ∧ X.cell? ⟨w.heap.size + 1 + 1, 2, none⟩ = some (.int .i64 fine)) := ⟨fun X h => ⟨h, pw_cell_below h hr0, pw_cell_below h hr1, pw_cell_below h hr2, pw_cell_below h hr3, pw_cell_below h hs0, pw_cell_below h hs1, pw_cell_below h hs2, pw_cell_below h hs3, pw_cell_below h ht0, pw_cell_below h ht1, pw_cell_below h ht2⟩⟩
  go_region_held3 (fun X => Below w1.heap.size w1 X ∧ X.cell? ⟨w.heap.size, 0, none⟩ = some (.int .i64 xa) ∧ X.cell? ⟨w.heap.size, 1, none⟩ = some (.int .i64 xb) ∧ X.cell? ⟨w.heap.size, 2, none⟩ = some (.int .i64 ya) ∧ X.cell? ⟨w.heap.size, 3, none⟩ = some (.int .i64 yb) ∧ X.cell? ⟨w.heap.size + 1, 0, none⟩ = some (.int .i64 kerf) ∧ X.cell? ⟨w.heap.size + 1, 1, none⟩ = some (.int .i64 trim) ∧ X.cell? ⟨w.heap.size + 1, 2, none⟩ = some (.int .i64 pitch) ∧ X.cell? ⟨w.heap.size + 1, 3, none⟩ = some (.int .i64 step) ∧ X.cell? ⟨w.heap.size + 1 + 1, 0, none⟩ = some (.int .i64 chip) ∧ X.cell? ⟨w.heap.size + 1 + 1, 1, none⟩ = some (.int .i64 dust) ∧ X.cell? ⟨w.heap.size + 1 + 1, 2, none⟩ = some (.int .i64 fine))
    ((refine KP.out _ ?_; (repeat (with_reducible first | assumption | exact Below.refl _ _ | refine below_set ?_ (Nat.le_refl _) | apply below_alloc | apply below_drew))))
    (first | (go_at_call 18; refine (solLen_calls _ _ l _ ?c1).mono ?_; (case c1 => (go_split_ands; refine Kd.C_below HL.out (below_then HB.out HB.out.size ?_); (repeat (with_reducible first | assumption | exact Below.refl _ _ | apply below_alloc | apply below_drew)))); rintro e w2 ⟨rfl, hb2⟩; have hS2 : Below w1.heap.size w1 w2 := (by refine below_then ?hx (Below.size ?hx) hb2; case hx => (repeat (with_reducible first | assumption | exact Below.refl _ _ | apply below_alloc | apply below_drew))); (first | (refine lay (T := Aside0 (w2.heap[w1.heap.size]? = some (.cells #[.slice none 0 0, .slice none 0 0, .int .i64 0, .int .i64 0, .int .i64 0, .int .i64 0, .int .i64 0, .int .i64 0, .int .i64 0, .int .i64 0, .int .i64 0, .int .i64 0, .int .i64 0, .int .i64 0] 137 (0, 0)))) ?lp ?_; (case lp => (refine ⟨blk_below ?_ hb2⟩; (repeat (with_reducible first | (refine blk_newi _ ?_; simp; done) | refine blk_drewN ?_ _ | refine blk_drew ?_ | refine blk_alloc ?_ _)); done)); intro HX2; have hk0 := (blk_cell HX2.out 0).trans rfl; have hkf0 := blk_frozen HX2.out 0; have hk1 := (blk_cell HX2.out 1).trans rfl; have hkf1 := blk_frozen HX2.out 1; have hk2 := (blk_cell HX2.out 2).trans rfl; have hkf2 := blk_frozen HX2.out 2; have hk3 := (blk_cell HX2.out 3).trans rfl; have hkf3 := blk_frozen HX2.out 3; have hk4 := (blk_cell HX2.out 4).trans rfl; have hkf4 := blk_frozen HX2.out 4; have hk5 := (blk_cell HX2.out 5).trans rfl; have hkf5 := blk_frozen HX2.out 5; have hk6 := (blk_cell HX2.out 6).trans rfl; have hkf6 := blk_frozen HX2.out 6; have hk7 := (blk_cell HX2.out 7).trans rfl; have hkf7 := blk_frozen HX2.out 7; have hk8 := (blk_cell HX2.out 8).trans rfl; have hkf8 := blk_frozen HX2.out 8; have hk9 := (blk_cell HX2.out 9).trans rfl; have hkf9 := blk_frozen HX2.out 9; have hk10 := (blk_cell HX2.out 10).trans rfl; have hkf10 := blk_frozen HX2.out 10; have hk11 := (blk_cell HX2.out 11).trans rfl; have hkf11 := blk_frozen HX2.out 11; have hk12 := (blk_cell HX2.out 12).trans rfl; have hkf12 := blk_frozen HX2.out 12; have hk13 := (blk_cell HX2.out 13).trans rfl; have hkf13 := blk_frozen HX2.out 13) | skip); clear hb2))
  all_goals go_split_ands
  · have HX := Aside0.mk (blk_new w2 (.cells #[.slice A l.length c, .slice A' d.length c', .int .i64 xa, .int .i64 xb, .int .i64 ya, .int .i64 yb, .int .i64 kerf, .int .i64 trim, .int .i64 pitch, .int .i64 step, .int .i64 chip, .int .i64 dust, .int .i64 fine, .int .i64 (solLen l)] 137))
    have HR3 := Aside0.mk (blk_alloc (blk_below hr.out hS2) (.cells #[.slice A l.length c, .slice A' d.length c', .int .i64 xa, .int .i64 xb, .int .i64 ya, .int .i64 yb, .int .i64 kerf, .int .i64 trim, .int .i64 pitch, .int .i64 step, .int .i64 chip, .int .i64 dust, .int .i64 fine, .int .i64 (solLen l)] 137))
    have HS3 := Aside0.mk (blk_alloc (blk_below hs.out hS2) (.cells #[.slice A l.length c, .slice A' d.length c', .int .i64 xa, .int .i64 xb, .int .i64 ya, .int .i64 yb, .int .i64 kerf, .int .i64 trim, .int .i64 pitch, .int .i64 step, .int .i64 chip, .int .i64 dust, .int .i64 fine, .int .i64 (solLen l)] 137))
    have HT3 := Aside0.mk (blk_alloc (blk_below ht.out hS2) (.cells #[.slice A l.length c, .slice A' d.length c', .int .i64 xa, .int .i64 xb, .int .i64 ya, .int .i64 yb, .int .i64 kerf, .int .i64 trim, .int .i64 pitch, .int .i64 step, .int .i64 chip, .int .i64 dust, .int .i64 fine, .int .i64 (solLen l)] 137))
    have HZ3 := Aside0.mk (blk_alloc (blk_below hz.out hS2) (.cells #[.slice A l.length c, .slice A' d.length c', .int .i64 xa, .int .i64 xb, .int .i64 ya, .int .i64 yb, .int .i64 kerf, .int .i64 trim, .int .i64 pitch, .int .i64 step, .int .i64 chip, .int .i64 dust, .int .i64 fine, .int .i64 (solLen l)] 137))
    have HB3 := Aside0.mk (below_alloc (below_then HB.out HB.out.size hS2) (.cells #[.slice A l.length c, .slice A' d.length c', .int .i64 xa, .int .i64 xb, .int .i64 ya, .int .i64 yb, .int .i64 kerf, .int .i64 trim, .int .i64 pitch, .int .i64 step, .int .i64 chip, .int .i64 dust, .int .i64 fine, .int .i64 (solLen l)] 137))
    have hgz := blk_lt (blk_below hz.out hS2)
    clear hS2 KP hr hs ht hz HB hr0 hr1 hr2 hr3 hs0 hs1 hs2 hs3 ht0 ht1 ht2
    generalize w2.alloc (.cells #[.slice A l.length c, .slice A' d.length c', .int .i64 xa, .int .i64 xb, .int .i64 ya, .int .i64 yb, .int .i64 kerf, .int .i64 trim, .int .i64 pitch, .int .i64 step, .int .i64 chip, .int .i64 dust, .int .i64 fine, .int .i64 (solLen l)] 137) = W3 at *
    generalize w2.heap.size = gx at *
    have hr0 : W3.cell? ⟨w.heap.size, 0, none⟩ = some (.int .i64 xa) := (blk_cell HR3.out 0).trans rfl
    have hr1 : W3.cell? ⟨w.heap.size, 1, none⟩ = some (.int .i64 xb) := (blk_cell HR3.out 1).trans rfl
    have hr2 : W3.cell? ⟨w.heap.size, 2, none⟩ = some (.int .i64 ya) := (blk_cell HR3.out 2).trans rfl
    have hr3 : W3.cell? ⟨w.heap.size, 3, none⟩ = some (.int .i64 yb) := (blk_cell HR3.out 3).trans rfl
    have hs0 : W3.cell? ⟨w.heap.size + 1, 0, none⟩ = some (.int .i64 kerf) := (blk_cell HS3.out 0).trans rfl
    have hgxW := blk_lt HX.out
    have hgwW := HB3.out.size
    have hgrW := blk_lt HR3.out
    have hgsW := blk_lt HS3.out
    go_upto_region 7 with (fail)
    have HO4 := Aside0.mk (blk_new W3 (.cells #[.int .i64 (xb - xa), .int .i64 kerf, .int .i64 1, .slice none 0 0, .slice none 0 0, .slice none 0 0, .slice none 0 0] 64))
    have HX4 := Aside0.mk (blk_alloc HX.out (.cells #[.int .i64 (xb - xa), .int .i64 kerf, .int .i64 1, .slice none 0 0, .slice none 0 0, .slice none 0 0, .slice none 0 0] 64))
    have HR4 := Aside0.mk (blk_alloc HR3.out (.cells #[.int .i64 (xb - xa), .int .i64 kerf, .int .i64 1, .slice none 0 0, .slice none 0 0, .slice none 0 0, .slice none 0 0] 64))
    have HT4 := Aside0.mk (blk_alloc HT3.out (.cells #[.int .i64 (xb - xa), .int .i64 kerf, .int .i64 1, .slice none 0 0, .slice none 0 0, .slice none 0 0, .slice none 0 0] 64))
    have HZ4 := Aside0.mk (blk_alloc HZ3.out (.cells #[.int .i64 (xb - xa), .int .i64 kerf, .int .i64 1, .slice none 0 0, .slice none 0 0, .slice none 0 0, .slice none 0 0] 64))
    have HB4 := Aside0.mk (below_alloc HB3.out (.cells #[.int .i64 (xb - xa), .int .i64 kerf, .int .i64 1, .slice none 0 0, .slice none 0 0, .slice none 0 0, .slice none 0 0] 64))
    have hgt : w.heap.size + 1 + 1 ≠ W3.heap.size := by omega
    have hgz2 : w.heap.size + 1 + 1 + 1 ≠ W3.heap.size := by omega
    have hgx : gx ≠ W3.heap.size := by omega
    clear HX HR3 HS3 HT3 HZ3 HB3 hr0 hr1 hr2 hr3 hs0
    generalize W3.alloc (.cells #[.int .i64 (xb - xa), .int .i64 kerf, .int .i64 1, .slice none 0 0, .slice none 0 0, .slice none 0 0, .slice none 0 0] 64) = W4 at *
    generalize W3.heap.size = go at *
    have hr0 : W4.cell? ⟨w.heap.size, 0, none⟩ = some (.int .i64 xa) := (blk_cell HR4.out 0).trans rfl
    have hr1 : W4.cell? ⟨w.heap.size, 1, none⟩ = some (.int .i64 xb) := (blk_cell HR4.out 1).trans rfl
    have hr2 : W4.cell? ⟨w.heap.size, 2, none⟩ = some (.int .i64 ya) := (blk_cell HR4.out 2).trans rfl
    have hr3 : W4.cell? ⟨w.heap.size, 3, none⟩ = some (.int .i64 yb) := (blk_cell HR4.out 3).trans rfl
    go_wp2_with fail
    refine (sizes_calls _ _ ps _ _ HN.out (Kd.C_below HP.out HB4.out) HC.out).mono ?_
    rintro e w5 ⟨⟨v, v', rfl, ho1, ho2⟩, hb5⟩
    obtain ⟨As, ns, cs, rfl⟩ : ∃ A n c, v = .slice A n c := by
      obtain ⟨A, c, e, _⟩ := own_C ho1
      exact ⟨A, _, c, e⟩
    obtain ⟨Ap, np, cp, rfl⟩ : ∃ A n c, v' = .slice A n c := by
      obtain ⟨A, c, e, _⟩ := own_C ho2
      exact ⟨A, _, c, e⟩
    have HO5 := Aside0.mk (blk_below HO4.out hb5)
    have HX5 := Aside0.mk (blk_below HX4.out hb5)
    have HT5 := Aside0.mk (blk_below HT4.out hb5)
    have HZ5 := Aside0.mk (blk_below HZ4.out hb5)
    have HB5 := Aside0.mk (below_then HB4.out HB4.out.size hb5)
    have f1 := foot_own (OwnRow.lower ho1 HB4.out.size) HO5.out (by decide)
    have f2 := foot_own (OwnRow.lower ho2 HB4.out.size) HO5.out (by decide)
    have HOW := Aside0.mk (OwnRow.lower ho1 HB4.out.size)
    obtain ⟨rfl, hcs, f1⟩ := f1
    obtain ⟨rfl, hcp, f2⟩ := f2
    have F1 := Aside0.mk f1
    have F2 := Aside0.mk f2
    have hgo5 := blk_lt HO5.out
    have HWE := Aside0.mk (show widthsOf ps (yb - ya) = widthsTo ps (yb - ya) ps.length from if_pos K3.out)
    have HPE := Aside0.mk (show prodsOf ps (yb - ya) = prodsTo ps (yb - ya) ps.length from if_pos K3.out)
    have hsl : (widthsOf ps (yb - ya)).length ≤ 16 := by rw [HWE.out]; have := widthsTo_len ps (yb - ya) ps.length; have := catCheck_len K3.out; omega
    have HSL := Aside0.mk (show (widthsOf ps (yb - ya)).length = (prodsOf ps (yb - ya)).length by rw [HWE.out, HPE.out, prodsTo_len])
    have HSZ : Aside0 (∀ i : Nat, i < (widthsOf ps (yb - ya)).length → 0 ≤ rdI (widthsOf ps (yb - ya)) i ∧ rdI (widthsOf ps (yb - ya)) i ≤ 2000) := ⟨fun i hi => by rw [HWE.out] at hi ⊢; exact widthsTo_bound _ _ _ _ (rdI_mem hi)⟩
    have HPZ : Aside0 (∀ i : Nat, i < (prodsOf ps (yb - ya)).length → 0 ≤ rdI (prodsOf ps (yb - ya)) i ∧ rdI (prodsOf ps (yb - ya)) i < ps.length) := ⟨fun i hi => by rw [HPE.out] at hi ⊢; exact prodsTo_bound _ _ _ _ (rdI_mem hi)⟩
    clear ho1 ho2 hb5 f1 f2 HO4 HX4 HR4 HT4 HZ4 HB4 hr0 hr1 hr2 hr3 HWE HPE
    have ho3 : w5.cell? ⟨go, 3, none⟩ = some (.slice none 0 0) := (blk_cell HO5.out 3).trans rfl
    have hof3 : w5.frozen? ⟨go, 3, none⟩ = false := blk_frozen HO5.out 3
    go_upto_region 8 with (fail)
    clear ho3 hof3
    have HK5 := Aside0.mk ((KeepBut.refl w5 go none).set_ 3 (.slice As (widthsOf ps (yb - ya)).length cs))
    have HOb := Aside0.mk HO5.out
    have HB5_ := Aside0.mk (below_set (j := 3) (v := .slice As (widthsOf ps (yb - ya)).length cs) HB5.out (show w.heap.size ≤ go by omega))
    have HO5_ := Aside0.mk (blk_put (cs' := #[.int .i64 (xb - xa), .int .i64 kerf, .int .i64 1, .slice As (widthsOf ps (yb - ya)).length cs, .slice none 0 0, .slice none 0 0, .slice none 0 0]) HO5.out 3 (.slice As (widthsOf ps (yb - ya)).length cs) rfl)
    have HX5_ := Aside0.mk (blk_far (p := ⟨go, 3, none⟩) HX5.out (show gx ≠ go by omega) (.slice As (widthsOf ps (yb - ya)).length cs))
    have HT5_ := Aside0.mk (blk_far (p := ⟨go, 3, none⟩) HT5.out (show w.heap.size + 1 + 1 ≠ go by omega) (.slice As (widthsOf ps (yb - ya)).length cs))
    have HZ5_ := Aside0.mk (blk_far (p := ⟨go, 3, none⟩) HZ5.out (show w.heap.size + 1 + 1 + 1 ≠ go by omega) (.slice As (widthsOf ps (yb - ya)).length cs))
    generalize (w5).setCell ⟨go, 3, none⟩ (.slice As (widthsOf ps (yb - ya)).length cs) = W6 at *
    clear HB5
    have HB5 := HB5_
    clear HB5_
    clear HO5
    have HO5 := HO5_
    clear HO5_
    clear HX5
    have HX5 := HX5_
    clear HX5_
    clear HT5
    have HT5 := HT5_
    clear HT5_
    clear HZ5
    have HZ5 := HZ5_
    clear HZ5_
    have hgo6 := blk_lt HO5.out
    have hzz6 := blk_lt HZ5.out
    have ho3 : W6.cell? ⟨go, 3, none⟩ = some (.slice As (widthsOf ps (yb - ya)).length cs) := (blk_cell HO5.out 3).trans rfl
    go_wp2_with fail
    clear ho3
    refine gains_loop A c l A' c' d Aq cq ps Ap cp (prodsOf ps (yb - ya)) As cs (widthsOf ps (yb - ya)) xa xb ya yb kerf trim pitch step chip dust fine (xb - xa) kerf gx go (by omega) (by omega) s3 s4 s5 t1 t2 t3 t4 (by omega) (by omega) HSL HSZ HPZ hsl w W6 (by omega) hgx hgo6 HL HD HP HN HB5 HX5 HO5 ⟨fun W' hk => F2.out W' (HK5.out.trans hk (.inl rfl))⟩ ⟨fun W' hk => F1.out W' (HK5.out.trans hk (.inl rfl))⟩ _ _ _ _ _ _ _ _ _ _ _ _ _ _ _ _ _ _ _ _ _ _ _ _ _ _ _ _ _ _ _ _ _ _ _ _ _ _ _ _ _ _ _ _ _ _ _ _ _ _ _ _ _ _ _ _ _ _ _ _ _ _ _ _ _ _ _ _ _ _ _ _ _ _ _ _ _ _ _ _ _ _ _ _ _ _ _ _ _ _ _ _ _ _ _ _ _ _ _ _ _ _ _ _ _ _ _ _ _ _ _ _ _ _ _ _ _ _ _ _ _ _ _ _ _ _ _ _ _ _ _ _ _ _ _ _ _ _ ?_
    intro y18 y19 y20 y21 y69 y70 y71 y72 y73 y74 y75 y76 y77 y78 y79 y80 y81 y82 y83 y84 y85 y86 y87 y88 y89 y90 y91 y92 y93 y94 y95 y96 y97 y98 y99 y100 y101 y102 y103 y104 y105 y106 y107 vg w7 hk7 hb7 ho7 hg7
    obtain ⟨A2, n2, c2, rfl⟩ : ∃ A n c, vg = .slice A n c := by
      obtain ⟨A, c, e⟩ := Kd.R_slice hg7
      exact ⟨A, _, c, e⟩
    have HX7 := Aside0.mk (KeepBut.blk hk7 HX5.out hgx (by simp))
    have HT7 := Aside0.mk (KeepBut.blk hk7 HT5.out hgt (by simp))
    have HZ7 := Aside0.mk (KeepBut.blk hk7 HZ5.out hgz2 (by simp))
    have HO7 := Aside0.mk ho7
    have HB7 := Aside0.mk hb7
    have HG7 := Aside0.mk hg7
    have HK7 := Aside0.mk hk7
    have hgo7 := blk_lt HO7.out
    have hsz67 := hk7.1
    clear hk7 hb7 ho7 hg7 HX5 HT5 HZ5 HO5 HB5
    have ho0 : w7.cell? ⟨go, 0, none⟩ = some (.int .i64 (xb - xa)) := (blk_cell HO7.out 0).trans rfl
    go_wp2_with fail
    clear ho0
    refine chips_loop A c l A' d.length c' xa xb ya yb kerf trim pitch step chip dust fine (xb - xa) kerf (.slice As (widthsOf ps (yb - ya)).length cs) (.slice A2 n2 c2) (w.heap.size + 1 + 1) gx go (by omega) (by omega) t1 t2 t3 t4 (by omega) (by omega) w w7 (by omega) hgx hgt hgo7 HL HB7 HX7 HT7 HO7 _ _ _ _ _ _ _ _ _ _ _ _ _ _ _ _ _ _ _ _ _ _ _ _ _ _ _ _ _ _ _ _ _ _ _ _ _ _ _ _ _ _ _ _ _ _ _ _ _ _ _ _ _ _ _ _ _ _ _ _ _ _ _ _ _ _ _ _ _ _ _ _ _ _ _ _ _ _ _ _ _ _ _ _ _ _ _ _ _ _ _ _ _ _ _ _ _ _ _ _ _ _ _ _ _ _ _ _ _ _ _ _ _ _ _ _ _ _ _ _ _ _ _ _ _ _ _ _ _ _ _ _ _ _ _ _ _ _ _ _ ?_
    intro y22 y23 y110 y111 y112 y113 y114 y115 y116 y117 y118 y119 y120 y121 y122 y123 y124 y125 y126 y127 y128 y129 y130 y131 y132 y133 y134 y135 y136 y137 y138 y139 y140 y141 y142 vc vd w8 hk8 hb8 ho8 hc8 hd8
    obtain ⟨A3, n3, c3, rfl⟩ : ∃ A n c, vc = .slice A n c := by
      obtain ⟨A, c, e⟩ := Kd.R_slice hc8
      exact ⟨A, _, c, e⟩
    obtain ⟨A4, n4, c4, rfl⟩ : ∃ A n c, vd = .slice A n c := by
      obtain ⟨A, c, e⟩ := Kd.R_slice hd8
      exact ⟨A, _, c, e⟩
    have HZ8 := Aside0.mk (KeepBut.blk hk8 HZ7.out hgz2 (by simp))
    have HG8 := Aside0.mk (Kd.R_keep HG7.out hk8 (fun q hq => by omega))
    have HOW8 := Aside0.mk (OwnRow.keep HOW.out HOb.out (by decide) ((HK5.out.trans HK7.out (.inl rfl)).trans hk8 (.inl rfl)))
    have HO8 := Aside0.mk ho8
    have HB8 := Aside0.mk hb8
    have HC8 := Aside0.mk hc8
    have HD8 := Aside0.mk hd8
    clear hk8 hb8 ho8 hc8 hd8 HZ7 HG7 HOW HOb HK5 HK7 HX7 HT7 HO7 HB7 F1 F2
    have ho0 : w8.cell? ⟨go, 0, none⟩ = some (.int .i64 (xb - xa)) := (blk_cell HO8.out 0).trans rfl
    have ho1 : w8.cell? ⟨go, 1, none⟩ = some (.int .i64 kerf) := (blk_cell HO8.out 1).trans rfl
    have ho2 : w8.cell? ⟨go, 2, none⟩ = some (.int .i64 1) := (blk_cell HO8.out 2).trans rfl
    have ho3 : w8.cell? ⟨go, 3, none⟩ = some (.slice As (widthsOf ps (yb - ya)).length cs) := (blk_cell HO8.out 3).trans rfl
    have ho4 : w8.cell? ⟨go, 4, none⟩ = some (.slice A2 n2 c2) := (blk_cell HO8.out 4).trans rfl
    have ho5 : w8.cell? ⟨go, 5, none⟩ = some (.slice A3 n3 c3) := (blk_cell HO8.out 5).trans rfl
    have ho6 : w8.cell? ⟨go, 6, none⟩ = some (.slice A4 n4 c4) := (blk_cell HO8.out 6).trans rfl
    have hz0 : w8.cell? ⟨w.heap.size + 1 + 1 + 1, 0, none⟩ = some (.int .i64 0) := (blk_cell HZ8.out 0).trans rfl
    have hzf0 : w8.frozen? ⟨w.heap.size + 1 + 1 + 1, 0, none⟩ = false := blk_frozen HZ8.out 0
    have hz1 : w8.cell? ⟨w.heap.size + 1 + 1 + 1, 1, none⟩ = some (.int .i64 0) := (blk_cell HZ8.out 1).trans rfl
    have hzf1 : w8.frozen? ⟨w.heap.size + 1 + 1 + 1, 1, none⟩ = false := blk_frozen HZ8.out 1
    have hz2 : w8.cell? ⟨w.heap.size + 1 + 1 + 1, 2, none⟩ = some (.int .i64 0) := (blk_cell HZ8.out 2).trans rfl
    have hzf2 : w8.frozen? ⟨w.heap.size + 1 + 1 + 1, 2, none⟩ = false := blk_frozen HZ8.out 2
    have hz3 : w8.cell? ⟨w.heap.size + 1 + 1 + 1, 3, none⟩ = some (.slice none 0 0) := (blk_cell HZ8.out 3).trans rfl
    have hzf3 : w8.frozen? ⟨w.heap.size + 1 + 1 + 1, 3, none⟩ = false := blk_frozen HZ8.out 3
    have hz4 : w8.cell? ⟨w.heap.size + 1 + 1 + 1, 4, none⟩ = some (.slice none 0 0) := (blk_cell HZ8.out 4).trans rfl
    have hzf4 : w8.frozen? ⟨w.heap.size + 1 + 1 + 1, 4, none⟩ = false := blk_frozen HZ8.out 4
    have hz5 : w8.cell? ⟨w.heap.size + 1 + 1 + 1, 5, none⟩ = some (.slice none 0 0) := (blk_cell HZ8.out 5).trans rfl
    have hzf5 : w8.frozen? ⟨w.heap.size + 1 + 1 + 1, 5, none⟩ = false := blk_frozen HZ8.out 5
    have hz6 : w8.cell? ⟨w.heap.size + 1 + 1 + 1, 6, none⟩ = some (.slice none 0 0) := (blk_cell HZ8.out 6).trans rfl
    have hzf6 : w8.frozen? ⟨w.heap.size + 1 + 1 + 1, 6, none⟩ = false := blk_frozen HZ8.out 6
    go_wp2_with fail
    clear hz0 hzf0 hz1 hzf1 hz2 hzf2 hz3 hzf3 hz4 hzf4 hz5 hzf5 hz6 hzf6 ho0 ho1 ho2 ho3 ho4 ho5 ho6
    have HG9 := Aside0.mk ((Kd.R_far (p := ⟨w.heap.size + 1 + 1 + 1, 6, none⟩) (Kd.R_far (p := ⟨w.heap.size + 1 + 1 + 1, 5, none⟩) (Kd.R_far (p := ⟨w.heap.size + 1 + 1 + 1, 4, none⟩) (Kd.R_far (p := ⟨w.heap.size + 1 + 1 + 1, 3, none⟩) (Kd.R_far (p := ⟨w.heap.size + 1 + 1 + 1, 2, none⟩) (Kd.R_far (p := ⟨w.heap.size + 1 + 1 + 1, 1, none⟩) (Kd.R_far (p := ⟨w.heap.size + 1 + 1 + 1, 0, none⟩) HG8.out (fun q hq => by show q ≠ w.heap.size + 1 + 1 + 1; omega) (.int .i64 (xb - xa))) (fun q hq => by show q ≠ w.heap.size + 1 + 1 + 1; omega) (.int .i64 kerf)) (fun q hq => by show q ≠ w.heap.size + 1 + 1 + 1; omega) (.int .i64 1)) (fun q hq => by show q ≠ w.heap.size + 1 + 1 + 1; omega) (.slice As (widthsOf ps (yb - ya)).length cs)) (fun q hq => by show q ≠ w.heap.size + 1 + 1 + 1; omega) (.slice A2 n2 c2)) (fun q hq => by show q ≠ w.heap.size + 1 + 1 + 1; omega) (.slice A3 n3 c3)) (fun q hq => by show q ≠ w.heap.size + 1 + 1 + 1; omega) (.slice A4 n4 c4)))
    have HC9 := Aside0.mk ((Kd.R_far (p := ⟨w.heap.size + 1 + 1 + 1, 6, none⟩) (Kd.R_far (p := ⟨w.heap.size + 1 + 1 + 1, 5, none⟩) (Kd.R_far (p := ⟨w.heap.size + 1 + 1 + 1, 4, none⟩) (Kd.R_far (p := ⟨w.heap.size + 1 + 1 + 1, 3, none⟩) (Kd.R_far (p := ⟨w.heap.size + 1 + 1 + 1, 2, none⟩) (Kd.R_far (p := ⟨w.heap.size + 1 + 1 + 1, 1, none⟩) (Kd.R_far (p := ⟨w.heap.size + 1 + 1 + 1, 0, none⟩) HC8.out (fun q hq => by show q ≠ w.heap.size + 1 + 1 + 1; omega) (.int .i64 (xb - xa))) (fun q hq => by show q ≠ w.heap.size + 1 + 1 + 1; omega) (.int .i64 kerf)) (fun q hq => by show q ≠ w.heap.size + 1 + 1 + 1; omega) (.int .i64 1)) (fun q hq => by show q ≠ w.heap.size + 1 + 1 + 1; omega) (.slice As (widthsOf ps (yb - ya)).length cs)) (fun q hq => by show q ≠ w.heap.size + 1 + 1 + 1; omega) (.slice A2 n2 c2)) (fun q hq => by show q ≠ w.heap.size + 1 + 1 + 1; omega) (.slice A3 n3 c3)) (fun q hq => by show q ≠ w.heap.size + 1 + 1 + 1; omega) (.slice A4 n4 c4)))
    have HD9 := Aside0.mk ((Kd.R_far (p := ⟨w.heap.size + 1 + 1 + 1, 6, none⟩) (Kd.R_far (p := ⟨w.heap.size + 1 + 1 + 1, 5, none⟩) (Kd.R_far (p := ⟨w.heap.size + 1 + 1 + 1, 4, none⟩) (Kd.R_far (p := ⟨w.heap.size + 1 + 1 + 1, 3, none⟩) (Kd.R_far (p := ⟨w.heap.size + 1 + 1 + 1, 2, none⟩) (Kd.R_far (p := ⟨w.heap.size + 1 + 1 + 1, 1, none⟩) (Kd.R_far (p := ⟨w.heap.size + 1 + 1 + 1, 0, none⟩) HD8.out (fun q hq => by show q ≠ w.heap.size + 1 + 1 + 1; omega) (.int .i64 (xb - xa))) (fun q hq => by show q ≠ w.heap.size + 1 + 1 + 1; omega) (.int .i64 kerf)) (fun q hq => by show q ≠ w.heap.size + 1 + 1 + 1; omega) (.int .i64 1)) (fun q hq => by show q ≠ w.heap.size + 1 + 1 + 1; omega) (.slice As (widthsOf ps (yb - ya)).length cs)) (fun q hq => by show q ≠ w.heap.size + 1 + 1 + 1; omega) (.slice A2 n2 c2)) (fun q hq => by show q ≠ w.heap.size + 1 + 1 + 1; omega) (.slice A3 n3 c3)) (fun q hq => by show q ≠ w.heap.size + 1 + 1 + 1; omega) (.slice A4 n4 c4)))
    have HB8_ := Aside0.mk (below_set (j := 6) (v := .slice A4 n4 c4) (below_set (j := 5) (v := .slice A3 n3 c3) (below_set (j := 4) (v := .slice A2 n2 c2) (below_set (j := 3) (v := .slice As (widthsOf ps (yb - ya)).length cs) (below_set (j := 2) (v := .int .i64 1) (below_set (j := 1) (v := .int .i64 kerf) (below_set (j := 0) (v := .int .i64 (xb - xa)) HB8.out (show w.heap.size ≤ w.heap.size + 1 + 1 + 1 by omega)) (show w.heap.size ≤ w.heap.size + 1 + 1 + 1 by omega)) (show w.heap.size ≤ w.heap.size + 1 + 1 + 1 by omega)) (show w.heap.size ≤ w.heap.size + 1 + 1 + 1 by omega)) (show w.heap.size ≤ w.heap.size + 1 + 1 + 1 by omega)) (show w.heap.size ≤ w.heap.size + 1 + 1 + 1 by omega)) (show w.heap.size ≤ w.heap.size + 1 + 1 + 1 by omega))
    have HZ8_ := Aside0.mk (blk_put (cs' := #[.int .i64 (xb - xa), .int .i64 kerf, .int .i64 1, .slice As (widthsOf ps (yb - ya)).length cs, .slice A2 n2 c2, .slice A3 n3 c3, .slice A4 n4 c4]) (blk_put (cs' := #[.int .i64 (xb - xa), .int .i64 kerf, .int .i64 1, .slice As (widthsOf ps (yb - ya)).length cs, .slice A2 n2 c2, .slice A3 n3 c3, .slice none 0 0]) (blk_put (cs' := #[.int .i64 (xb - xa), .int .i64 kerf, .int .i64 1, .slice As (widthsOf ps (yb - ya)).length cs, .slice A2 n2 c2, .slice none 0 0, .slice none 0 0]) (blk_put (cs' := #[.int .i64 (xb - xa), .int .i64 kerf, .int .i64 1, .slice As (widthsOf ps (yb - ya)).length cs, .slice none 0 0, .slice none 0 0, .slice none 0 0]) (blk_put (cs' := #[.int .i64 (xb - xa), .int .i64 kerf, .int .i64 1, .slice none 0 0, .slice none 0 0, .slice none 0 0, .slice none 0 0]) (blk_put (cs' := #[.int .i64 (xb - xa), .int .i64 kerf, .int .i64 0, .slice none 0 0, .slice none 0 0, .slice none 0 0, .slice none 0 0]) (blk_put (cs' := #[.int .i64 (xb - xa), .int .i64 0, .int .i64 0, .slice none 0 0, .slice none 0 0, .slice none 0 0, .slice none 0 0]) HZ8.out 0 (.int .i64 (xb - xa)) rfl) 1 (.int .i64 kerf) rfl) 2 (.int .i64 1) rfl) 3 (.slice As (widthsOf ps (yb - ya)).length cs) rfl) 4 (.slice A2 n2 c2) rfl) 5 (.slice A3 n3 c3) rfl) 6 (.slice A4 n4 c4) rfl)
    have HOW8_ := Aside0.mk (OwnRow.set_ (OwnRow.set_ (OwnRow.set_ (OwnRow.set_ (OwnRow.set_ (OwnRow.set_ (OwnRow.set_ HOW8.out HZ8.out (by decide) 0 (.int .i64 (xb - xa))) (blk_put (cs' := #[.int .i64 (xb - xa), .int .i64 0, .int .i64 0, .slice none 0 0, .slice none 0 0, .slice none 0 0, .slice none 0 0]) HZ8.out 0 (.int .i64 (xb - xa)) rfl) (by decide) 1 (.int .i64 kerf)) (blk_put (cs' := #[.int .i64 (xb - xa), .int .i64 kerf, .int .i64 0, .slice none 0 0, .slice none 0 0, .slice none 0 0, .slice none 0 0]) (blk_put (cs' := #[.int .i64 (xb - xa), .int .i64 0, .int .i64 0, .slice none 0 0, .slice none 0 0, .slice none 0 0, .slice none 0 0]) HZ8.out 0 (.int .i64 (xb - xa)) rfl) 1 (.int .i64 kerf) rfl) (by decide) 2 (.int .i64 1)) (blk_put (cs' := #[.int .i64 (xb - xa), .int .i64 kerf, .int .i64 1, .slice none 0 0, .slice none 0 0, .slice none 0 0, .slice none 0 0]) (blk_put (cs' := #[.int .i64 (xb - xa), .int .i64 kerf, .int .i64 0, .slice none 0 0, .slice none 0 0, .slice none 0 0, .slice none 0 0]) (blk_put (cs' := #[.int .i64 (xb - xa), .int .i64 0, .int .i64 0, .slice none 0 0, .slice none 0 0, .slice none 0 0, .slice none 0 0]) HZ8.out 0 (.int .i64 (xb - xa)) rfl) 1 (.int .i64 kerf) rfl) 2 (.int .i64 1) rfl) (by decide) 3 (.slice As (widthsOf ps (yb - ya)).length cs)) (blk_put (cs' := #[.int .i64 (xb - xa), .int .i64 kerf, .int .i64 1, .slice As (widthsOf ps (yb - ya)).length cs, .slice none 0 0, .slice none 0 0, .slice none 0 0]) (blk_put (cs' := #[.int .i64 (xb - xa), .int .i64 kerf, .int .i64 1, .slice none 0 0, .slice none 0 0, .slice none 0 0, .slice none 0 0]) (blk_put (cs' := #[.int .i64 (xb - xa), .int .i64 kerf, .int .i64 0, .slice none 0 0, .slice none 0 0, .slice none 0 0, .slice none 0 0]) (blk_put (cs' := #[.int .i64 (xb - xa), .int .i64 0, .int .i64 0, .slice none 0 0, .slice none 0 0, .slice none 0 0, .slice none 0 0]) HZ8.out 0 (.int .i64 (xb - xa)) rfl) 1 (.int .i64 kerf) rfl) 2 (.int .i64 1) rfl) 3 (.slice As (widthsOf ps (yb - ya)).length cs) rfl) (by decide) 4 (.slice A2 n2 c2)) (blk_put (cs' := #[.int .i64 (xb - xa), .int .i64 kerf, .int .i64 1, .slice As (widthsOf ps (yb - ya)).length cs, .slice A2 n2 c2, .slice none 0 0, .slice none 0 0]) (blk_put (cs' := #[.int .i64 (xb - xa), .int .i64 kerf, .int .i64 1, .slice As (widthsOf ps (yb - ya)).length cs, .slice none 0 0, .slice none 0 0, .slice none 0 0]) (blk_put (cs' := #[.int .i64 (xb - xa), .int .i64 kerf, .int .i64 1, .slice none 0 0, .slice none 0 0, .slice none 0 0, .slice none 0 0]) (blk_put (cs' := #[.int .i64 (xb - xa), .int .i64 kerf, .int .i64 0, .slice none 0 0, .slice none 0 0, .slice none 0 0, .slice none 0 0]) (blk_put (cs' := #[.int .i64 (xb - xa), .int .i64 0, .int .i64 0, .slice none 0 0, .slice none 0 0, .slice none 0 0, .slice none 0 0]) HZ8.out 0 (.int .i64 (xb - xa)) rfl) 1 (.int .i64 kerf) rfl) 2 (.int .i64 1) rfl) 3 (.slice As (widthsOf ps (yb - ya)).length cs) rfl) 4 (.slice A2 n2 c2) rfl) (by decide) 5 (.slice A3 n3 c3)) (blk_put (cs' := #[.int .i64 (xb - xa), .int .i64 kerf, .int .i64 1, .slice As (widthsOf ps (yb - ya)).length cs, .slice A2 n2 c2, .slice A3 n3 c3, .slice none 0 0]) (blk_put (cs' := #[.int .i64 (xb - xa), .int .i64 kerf, .int .i64 1, .slice As (widthsOf ps (yb - ya)).length cs, .slice A2 n2 c2, .slice none 0 0, .slice none 0 0]) (blk_put (cs' := #[.int .i64 (xb - xa), .int .i64 kerf, .int .i64 1, .slice As (widthsOf ps (yb - ya)).length cs, .slice none 0 0, .slice none 0 0, .slice none 0 0]) (blk_put (cs' := #[.int .i64 (xb - xa), .int .i64 kerf, .int .i64 1, .slice none 0 0, .slice none 0 0, .slice none 0 0, .slice none 0 0]) (blk_put (cs' := #[.int .i64 (xb - xa), .int .i64 kerf, .int .i64 0, .slice none 0 0, .slice none 0 0, .slice none 0 0, .slice none 0 0]) (blk_put (cs' := #[.int .i64 (xb - xa), .int .i64 0, .int .i64 0, .slice none 0 0, .slice none 0 0, .slice none 0 0, .slice none 0 0]) HZ8.out 0 (.int .i64 (xb - xa)) rfl) 1 (.int .i64 kerf) rfl) 2 (.int .i64 1) rfl) 3 (.slice As (widthsOf ps (yb - ya)).length cs) rfl) 4 (.slice A2 n2 c2) rfl) 5 (.slice A3 n3 c3) rfl) (by decide) 6 (.slice A4 n4 c4))
    generalize (((((((w8).setCell ⟨w.heap.size + 1 + 1 + 1, 0, none⟩ (.int .i64 (xb - xa))).setCell ⟨w.heap.size + 1 + 1 + 1, 1, none⟩ (.int .i64 kerf)).setCell ⟨w.heap.size + 1 + 1 + 1, 2, none⟩ (.int .i64 1)).setCell ⟨w.heap.size + 1 + 1 + 1, 3, none⟩ (.slice As (widthsOf ps (yb - ya)).length cs)).setCell ⟨w.heap.size + 1 + 1 + 1, 4, none⟩ (.slice A2 n2 c2)).setCell ⟨w.heap.size + 1 + 1 + 1, 5, none⟩ (.slice A3 n3 c3)).setCell ⟨w.heap.size + 1 + 1 + 1, 6, none⟩ (.slice A4 n4 c4) = W9 at *
    clear HB8
    have HB8 := HB8_
    clear HB8_
    clear HZ8
    have HZ8 := HZ8_
    clear HZ8_
    clear HOW8
    have HOW8 := HOW8_
    clear HOW8_
    obtain ⟨Az, cz, ez, hcz, hCz⟩ := own_C HOW8.out
    injection ez with ez1 ez2 ez3
    subst ez1; subst ez3
    have g9 := HG9.out
    rw [gainsTo_eq (r := ⟨⟨xa, xb⟩, ⟨ya, yb⟩⟩)] at g9
    obtain ⟨e2, l2, C2⟩ := Kd.R_reads' g9
    obtain ⟨e3, l3, C3⟩ := Kd.R_reads' HC9.out
    obtain ⟨e4, l4, C4⟩ := Kd.R_reads' HD9.out
    refine bodyPost_ret (results_cell_tmp rfl _ _ (w.heap.size + 1 + 1 + 1) 64 #[.int .i64 (xb - xa), .int .i64 kerf, .int .i64 1, .slice As (widthsOf ps (yb - ya)).length cs, .slice A2 n2 c2, .slice A3 n3 c3, .slice A4 n4 c4] (0, 0) _ rfl HZ8.out Tryd.underlying64 rfl (by kernel_rfl)) rfl ⟨Or.inr ⟨HE.out, #[.int .i64 (xb - xa), .int .i64 kerf, .int .i64 1, .slice As (widthsOf ps (yb - ya)).length cs, .slice A2 n2 c2, .slice A3 n3 c3, .slice A4 n4 c4], rfl, As, cs, A2, c2, A3, c3, A4, c4, ?_, ⟨hcz, e2 ▸ l2, e3 ▸ l3, e4 ▸ l4⟩, fun W hf => ⟨own_C_fr HOW8.out hf, (Kd.R_reads' (R_fr g9 hf)).2.2, (Kd.R_reads' (R_fr HC9.out hf)).2.2, (Kd.R_reads' (R_fr HD9.out hf)).2.2⟩⟩, HB8.out⟩
    rw [e2, e3, e4]
    rfl
  · have HR3 := Aside0.mk (blk_below hr.out hS2)
    have HS3 := Aside0.mk (blk_below hs.out hS2)
    have HT3 := Aside0.mk (blk_below ht.out hS2)
    have HZ3 := Aside0.mk (blk_below hz.out hS2)
    have HB3 := Aside0.mk (below_then HB.out HB.out.size hS2)
    have hgz := blk_lt hz.out
    clear hS2 KP hr hs ht hz HB hr0 hr1 hr2 hr3 hs0 hs1 hs2 hs3 ht0 ht1 ht2 hk0 hkf0 hk1 hkf1 hk2 hkf2 hk3 hkf3 hk4 hkf4 hk5 hkf5 hk6 hkf6 hk7 hkf7 hk8 hkf8 hk9 hkf9 hk10 hkf10 hk11 hkf11 hk12 hkf12 hk13 hkf13
    generalize w1.heap.size = gx at *
    have HX := HX2
    clear HX2
    have HB3_ := Aside0.mk (below_set (j := 13) (v := .int .i64 (solLen l)) (below_set (j := 12) (v := .int .i64 fine) (below_set (j := 11) (v := .int .i64 dust) (below_set (j := 10) (v := .int .i64 chip) (below_set (j := 9) (v := .int .i64 step) (below_set (j := 8) (v := .int .i64 pitch) (below_set (j := 7) (v := .int .i64 trim) (below_set (j := 6) (v := .int .i64 kerf) (below_set (j := 5) (v := .int .i64 yb) (below_set (j := 4) (v := .int .i64 ya) (below_set (j := 3) (v := .int .i64 xb) (below_set (j := 2) (v := .int .i64 xa) (below_set (j := 1) (v := .slice A' d.length c') (below_set (j := 0) (v := .slice A l.length c) HB3.out (show w.heap.size ≤ gx by omega)) (show w.heap.size ≤ gx by omega)) (show w.heap.size ≤ gx by omega)) (show w.heap.size ≤ gx by omega)) (show w.heap.size ≤ gx by omega)) (show w.heap.size ≤ gx by omega)) (show w.heap.size ≤ gx by omega)) (show w.heap.size ≤ gx by omega)) (show w.heap.size ≤ gx by omega)) (show w.heap.size ≤ gx by omega)) (show w.heap.size ≤ gx by omega)) (show w.heap.size ≤ gx by omega)) (show w.heap.size ≤ gx by omega)) (show w.heap.size ≤ gx by omega))
    have HX_ := Aside0.mk (blk_put (cs' := #[.slice A l.length c, .slice A' d.length c', .int .i64 xa, .int .i64 xb, .int .i64 ya, .int .i64 yb, .int .i64 kerf, .int .i64 trim, .int .i64 pitch, .int .i64 step, .int .i64 chip, .int .i64 dust, .int .i64 fine, .int .i64 (solLen l)]) (blk_put (cs' := #[.slice A l.length c, .slice A' d.length c', .int .i64 xa, .int .i64 xb, .int .i64 ya, .int .i64 yb, .int .i64 kerf, .int .i64 trim, .int .i64 pitch, .int .i64 step, .int .i64 chip, .int .i64 dust, .int .i64 fine, .int .i64 0]) (blk_put (cs' := #[.slice A l.length c, .slice A' d.length c', .int .i64 xa, .int .i64 xb, .int .i64 ya, .int .i64 yb, .int .i64 kerf, .int .i64 trim, .int .i64 pitch, .int .i64 step, .int .i64 chip, .int .i64 dust, .int .i64 0, .int .i64 0]) (blk_put (cs' := #[.slice A l.length c, .slice A' d.length c', .int .i64 xa, .int .i64 xb, .int .i64 ya, .int .i64 yb, .int .i64 kerf, .int .i64 trim, .int .i64 pitch, .int .i64 step, .int .i64 chip, .int .i64 0, .int .i64 0, .int .i64 0]) (blk_put (cs' := #[.slice A l.length c, .slice A' d.length c', .int .i64 xa, .int .i64 xb, .int .i64 ya, .int .i64 yb, .int .i64 kerf, .int .i64 trim, .int .i64 pitch, .int .i64 step, .int .i64 0, .int .i64 0, .int .i64 0, .int .i64 0]) (blk_put (cs' := #[.slice A l.length c, .slice A' d.length c', .int .i64 xa, .int .i64 xb, .int .i64 ya, .int .i64 yb, .int .i64 kerf, .int .i64 trim, .int .i64 pitch, .int .i64 0, .int .i64 0, .int .i64 0, .int .i64 0, .int .i64 0]) (blk_put (cs' := #[.slice A l.length c, .slice A' d.length c', .int .i64 xa, .int .i64 xb, .int .i64 ya, .int .i64 yb, .int .i64 kerf, .int .i64 trim, .int .i64 0, .int .i64 0, .int .i64 0, .int .i64 0, .int .i64 0, .int .i64 0]) (blk_put (cs' := #[.slice A l.length c, .slice A' d.length c', .int .i64 xa, .int .i64 xb, .int .i64 ya, .int .i64 yb, .int .i64 kerf, .int .i64 0, .int .i64 0, .int .i64 0, .int .i64 0, .int .i64 0, .int .i64 0, .int .i64 0]) (blk_put (cs' := #[.slice A l.length c, .slice A' d.length c', .int .i64 xa, .int .i64 xb, .int .i64 ya, .int .i64 yb, .int .i64 0, .int .i64 0, .int .i64 0, .int .i64 0, .int .i64 0, .int .i64 0, .int .i64 0, .int .i64 0]) (blk_put (cs' := #[.slice A l.length c, .slice A' d.length c', .int .i64 xa, .int .i64 xb, .int .i64 ya, .int .i64 0, .int .i64 0, .int .i64 0, .int .i64 0, .int .i64 0, .int .i64 0, .int .i64 0, .int .i64 0, .int .i64 0]) (blk_put (cs' := #[.slice A l.length c, .slice A' d.length c', .int .i64 xa, .int .i64 xb, .int .i64 0, .int .i64 0, .int .i64 0, .int .i64 0, .int .i64 0, .int .i64 0, .int .i64 0, .int .i64 0, .int .i64 0, .int .i64 0]) (blk_put (cs' := #[.slice A l.length c, .slice A' d.length c', .int .i64 xa, .int .i64 0, .int .i64 0, .int .i64 0, .int .i64 0, .int .i64 0, .int .i64 0, .int .i64 0, .int .i64 0, .int .i64 0, .int .i64 0, .int .i64 0]) (blk_put (cs' := #[.slice A l.length c, .slice A' d.length c', .int .i64 0, .int .i64 0, .int .i64 0, .int .i64 0, .int .i64 0, .int .i64 0, .int .i64 0, .int .i64 0, .int .i64 0, .int .i64 0, .int .i64 0, .int .i64 0]) (blk_put (cs' := #[.slice A l.length c, .slice none 0 0, .int .i64 0, .int .i64 0, .int .i64 0, .int .i64 0, .int .i64 0, .int .i64 0, .int .i64 0, .int .i64 0, .int .i64 0, .int .i64 0, .int .i64 0, .int .i64 0]) HX.out 0 (.slice A l.length c) rfl) 1 (.slice A' d.length c') rfl) 2 (.int .i64 xa) rfl) 3 (.int .i64 xb) rfl) 4 (.int .i64 ya) rfl) 5 (.int .i64 yb) rfl) 6 (.int .i64 kerf) rfl) 7 (.int .i64 trim) rfl) 8 (.int .i64 pitch) rfl) 9 (.int .i64 step) rfl) 10 (.int .i64 chip) rfl) 11 (.int .i64 dust) rfl) 12 (.int .i64 fine) rfl) 13 (.int .i64 (solLen l)) rfl)
    have HR3_ := Aside0.mk (blk_far (p := ⟨gx, 13, none⟩) (blk_far (p := ⟨gx, 12, none⟩) (blk_far (p := ⟨gx, 11, none⟩) (blk_far (p := ⟨gx, 10, none⟩) (blk_far (p := ⟨gx, 9, none⟩) (blk_far (p := ⟨gx, 8, none⟩) (blk_far (p := ⟨gx, 7, none⟩) (blk_far (p := ⟨gx, 6, none⟩) (blk_far (p := ⟨gx, 5, none⟩) (blk_far (p := ⟨gx, 4, none⟩) (blk_far (p := ⟨gx, 3, none⟩) (blk_far (p := ⟨gx, 2, none⟩) (blk_far (p := ⟨gx, 1, none⟩) (blk_far (p := ⟨gx, 0, none⟩) HR3.out (show w.heap.size ≠ gx by omega) (.slice A l.length c)) (show w.heap.size ≠ gx by omega) (.slice A' d.length c')) (show w.heap.size ≠ gx by omega) (.int .i64 xa)) (show w.heap.size ≠ gx by omega) (.int .i64 xb)) (show w.heap.size ≠ gx by omega) (.int .i64 ya)) (show w.heap.size ≠ gx by omega) (.int .i64 yb)) (show w.heap.size ≠ gx by omega) (.int .i64 kerf)) (show w.heap.size ≠ gx by omega) (.int .i64 trim)) (show w.heap.size ≠ gx by omega) (.int .i64 pitch)) (show w.heap.size ≠ gx by omega) (.int .i64 step)) (show w.heap.size ≠ gx by omega) (.int .i64 chip)) (show w.heap.size ≠ gx by omega) (.int .i64 dust)) (show w.heap.size ≠ gx by omega) (.int .i64 fine)) (show w.heap.size ≠ gx by omega) (.int .i64 (solLen l)))
    have HS3_ := Aside0.mk (blk_far (p := ⟨gx, 13, none⟩) (blk_far (p := ⟨gx, 12, none⟩) (blk_far (p := ⟨gx, 11, none⟩) (blk_far (p := ⟨gx, 10, none⟩) (blk_far (p := ⟨gx, 9, none⟩) (blk_far (p := ⟨gx, 8, none⟩) (blk_far (p := ⟨gx, 7, none⟩) (blk_far (p := ⟨gx, 6, none⟩) (blk_far (p := ⟨gx, 5, none⟩) (blk_far (p := ⟨gx, 4, none⟩) (blk_far (p := ⟨gx, 3, none⟩) (blk_far (p := ⟨gx, 2, none⟩) (blk_far (p := ⟨gx, 1, none⟩) (blk_far (p := ⟨gx, 0, none⟩) HS3.out (show w.heap.size + 1 ≠ gx by omega) (.slice A l.length c)) (show w.heap.size + 1 ≠ gx by omega) (.slice A' d.length c')) (show w.heap.size + 1 ≠ gx by omega) (.int .i64 xa)) (show w.heap.size + 1 ≠ gx by omega) (.int .i64 xb)) (show w.heap.size + 1 ≠ gx by omega) (.int .i64 ya)) (show w.heap.size + 1 ≠ gx by omega) (.int .i64 yb)) (show w.heap.size + 1 ≠ gx by omega) (.int .i64 kerf)) (show w.heap.size + 1 ≠ gx by omega) (.int .i64 trim)) (show w.heap.size + 1 ≠ gx by omega) (.int .i64 pitch)) (show w.heap.size + 1 ≠ gx by omega) (.int .i64 step)) (show w.heap.size + 1 ≠ gx by omega) (.int .i64 chip)) (show w.heap.size + 1 ≠ gx by omega) (.int .i64 dust)) (show w.heap.size + 1 ≠ gx by omega) (.int .i64 fine)) (show w.heap.size + 1 ≠ gx by omega) (.int .i64 (solLen l)))
    have HT3_ := Aside0.mk (blk_far (p := ⟨gx, 13, none⟩) (blk_far (p := ⟨gx, 12, none⟩) (blk_far (p := ⟨gx, 11, none⟩) (blk_far (p := ⟨gx, 10, none⟩) (blk_far (p := ⟨gx, 9, none⟩) (blk_far (p := ⟨gx, 8, none⟩) (blk_far (p := ⟨gx, 7, none⟩) (blk_far (p := ⟨gx, 6, none⟩) (blk_far (p := ⟨gx, 5, none⟩) (blk_far (p := ⟨gx, 4, none⟩) (blk_far (p := ⟨gx, 3, none⟩) (blk_far (p := ⟨gx, 2, none⟩) (blk_far (p := ⟨gx, 1, none⟩) (blk_far (p := ⟨gx, 0, none⟩) HT3.out (show w.heap.size + 1 + 1 ≠ gx by omega) (.slice A l.length c)) (show w.heap.size + 1 + 1 ≠ gx by omega) (.slice A' d.length c')) (show w.heap.size + 1 + 1 ≠ gx by omega) (.int .i64 xa)) (show w.heap.size + 1 + 1 ≠ gx by omega) (.int .i64 xb)) (show w.heap.size + 1 + 1 ≠ gx by omega) (.int .i64 ya)) (show w.heap.size + 1 + 1 ≠ gx by omega) (.int .i64 yb)) (show w.heap.size + 1 + 1 ≠ gx by omega) (.int .i64 kerf)) (show w.heap.size + 1 + 1 ≠ gx by omega) (.int .i64 trim)) (show w.heap.size + 1 + 1 ≠ gx by omega) (.int .i64 pitch)) (show w.heap.size + 1 + 1 ≠ gx by omega) (.int .i64 step)) (show w.heap.size + 1 + 1 ≠ gx by omega) (.int .i64 chip)) (show w.heap.size + 1 + 1 ≠ gx by omega) (.int .i64 dust)) (show w.heap.size + 1 + 1 ≠ gx by omega) (.int .i64 fine)) (show w.heap.size + 1 + 1 ≠ gx by omega) (.int .i64 (solLen l)))
    have HZ3_ := Aside0.mk (blk_far (p := ⟨gx, 13, none⟩) (blk_far (p := ⟨gx, 12, none⟩) (blk_far (p := ⟨gx, 11, none⟩) (blk_far (p := ⟨gx, 10, none⟩) (blk_far (p := ⟨gx, 9, none⟩) (blk_far (p := ⟨gx, 8, none⟩) (blk_far (p := ⟨gx, 7, none⟩) (blk_far (p := ⟨gx, 6, none⟩) (blk_far (p := ⟨gx, 5, none⟩) (blk_far (p := ⟨gx, 4, none⟩) (blk_far (p := ⟨gx, 3, none⟩) (blk_far (p := ⟨gx, 2, none⟩) (blk_far (p := ⟨gx, 1, none⟩) (blk_far (p := ⟨gx, 0, none⟩) HZ3.out (show w.heap.size + 1 + 1 + 1 ≠ gx by omega) (.slice A l.length c)) (show w.heap.size + 1 + 1 + 1 ≠ gx by omega) (.slice A' d.length c')) (show w.heap.size + 1 + 1 + 1 ≠ gx by omega) (.int .i64 xa)) (show w.heap.size + 1 + 1 + 1 ≠ gx by omega) (.int .i64 xb)) (show w.heap.size + 1 + 1 + 1 ≠ gx by omega) (.int .i64 ya)) (show w.heap.size + 1 + 1 + 1 ≠ gx by omega) (.int .i64 yb)) (show w.heap.size + 1 + 1 + 1 ≠ gx by omega) (.int .i64 kerf)) (show w.heap.size + 1 + 1 + 1 ≠ gx by omega) (.int .i64 trim)) (show w.heap.size + 1 + 1 + 1 ≠ gx by omega) (.int .i64 pitch)) (show w.heap.size + 1 + 1 + 1 ≠ gx by omega) (.int .i64 step)) (show w.heap.size + 1 + 1 + 1 ≠ gx by omega) (.int .i64 chip)) (show w.heap.size + 1 + 1 + 1 ≠ gx by omega) (.int .i64 dust)) (show w.heap.size + 1 + 1 + 1 ≠ gx by omega) (.int .i64 fine)) (show w.heap.size + 1 + 1 + 1 ≠ gx by omega) (.int .i64 (solLen l)))
    generalize ((((((((((((((w2).setCell ⟨gx, 0, none⟩ (.slice A l.length c)).setCell ⟨gx, 1, none⟩ (.slice A' d.length c')).setCell ⟨gx, 2, none⟩ (.int .i64 xa)).setCell ⟨gx, 3, none⟩ (.int .i64 xb)).setCell ⟨gx, 4, none⟩ (.int .i64 ya)).setCell ⟨gx, 5, none⟩ (.int .i64 yb)).setCell ⟨gx, 6, none⟩ (.int .i64 kerf)).setCell ⟨gx, 7, none⟩ (.int .i64 trim)).setCell ⟨gx, 8, none⟩ (.int .i64 pitch)).setCell ⟨gx, 9, none⟩ (.int .i64 step)).setCell ⟨gx, 10, none⟩ (.int .i64 chip)).setCell ⟨gx, 11, none⟩ (.int .i64 dust)).setCell ⟨gx, 12, none⟩ (.int .i64 fine)).setCell ⟨gx, 13, none⟩ (.int .i64 (solLen l)) = W3 at *
    clear HB3
    have HB3 := HB3_
    clear HB3_
    clear HX
    have HX := HX_
    clear HX_
    clear HR3
    have HR3 := HR3_
    clear HR3_
    clear HS3
    have HS3 := HS3_
    clear HS3_
    clear HT3
    have HT3 := HT3_
    clear HT3_
    clear HZ3
    have HZ3 := HZ3_
    clear HZ3_
    have hr0 : W3.cell? ⟨w.heap.size, 0, none⟩ = some (.int .i64 xa) := (blk_cell HR3.out 0).trans rfl
    have hr1 : W3.cell? ⟨w.heap.size, 1, none⟩ = some (.int .i64 xb) := (blk_cell HR3.out 1).trans rfl
    have hr2 : W3.cell? ⟨w.heap.size, 2, none⟩ = some (.int .i64 ya) := (blk_cell HR3.out 2).trans rfl
    have hr3 : W3.cell? ⟨w.heap.size, 3, none⟩ = some (.int .i64 yb) := (blk_cell HR3.out 3).trans rfl
    have hs0 : W3.cell? ⟨w.heap.size + 1, 0, none⟩ = some (.int .i64 kerf) := (blk_cell HS3.out 0).trans rfl
    have hgxW := blk_lt HX.out
    have hgwW := HB3.out.size
    have hgrW := blk_lt HR3.out
    have hgsW := blk_lt HS3.out
    go_upto_region 7 with (fail)
    have HO4 := Aside0.mk (blk_new W3 (.cells #[.int .i64 (xb - xa), .int .i64 kerf, .int .i64 1, .slice none 0 0, .slice none 0 0, .slice none 0 0, .slice none 0 0] 64))
    have HX4 := Aside0.mk (blk_alloc HX.out (.cells #[.int .i64 (xb - xa), .int .i64 kerf, .int .i64 1, .slice none 0 0, .slice none 0 0, .slice none 0 0, .slice none 0 0] 64))
    have HR4 := Aside0.mk (blk_alloc HR3.out (.cells #[.int .i64 (xb - xa), .int .i64 kerf, .int .i64 1, .slice none 0 0, .slice none 0 0, .slice none 0 0, .slice none 0 0] 64))
    have HT4 := Aside0.mk (blk_alloc HT3.out (.cells #[.int .i64 (xb - xa), .int .i64 kerf, .int .i64 1, .slice none 0 0, .slice none 0 0, .slice none 0 0, .slice none 0 0] 64))
    have HZ4 := Aside0.mk (blk_alloc HZ3.out (.cells #[.int .i64 (xb - xa), .int .i64 kerf, .int .i64 1, .slice none 0 0, .slice none 0 0, .slice none 0 0, .slice none 0 0] 64))
    have HB4 := Aside0.mk (below_alloc HB3.out (.cells #[.int .i64 (xb - xa), .int .i64 kerf, .int .i64 1, .slice none 0 0, .slice none 0 0, .slice none 0 0, .slice none 0 0] 64))
    have hgt : w.heap.size + 1 + 1 ≠ W3.heap.size := by omega
    have hgz2 : w.heap.size + 1 + 1 + 1 ≠ W3.heap.size := by omega
    have hgx : gx ≠ W3.heap.size := by omega
    clear HX HR3 HS3 HT3 HZ3 HB3 hr0 hr1 hr2 hr3 hs0
    generalize W3.alloc (.cells #[.int .i64 (xb - xa), .int .i64 kerf, .int .i64 1, .slice none 0 0, .slice none 0 0, .slice none 0 0, .slice none 0 0] 64) = W4 at *
    generalize W3.heap.size = go at *
    have hr0 : W4.cell? ⟨w.heap.size, 0, none⟩ = some (.int .i64 xa) := (blk_cell HR4.out 0).trans rfl
    have hr1 : W4.cell? ⟨w.heap.size, 1, none⟩ = some (.int .i64 xb) := (blk_cell HR4.out 1).trans rfl
    have hr2 : W4.cell? ⟨w.heap.size, 2, none⟩ = some (.int .i64 ya) := (blk_cell HR4.out 2).trans rfl
    have hr3 : W4.cell? ⟨w.heap.size, 3, none⟩ = some (.int .i64 yb) := (blk_cell HR4.out 3).trans rfl
    go_wp2_with fail
    refine (sizes_calls _ _ ps _ _ HN.out (Kd.C_below HP.out HB4.out) HC.out).mono ?_
    rintro e w5 ⟨⟨v, v', rfl, ho1, ho2⟩, hb5⟩
    obtain ⟨As, ns, cs, rfl⟩ : ∃ A n c, v = .slice A n c := by
      obtain ⟨A, c, e, _⟩ := own_C ho1
      exact ⟨A, _, c, e⟩
    obtain ⟨Ap, np, cp, rfl⟩ : ∃ A n c, v' = .slice A n c := by
      obtain ⟨A, c, e, _⟩ := own_C ho2
      exact ⟨A, _, c, e⟩
    have HO5 := Aside0.mk (blk_below HO4.out hb5)
    have HX5 := Aside0.mk (blk_below HX4.out hb5)
    have HT5 := Aside0.mk (blk_below HT4.out hb5)
    have HZ5 := Aside0.mk (blk_below HZ4.out hb5)
    have HB5 := Aside0.mk (below_then HB4.out HB4.out.size hb5)
    have f1 := foot_own (OwnRow.lower ho1 HB4.out.size) HO5.out (by decide)
    have f2 := foot_own (OwnRow.lower ho2 HB4.out.size) HO5.out (by decide)
    have HOW := Aside0.mk (OwnRow.lower ho1 HB4.out.size)
    obtain ⟨rfl, hcs, f1⟩ := f1
    obtain ⟨rfl, hcp, f2⟩ := f2
    have F1 := Aside0.mk f1
    have F2 := Aside0.mk f2
    have hgo5 := blk_lt HO5.out
    have HWE := Aside0.mk (show widthsOf ps (yb - ya) = widthsTo ps (yb - ya) ps.length from if_pos K3.out)
    have HPE := Aside0.mk (show prodsOf ps (yb - ya) = prodsTo ps (yb - ya) ps.length from if_pos K3.out)
    have hsl : (widthsOf ps (yb - ya)).length ≤ 16 := by rw [HWE.out]; have := widthsTo_len ps (yb - ya) ps.length; have := catCheck_len K3.out; omega
    have HSL := Aside0.mk (show (widthsOf ps (yb - ya)).length = (prodsOf ps (yb - ya)).length by rw [HWE.out, HPE.out, prodsTo_len])
    have HSZ : Aside0 (∀ i : Nat, i < (widthsOf ps (yb - ya)).length → 0 ≤ rdI (widthsOf ps (yb - ya)) i ∧ rdI (widthsOf ps (yb - ya)) i ≤ 2000) := ⟨fun i hi => by rw [HWE.out] at hi ⊢; exact widthsTo_bound _ _ _ _ (rdI_mem hi)⟩
    have HPZ : Aside0 (∀ i : Nat, i < (prodsOf ps (yb - ya)).length → 0 ≤ rdI (prodsOf ps (yb - ya)) i ∧ rdI (prodsOf ps (yb - ya)) i < ps.length) := ⟨fun i hi => by rw [HPE.out] at hi ⊢; exact prodsTo_bound _ _ _ _ (rdI_mem hi)⟩
    clear ho1 ho2 hb5 f1 f2 HO4 HX4 HR4 HT4 HZ4 HB4 hr0 hr1 hr2 hr3 HWE HPE
    have ho3 : w5.cell? ⟨go, 3, none⟩ = some (.slice none 0 0) := (blk_cell HO5.out 3).trans rfl
    have hof3 : w5.frozen? ⟨go, 3, none⟩ = false := blk_frozen HO5.out 3
    go_upto_region 8 with (fail)
    clear ho3 hof3
    have HK5 := Aside0.mk ((KeepBut.refl w5 go none).set_ 3 (.slice As (widthsOf ps (yb - ya)).length cs))
    have HOb := Aside0.mk HO5.out
    have HB5_ := Aside0.mk (below_set (j := 3) (v := .slice As (widthsOf ps (yb - ya)).length cs) HB5.out (show w.heap.size ≤ go by omega))
    have HO5_ := Aside0.mk (blk_put (cs' := #[.int .i64 (xb - xa), .int .i64 kerf, .int .i64 1, .slice As (widthsOf ps (yb - ya)).length cs, .slice none 0 0, .slice none 0 0, .slice none 0 0]) HO5.out 3 (.slice As (widthsOf ps (yb - ya)).length cs) rfl)
    have HX5_ := Aside0.mk (blk_far (p := ⟨go, 3, none⟩) HX5.out (show gx ≠ go by omega) (.slice As (widthsOf ps (yb - ya)).length cs))
    have HT5_ := Aside0.mk (blk_far (p := ⟨go, 3, none⟩) HT5.out (show w.heap.size + 1 + 1 ≠ go by omega) (.slice As (widthsOf ps (yb - ya)).length cs))
    have HZ5_ := Aside0.mk (blk_far (p := ⟨go, 3, none⟩) HZ5.out (show w.heap.size + 1 + 1 + 1 ≠ go by omega) (.slice As (widthsOf ps (yb - ya)).length cs))
    generalize (w5).setCell ⟨go, 3, none⟩ (.slice As (widthsOf ps (yb - ya)).length cs) = W6 at *
    clear HB5
    have HB5 := HB5_
    clear HB5_
    clear HO5
    have HO5 := HO5_
    clear HO5_
    clear HX5
    have HX5 := HX5_
    clear HX5_
    clear HT5
    have HT5 := HT5_
    clear HT5_
    clear HZ5
    have HZ5 := HZ5_
    clear HZ5_
    have hgo6 := blk_lt HO5.out
    have hzz6 := blk_lt HZ5.out
    have ho3 : W6.cell? ⟨go, 3, none⟩ = some (.slice As (widthsOf ps (yb - ya)).length cs) := (blk_cell HO5.out 3).trans rfl
    go_wp2_with fail
    clear ho3
    refine gains_loop A c l A' c' d Aq cq ps Ap cp (prodsOf ps (yb - ya)) As cs (widthsOf ps (yb - ya)) xa xb ya yb kerf trim pitch step chip dust fine (xb - xa) kerf gx go (by omega) (by omega) s3 s4 s5 t1 t2 t3 t4 (by omega) (by omega) HSL HSZ HPZ hsl w W6 (by omega) hgx hgo6 HL HD HP HN HB5 HX5 HO5 ⟨fun W' hk => F2.out W' (HK5.out.trans hk (.inl rfl))⟩ ⟨fun W' hk => F1.out W' (HK5.out.trans hk (.inl rfl))⟩ _ _ _ _ _ _ _ _ _ _ _ _ _ _ _ _ _ _ _ _ _ _ _ _ _ _ _ _ _ _ _ _ _ _ _ _ _ _ _ _ _ _ _ _ _ _ _ _ _ _ _ _ _ _ _ _ _ _ _ _ _ _ _ _ _ _ _ _ _ _ _ _ _ _ _ _ _ _ _ _ _ _ _ _ _ _ _ _ _ _ _ _ _ _ _ _ _ _ _ _ _ _ _ _ _ _ _ _ _ _ _ _ _ _ _ _ _ _ _ _ _ _ _ _ _ _ _ _ _ _ _ _ _ _ _ _ _ _ ?_
    intro y18 y19 y20 y21 y69 y70 y71 y72 y73 y74 y75 y76 y77 y78 y79 y80 y81 y82 y83 y84 y85 y86 y87 y88 y89 y90 y91 y92 y93 y94 y95 y96 y97 y98 y99 y100 y101 y102 y103 y104 y105 y106 y107 vg w7 hk7 hb7 ho7 hg7
    obtain ⟨A2, n2, c2, rfl⟩ : ∃ A n c, vg = .slice A n c := by
      obtain ⟨A, c, e⟩ := Kd.R_slice hg7
      exact ⟨A, _, c, e⟩
    have HX7 := Aside0.mk (KeepBut.blk hk7 HX5.out hgx (by simp))
    have HT7 := Aside0.mk (KeepBut.blk hk7 HT5.out hgt (by simp))
    have HZ7 := Aside0.mk (KeepBut.blk hk7 HZ5.out hgz2 (by simp))
    have HO7 := Aside0.mk ho7
    have HB7 := Aside0.mk hb7
    have HG7 := Aside0.mk hg7
    have HK7 := Aside0.mk hk7
    have hgo7 := blk_lt HO7.out
    have hsz67 := hk7.1
    clear hk7 hb7 ho7 hg7 HX5 HT5 HZ5 HO5 HB5
    have ho0 : w7.cell? ⟨go, 0, none⟩ = some (.int .i64 (xb - xa)) := (blk_cell HO7.out 0).trans rfl
    go_wp2_with fail
    clear ho0
    refine chips_loop A c l A' d.length c' xa xb ya yb kerf trim pitch step chip dust fine (xb - xa) kerf (.slice As (widthsOf ps (yb - ya)).length cs) (.slice A2 n2 c2) (w.heap.size + 1 + 1) gx go (by omega) (by omega) t1 t2 t3 t4 (by omega) (by omega) w w7 (by omega) hgx hgt hgo7 HL HB7 HX7 HT7 HO7 _ _ _ _ _ _ _ _ _ _ _ _ _ _ _ _ _ _ _ _ _ _ _ _ _ _ _ _ _ _ _ _ _ _ _ _ _ _ _ _ _ _ _ _ _ _ _ _ _ _ _ _ _ _ _ _ _ _ _ _ _ _ _ _ _ _ _ _ _ _ _ _ _ _ _ _ _ _ _ _ _ _ _ _ _ _ _ _ _ _ _ _ _ _ _ _ _ _ _ _ _ _ _ _ _ _ _ _ _ _ _ _ _ _ _ _ _ _ _ _ _ _ _ _ _ _ _ _ _ _ _ _ _ _ _ _ _ _ _ _ ?_
    intro y22 y23 y110 y111 y112 y113 y114 y115 y116 y117 y118 y119 y120 y121 y122 y123 y124 y125 y126 y127 y128 y129 y130 y131 y132 y133 y134 y135 y136 y137 y138 y139 y140 y141 y142 vc vd w8 hk8 hb8 ho8 hc8 hd8
    obtain ⟨A3, n3, c3, rfl⟩ : ∃ A n c, vc = .slice A n c := by
      obtain ⟨A, c, e⟩ := Kd.R_slice hc8
      exact ⟨A, _, c, e⟩
    obtain ⟨A4, n4, c4, rfl⟩ : ∃ A n c, vd = .slice A n c := by
      obtain ⟨A, c, e⟩ := Kd.R_slice hd8
      exact ⟨A, _, c, e⟩
    have HZ8 := Aside0.mk (KeepBut.blk hk8 HZ7.out hgz2 (by simp))
    have HG8 := Aside0.mk (Kd.R_keep HG7.out hk8 (fun q hq => by omega))
    have HOW8 := Aside0.mk (OwnRow.keep HOW.out HOb.out (by decide) ((HK5.out.trans HK7.out (.inl rfl)).trans hk8 (.inl rfl)))
    have HO8 := Aside0.mk ho8
    have HB8 := Aside0.mk hb8
    have HC8 := Aside0.mk hc8
    have HD8 := Aside0.mk hd8
    clear hk8 hb8 ho8 hc8 hd8 HZ7 HG7 HOW HOb HK5 HK7 HX7 HT7 HO7 HB7 F1 F2
    have ho0 : w8.cell? ⟨go, 0, none⟩ = some (.int .i64 (xb - xa)) := (blk_cell HO8.out 0).trans rfl
    have ho1 : w8.cell? ⟨go, 1, none⟩ = some (.int .i64 kerf) := (blk_cell HO8.out 1).trans rfl
    have ho2 : w8.cell? ⟨go, 2, none⟩ = some (.int .i64 1) := (blk_cell HO8.out 2).trans rfl
    have ho3 : w8.cell? ⟨go, 3, none⟩ = some (.slice As (widthsOf ps (yb - ya)).length cs) := (blk_cell HO8.out 3).trans rfl
    have ho4 : w8.cell? ⟨go, 4, none⟩ = some (.slice A2 n2 c2) := (blk_cell HO8.out 4).trans rfl
    have ho5 : w8.cell? ⟨go, 5, none⟩ = some (.slice A3 n3 c3) := (blk_cell HO8.out 5).trans rfl
    have ho6 : w8.cell? ⟨go, 6, none⟩ = some (.slice A4 n4 c4) := (blk_cell HO8.out 6).trans rfl
    have hz0 : w8.cell? ⟨w.heap.size + 1 + 1 + 1, 0, none⟩ = some (.int .i64 0) := (blk_cell HZ8.out 0).trans rfl
    have hzf0 : w8.frozen? ⟨w.heap.size + 1 + 1 + 1, 0, none⟩ = false := blk_frozen HZ8.out 0
    have hz1 : w8.cell? ⟨w.heap.size + 1 + 1 + 1, 1, none⟩ = some (.int .i64 0) := (blk_cell HZ8.out 1).trans rfl
    have hzf1 : w8.frozen? ⟨w.heap.size + 1 + 1 + 1, 1, none⟩ = false := blk_frozen HZ8.out 1
    have hz2 : w8.cell? ⟨w.heap.size + 1 + 1 + 1, 2, none⟩ = some (.int .i64 0) := (blk_cell HZ8.out 2).trans rfl
    have hzf2 : w8.frozen? ⟨w.heap.size + 1 + 1 + 1, 2, none⟩ = false := blk_frozen HZ8.out 2
    have hz3 : w8.cell? ⟨w.heap.size + 1 + 1 + 1, 3, none⟩ = some (.slice none 0 0) := (blk_cell HZ8.out 3).trans rfl
    have hzf3 : w8.frozen? ⟨w.heap.size + 1 + 1 + 1, 3, none⟩ = false := blk_frozen HZ8.out 3
    have hz4 : w8.cell? ⟨w.heap.size + 1 + 1 + 1, 4, none⟩ = some (.slice none 0 0) := (blk_cell HZ8.out 4).trans rfl
    have hzf4 : w8.frozen? ⟨w.heap.size + 1 + 1 + 1, 4, none⟩ = false := blk_frozen HZ8.out 4
    have hz5 : w8.cell? ⟨w.heap.size + 1 + 1 + 1, 5, none⟩ = some (.slice none 0 0) := (blk_cell HZ8.out 5).trans rfl
    have hzf5 : w8.frozen? ⟨w.heap.size + 1 + 1 + 1, 5, none⟩ = false := blk_frozen HZ8.out 5
    have hz6 : w8.cell? ⟨w.heap.size + 1 + 1 + 1, 6, none⟩ = some (.slice none 0 0) := (blk_cell HZ8.out 6).trans rfl
    have hzf6 : w8.frozen? ⟨w.heap.size + 1 + 1 + 1, 6, none⟩ = false := blk_frozen HZ8.out 6
    go_wp2_with fail
    clear hz0 hzf0 hz1 hzf1 hz2 hzf2 hz3 hzf3 hz4 hzf4 hz5 hzf5 hz6 hzf6 ho0 ho1 ho2 ho3 ho4 ho5 ho6
    have HG9 := Aside0.mk ((Kd.R_far (p := ⟨w.heap.size + 1 + 1 + 1, 6, none⟩) (Kd.R_far (p := ⟨w.heap.size + 1 + 1 + 1, 5, none⟩) (Kd.R_far (p := ⟨w.heap.size + 1 + 1 + 1, 4, none⟩) (Kd.R_far (p := ⟨w.heap.size + 1 + 1 + 1, 3, none⟩) (Kd.R_far (p := ⟨w.heap.size + 1 + 1 + 1, 2, none⟩) (Kd.R_far (p := ⟨w.heap.size + 1 + 1 + 1, 1, none⟩) (Kd.R_far (p := ⟨w.heap.size + 1 + 1 + 1, 0, none⟩) HG8.out (fun q hq => by show q ≠ w.heap.size + 1 + 1 + 1; omega) (.int .i64 (xb - xa))) (fun q hq => by show q ≠ w.heap.size + 1 + 1 + 1; omega) (.int .i64 kerf)) (fun q hq => by show q ≠ w.heap.size + 1 + 1 + 1; omega) (.int .i64 1)) (fun q hq => by show q ≠ w.heap.size + 1 + 1 + 1; omega) (.slice As (widthsOf ps (yb - ya)).length cs)) (fun q hq => by show q ≠ w.heap.size + 1 + 1 + 1; omega) (.slice A2 n2 c2)) (fun q hq => by show q ≠ w.heap.size + 1 + 1 + 1; omega) (.slice A3 n3 c3)) (fun q hq => by show q ≠ w.heap.size + 1 + 1 + 1; omega) (.slice A4 n4 c4)))
    have HC9 := Aside0.mk ((Kd.R_far (p := ⟨w.heap.size + 1 + 1 + 1, 6, none⟩) (Kd.R_far (p := ⟨w.heap.size + 1 + 1 + 1, 5, none⟩) (Kd.R_far (p := ⟨w.heap.size + 1 + 1 + 1, 4, none⟩) (Kd.R_far (p := ⟨w.heap.size + 1 + 1 + 1, 3, none⟩) (Kd.R_far (p := ⟨w.heap.size + 1 + 1 + 1, 2, none⟩) (Kd.R_far (p := ⟨w.heap.size + 1 + 1 + 1, 1, none⟩) (Kd.R_far (p := ⟨w.heap.size + 1 + 1 + 1, 0, none⟩) HC8.out (fun q hq => by show q ≠ w.heap.size + 1 + 1 + 1; omega) (.int .i64 (xb - xa))) (fun q hq => by show q ≠ w.heap.size + 1 + 1 + 1; omega) (.int .i64 kerf)) (fun q hq => by show q ≠ w.heap.size + 1 + 1 + 1; omega) (.int .i64 1)) (fun q hq => by show q ≠ w.heap.size + 1 + 1 + 1; omega) (.slice As (widthsOf ps (yb - ya)).length cs)) (fun q hq => by show q ≠ w.heap.size + 1 + 1 + 1; omega) (.slice A2 n2 c2)) (fun q hq => by show q ≠ w.heap.size + 1 + 1 + 1; omega) (.slice A3 n3 c3)) (fun q hq => by show q ≠ w.heap.size + 1 + 1 + 1; omega) (.slice A4 n4 c4)))
    have HD9 := Aside0.mk ((Kd.R_far (p := ⟨w.heap.size + 1 + 1 + 1, 6, none⟩) (Kd.R_far (p := ⟨w.heap.size + 1 + 1 + 1, 5, none⟩) (Kd.R_far (p := ⟨w.heap.size + 1 + 1 + 1, 4, none⟩) (Kd.R_far (p := ⟨w.heap.size + 1 + 1 + 1, 3, none⟩) (Kd.R_far (p := ⟨w.heap.size + 1 + 1 + 1, 2, none⟩) (Kd.R_far (p := ⟨w.heap.size + 1 + 1 + 1, 1, none⟩) (Kd.R_far (p := ⟨w.heap.size + 1 + 1 + 1, 0, none⟩) HD8.out (fun q hq => by show q ≠ w.heap.size + 1 + 1 + 1; omega) (.int .i64 (xb - xa))) (fun q hq => by show q ≠ w.heap.size + 1 + 1 + 1; omega) (.int .i64 kerf)) (fun q hq => by show q ≠ w.heap.size + 1 + 1 + 1; omega) (.int .i64 1)) (fun q hq => by show q ≠ w.heap.size + 1 + 1 + 1; omega) (.slice As (widthsOf ps (yb - ya)).length cs)) (fun q hq => by show q ≠ w.heap.size + 1 + 1 + 1; omega) (.slice A2 n2 c2)) (fun q hq => by show q ≠ w.heap.size + 1 + 1 + 1; omega) (.slice A3 n3 c3)) (fun q hq => by show q ≠ w.heap.size + 1 + 1 + 1; omega) (.slice A4 n4 c4)))
    have HB8_ := Aside0.mk (below_set (j := 6) (v := .slice A4 n4 c4) (below_set (j := 5) (v := .slice A3 n3 c3) (below_set (j := 4) (v := .slice A2 n2 c2) (below_set (j := 3) (v := .slice As (widthsOf ps (yb - ya)).length cs) (below_set (j := 2) (v := .int .i64 1) (below_set (j := 1) (v := .int .i64 kerf) (below_set (j := 0) (v := .int .i64 (xb - xa)) HB8.out (show w.heap.size ≤ w.heap.size + 1 + 1 + 1 by omega)) (show w.heap.size ≤ w.heap.size + 1 + 1 + 1 by omega)) (show w.heap.size ≤ w.heap.size + 1 + 1 + 1 by omega)) (show w.heap.size ≤ w.heap.size + 1 + 1 + 1 by omega)) (show w.heap.size ≤ w.heap.size + 1 + 1 + 1 by omega)) (show w.heap.size ≤ w.heap.size + 1 + 1 + 1 by omega)) (show w.heap.size ≤ w.heap.size + 1 + 1 + 1 by omega))
    have HZ8_ := Aside0.mk (blk_put (cs' := #[.int .i64 (xb - xa), .int .i64 kerf, .int .i64 1, .slice As (widthsOf ps (yb - ya)).length cs, .slice A2 n2 c2, .slice A3 n3 c3, .slice A4 n4 c4]) (blk_put (cs' := #[.int .i64 (xb - xa), .int .i64 kerf, .int .i64 1, .slice As (widthsOf ps (yb - ya)).length cs, .slice A2 n2 c2, .slice A3 n3 c3, .slice none 0 0]) (blk_put (cs' := #[.int .i64 (xb - xa), .int .i64 kerf, .int .i64 1, .slice As (widthsOf ps (yb - ya)).length cs, .slice A2 n2 c2, .slice none 0 0, .slice none 0 0]) (blk_put (cs' := #[.int .i64 (xb - xa), .int .i64 kerf, .int .i64 1, .slice As (widthsOf ps (yb - ya)).length cs, .slice none 0 0, .slice none 0 0, .slice none 0 0]) (blk_put (cs' := #[.int .i64 (xb - xa), .int .i64 kerf, .int .i64 1, .slice none 0 0, .slice none 0 0, .slice none 0 0, .slice none 0 0]) (blk_put (cs' := #[.int .i64 (xb - xa), .int .i64 kerf, .int .i64 0, .slice none 0 0, .slice none 0 0, .slice none 0 0, .slice none 0 0]) (blk_put (cs' := #[.int .i64 (xb - xa), .int .i64 0, .int .i64 0, .slice none 0 0, .slice none 0 0, .slice none 0 0, .slice none 0 0]) HZ8.out 0 (.int .i64 (xb - xa)) rfl) 1 (.int .i64 kerf) rfl) 2 (.int .i64 1) rfl) 3 (.slice As (widthsOf ps (yb - ya)).length cs) rfl) 4 (.slice A2 n2 c2) rfl) 5 (.slice A3 n3 c3) rfl) 6 (.slice A4 n4 c4) rfl)
    have HOW8_ := Aside0.mk (OwnRow.set_ (OwnRow.set_ (OwnRow.set_ (OwnRow.set_ (OwnRow.set_ (OwnRow.set_ (OwnRow.set_ HOW8.out HZ8.out (by decide) 0 (.int .i64 (xb - xa))) (blk_put (cs' := #[.int .i64 (xb - xa), .int .i64 0, .int .i64 0, .slice none 0 0, .slice none 0 0, .slice none 0 0, .slice none 0 0]) HZ8.out 0 (.int .i64 (xb - xa)) rfl) (by decide) 1 (.int .i64 kerf)) (blk_put (cs' := #[.int .i64 (xb - xa), .int .i64 kerf, .int .i64 0, .slice none 0 0, .slice none 0 0, .slice none 0 0, .slice none 0 0]) (blk_put (cs' := #[.int .i64 (xb - xa), .int .i64 0, .int .i64 0, .slice none 0 0, .slice none 0 0, .slice none 0 0, .slice none 0 0]) HZ8.out 0 (.int .i64 (xb - xa)) rfl) 1 (.int .i64 kerf) rfl) (by decide) 2 (.int .i64 1)) (blk_put (cs' := #[.int .i64 (xb - xa), .int .i64 kerf, .int .i64 1, .slice none 0 0, .slice none 0 0, .slice none 0 0, .slice none 0 0]) (blk_put (cs' := #[.int .i64 (xb - xa), .int .i64 kerf, .int .i64 0, .slice none 0 0, .slice none 0 0, .slice none 0 0, .slice none 0 0]) (blk_put (cs' := #[.int .i64 (xb - xa), .int .i64 0, .int .i64 0, .slice none 0 0, .slice none 0 0, .slice none 0 0, .slice none 0 0]) HZ8.out 0 (.int .i64 (xb - xa)) rfl) 1 (.int .i64 kerf) rfl) 2 (.int .i64 1) rfl) (by decide) 3 (.slice As (widthsOf ps (yb - ya)).length cs)) (blk_put (cs' := #[.int .i64 (xb - xa), .int .i64 kerf, .int .i64 1, .slice As (widthsOf ps (yb - ya)).length cs, .slice none 0 0, .slice none 0 0, .slice none 0 0]) (blk_put (cs' := #[.int .i64 (xb - xa), .int .i64 kerf, .int .i64 1, .slice none 0 0, .slice none 0 0, .slice none 0 0, .slice none 0 0]) (blk_put (cs' := #[.int .i64 (xb - xa), .int .i64 kerf, .int .i64 0, .slice none 0 0, .slice none 0 0, .slice none 0 0, .slice none 0 0]) (blk_put (cs' := #[.int .i64 (xb - xa), .int .i64 0, .int .i64 0, .slice none 0 0, .slice none 0 0, .slice none 0 0, .slice none 0 0]) HZ8.out 0 (.int .i64 (xb - xa)) rfl) 1 (.int .i64 kerf) rfl) 2 (.int .i64 1) rfl) 3 (.slice As (widthsOf ps (yb - ya)).length cs) rfl) (by decide) 4 (.slice A2 n2 c2)) (blk_put (cs' := #[.int .i64 (xb - xa), .int .i64 kerf, .int .i64 1, .slice As (widthsOf ps (yb - ya)).length cs, .slice A2 n2 c2, .slice none 0 0, .slice none 0 0]) (blk_put (cs' := #[.int .i64 (xb - xa), .int .i64 kerf, .int .i64 1, .slice As (widthsOf ps (yb - ya)).length cs, .slice none 0 0, .slice none 0 0, .slice none 0 0]) (blk_put (cs' := #[.int .i64 (xb - xa), .int .i64 kerf, .int .i64 1, .slice none 0 0, .slice none 0 0, .slice none 0 0, .slice none 0 0]) (blk_put (cs' := #[.int .i64 (xb - xa), .int .i64 kerf, .int .i64 0, .slice none 0 0, .slice none 0 0, .slice none 0 0, .slice none 0 0]) (blk_put (cs' := #[.int .i64 (xb - xa), .int .i64 0, .int .i64 0, .slice none 0 0, .slice none 0 0, .slice none 0 0, .slice none 0 0]) HZ8.out 0 (.int .i64 (xb - xa)) rfl) 1 (.int .i64 kerf) rfl) 2 (.int .i64 1) rfl) 3 (.slice As (widthsOf ps (yb - ya)).length cs) rfl) 4 (.slice A2 n2 c2) rfl) (by decide) 5 (.slice A3 n3 c3)) (blk_put (cs' := #[.int .i64 (xb - xa), .int .i64 kerf, .int .i64 1, .slice As (widthsOf ps (yb - ya)).length cs, .slice A2 n2 c2, .slice A3 n3 c3, .slice none 0 0]) (blk_put (cs' := #[.int .i64 (xb - xa), .int .i64 kerf, .int .i64 1, .slice As (widthsOf ps (yb - ya)).length cs, .slice A2 n2 c2, .slice none 0 0, .slice none 0 0]) (blk_put (cs' := #[.int .i64 (xb - xa), .int .i64 kerf, .int .i64 1, .slice As (widthsOf ps (yb - ya)).length cs, .slice none 0 0, .slice none 0 0, .slice none 0 0]) (blk_put (cs' := #[.int .i64 (xb - xa), .int .i64 kerf, .int .i64 1, .slice none 0 0, .slice none 0 0, .slice none 0 0, .slice none 0 0]) (blk_put (cs' := #[.int .i64 (xb - xa), .int .i64 kerf, .int .i64 0, .slice none 0 0, .slice none 0 0, .slice none 0 0, .slice none 0 0]) (blk_put (cs' := #[.int .i64 (xb - xa), .int .i64 0, .int .i64 0, .slice none 0 0, .slice none 0 0, .slice none 0 0, .slice none 0 0]) HZ8.out 0 (.int .i64 (xb - xa)) rfl) 1 (.int .i64 kerf) rfl) 2 (.int .i64 1) rfl) 3 (.slice As (widthsOf ps (yb - ya)).length cs) rfl) 4 (.slice A2 n2 c2) rfl) 5 (.slice A3 n3 c3) rfl) (by decide) 6 (.slice A4 n4 c4))
    generalize (((((((w8).setCell ⟨w.heap.size + 1 + 1 + 1, 0, none⟩ (.int .i64 (xb - xa))).setCell ⟨w.heap.size + 1 + 1 + 1, 1, none⟩ (.int .i64 kerf)).setCell ⟨w.heap.size + 1 + 1 + 1, 2, none⟩ (.int .i64 1)).setCell ⟨w.heap.size + 1 + 1 + 1, 3, none⟩ (.slice As (widthsOf ps (yb - ya)).length cs)).setCell ⟨w.heap.size + 1 + 1 + 1, 4, none⟩ (.slice A2 n2 c2)).setCell ⟨w.heap.size + 1 + 1 + 1, 5, none⟩ (.slice A3 n3 c3)).setCell ⟨w.heap.size + 1 + 1 + 1, 6, none⟩ (.slice A4 n4 c4) = W9 at *
    clear HB8
    have HB8 := HB8_
    clear HB8_
    clear HZ8
    have HZ8 := HZ8_
    clear HZ8_
    clear HOW8
    have HOW8 := HOW8_
    clear HOW8_
    obtain ⟨Az, cz, ez, hcz, hCz⟩ := own_C HOW8.out
    injection ez with ez1 ez2 ez3
    subst ez1; subst ez3
    have g9 := HG9.out
    rw [gainsTo_eq (r := ⟨⟨xa, xb⟩, ⟨ya, yb⟩⟩)] at g9
    obtain ⟨e2, l2, C2⟩ := Kd.R_reads' g9
    obtain ⟨e3, l3, C3⟩ := Kd.R_reads' HC9.out
    obtain ⟨e4, l4, C4⟩ := Kd.R_reads' HD9.out
    refine bodyPost_ret (results_cell_tmp rfl _ _ (w.heap.size + 1 + 1 + 1) 64 #[.int .i64 (xb - xa), .int .i64 kerf, .int .i64 1, .slice As (widthsOf ps (yb - ya)).length cs, .slice A2 n2 c2, .slice A3 n3 c3, .slice A4 n4 c4] (0, 0) _ rfl HZ8.out Tryd.underlying64 rfl (by kernel_rfl)) rfl ⟨Or.inr ⟨HE.out, #[.int .i64 (xb - xa), .int .i64 kerf, .int .i64 1, .slice As (widthsOf ps (yb - ya)).length cs, .slice A2 n2 c2, .slice A3 n3 c3, .slice A4 n4 c4], rfl, As, cs, A2, c2, A3, c3, A4, c4, ?_, ⟨hcz, e2 ▸ l2, e3 ▸ l3, e4 ▸ l4⟩, fun W hf => ⟨own_C_fr HOW8.out hf, (Kd.R_reads' (R_fr g9 hf)).2.2, (Kd.R_reads' (R_fr HC9.out hf)).2.2, (Kd.R_reads' (R_fr HD9.out hf)).2.2⟩⟩, HB8.out⟩
    rw [e2, e3, e4]
    rfl
end Go.Proofs.YtngpoonjonojhaaDoor
