/- Words and walks that the row leans on: WScc, WVal, PlErr. -/
import Derived.Test.YtngpoonjonojhaaDoorE03
import Derived.Handy
set_option linter.all false
/-! Walks: arrays of spans. -/
namespace Go.Proofs.YtngpoonjonojhaaDoor
open Go.RowKit Go.Proofs.YtngpoonjonojhaaDoorW.PrintWords Go.Proofs.YtngpoonjonojhaaDoorW.PrintLast
set_option linter.unusedVariables false

set_option maxHeartbeats 1000000 in
set_option maxRecDepth 100000 in
theorem across_calls (a b c d : Int) (w : World) :
    Calls Tryd.prog 106 #[.agg #[.int .i64 a, .int .i64 b, .int .i64 c, .int .i64 d]] w fun e w' => e = .returned (.bool (across ⟨⟨a, b⟩, ⟨c, d⟩⟩)) ∧ Below w.heap.size w w' := by
  have i0 : ∀ w, (Instr.index 195 (.agg #[.int .i64 a, .int .i64 b, .int .i64 c, .int .i64 d]) (.int .i64 0)).run Tryd.prog w = .ok (.agg #[.int .i64 a, .int .i64 b]) w := fun _ => by kernel_rfl
  have i1 : ∀ w, (Instr.index 195 (.agg #[.int .i64 a, .int .i64 b, .int .i64 c, .int .i64 d]) (.int .i64 1)).run Tryd.prog w = .ok (.agg #[.int .i64 c, .int .i64 d]) w := fun _ => by kernel_rfl
  go_enter Tryd.func106, Tryd.ntmps106
  go_wp2
  go_rounds 3
  all_goals go_ret
  all_goals exact ⟨rb (by rw [Bool.eq_iff_iff]; simp [across, spValid]; omega), BB⟩

theorem axes_calls (a b c d e f : Int) (w : World) :
    Calls Tryd.prog 103 #[.agg #[.int .i64 a, .int .i64 b, .int .i64 c, .int .i64 d, .int .i64 e, .int .i64 f]] w fun x w' => x = .returned (.agg #[.int .i64 a, .int .i64 b, .int .i64 c, .int .i64 d, .int .i64 e, .int .i64 f]) ∧ Below w.heap.size w w' := by
  go_enter Tryd.func103, Tryd.ntmps103
  go_wp2
  all_goals refine bodyPost_ret (by simp [results, Tryd.results103, go_sem]; rfl) rfl ⟨?_, BB⟩
  all_goals rfl

set_option maxHeartbeats 1000000 in
set_option maxRecDepth 100000 in
theorem flawed_calls (k a b c d e f : Int) (w : World) :
    Calls Tryd.prog 92 #[.agg #[.int .i64 k, .int .i64 a, .int .i64 b, .int .i64 c, .int .i64 d, .int .i64 e, .int .i64 f]] w fun x w' => x = .returned (.int .i64 (flawed ⟨k, ⟨⟨a, b⟩, ⟨c, d⟩, ⟨e, f⟩⟩⟩)) ∧ Below w.heap.size w w' := by
  have i0 : ∀ w, (Instr.index 185 (.agg #[.int .i64 a, .int .i64 b, .int .i64 c, .int .i64 d, .int .i64 e, .int .i64 f]) (.int .i64 0)).run Tryd.prog w = .ok (.agg #[.int .i64 a, .int .i64 b]) w := fun _ => by kernel_rfl
  have i1 : ∀ w, (Instr.index 185 (.agg #[.int .i64 a, .int .i64 b, .int .i64 c, .int .i64 d, .int .i64 e, .int .i64 f]) (.int .i64 1)).run Tryd.prog w = .ok (.agg #[.int .i64 c, .int .i64 d]) w := fun _ => by kernel_rfl
  have i2 : ∀ w, (Instr.index 185 (.agg #[.int .i64 a, .int .i64 b, .int .i64 c, .int .i64 d, .int .i64 e, .int .i64 f]) (.int .i64 2)).run Tryd.prog w = .ok (.agg #[.int .i64 e, .int .i64 f]) w := fun _ => by kernel_rfl
  have HB := Aside0.mk (Below.refl w.heap.size w)
  by_cases hk : k < 1 ∨ 6 < k
  · have HF := Aside0.mk (show flawed ⟨k, ⟨⟨a, b⟩, ⟨c, d⟩, ⟨e, f⟩⟩⟩ = 10 from if_pos hk)
    have HH := Aside0.mk hk
    clear hk
    go_enter Tryd.func92, Tryd.ntmps92
    go_wp2_with fail
    all_goals try (go_ret; exact ⟨ri HF.out.symm, BB⟩)
    all_goals (exfalso; have h := HH.out; omega)
  have hk1 : 1 ≤ k := by omega
  have hk2 : k ≤ 6 := by omega
  have h0 : flawed ⟨k, ⟨⟨a, b⟩, ⟨c, d⟩, ⟨e, f⟩⟩⟩ = if b ≤ a ∨ d ≤ c ∨ f ≤ e then 19 else if within a b (-600) 600 && within c d (-600) 600 && within e f 0 20000 then 0 else 9 := if_neg hk
  clear hk
  by_cases he : b ≤ a ∨ d ≤ c ∨ f ≤ e
  · have HF := Aside0.mk (h0.trans (if_pos he))
    have HH := Aside0.mk he
    clear he h0
    go_enter Tryd.func92, Tryd.ntmps92
    go_wp2_with fail
    refine (axes_calls _ _ _ _ _ _ _).mono ?_
    rintro e w1 ⟨rfl, hb1⟩
    obtain ⟨hB1, hb2⟩ := adv HB.out hb1
    replace HB := Aside0.mk hB1
    clear hb1 hB1 hb2
    go_wp2_with fail
    refine wp_loop_rounds 4 ?_
    rw [rounds_succ]
    go_wp2_with fail
    all_goals try (go_ret; exact ⟨ri HF.out.symm, by have hb := HB.out; exact BB⟩)
    all_goals rw [rounds_succ]
    all_goals go_wp2_with fail
    all_goals try (go_ret; exact ⟨ri HF.out.symm, by have hb := HB.out; exact BB⟩)
    all_goals rw [rounds_succ]
    all_goals go_wp2_with fail
    all_goals try (go_ret; exact ⟨ri HF.out.symm, by have hb := HB.out; exact BB⟩)
    all_goals (exfalso; have h := HH.out; omega)
  have HF := Aside0.mk (h0.trans (if_neg he))
  have he1 : a < b := by omega
  have he2 : c < d := by omega
  have he3 : e < f := by omega
  clear he h0
  go_enter Tryd.func92, Tryd.ntmps92
  go_wp2_with fail
  refine (axes_calls _ _ _ _ _ _ _).mono ?_
  rintro e w1 ⟨rfl, hb1⟩
  obtain ⟨hB1, hb2⟩ := adv HB.out hb1
  have hd : w1.heap[w.heap.size]? = some (.cells #[.int .i64 k, .int .i64 a, .int .i64 b, .int .i64 c, .int .i64 d, .int .i64 e, .int .i64 f] 59 (0, 0)) := blk_below (by repeat (first | exact blk_newi _ (by simp) | refine blk_drewN ?_ _ | refine blk_drew ?_ | refine blk_alloc ?_ _)) hb1
  have hd_0 : w1.cell? ⟨w.heap.size, 0, none⟩ = some (.int .i64 k) := (blk_cell hd 0).trans rfl
  have hd_1 : w1.cell? ⟨w.heap.size, 1, none⟩ = some (.int .i64 a) := (blk_cell hd 1).trans rfl
  have hd_2 : w1.cell? ⟨w.heap.size, 2, none⟩ = some (.int .i64 b) := (blk_cell hd 2).trans rfl
  have hd_3 : w1.cell? ⟨w.heap.size, 3, none⟩ = some (.int .i64 c) := (blk_cell hd 3).trans rfl
  have hd_4 : w1.cell? ⟨w.heap.size, 4, none⟩ = some (.int .i64 d) := (blk_cell hd 4).trans rfl
  have hd_5 : w1.cell? ⟨w.heap.size, 5, none⟩ = some (.int .i64 e) := (blk_cell hd 5).trans rfl
  have hd_6 : w1.cell? ⟨w.heap.size, 6, none⟩ = some (.int .i64 f) := (blk_cell hd 6).trans rfl
  replace hd := Aside0.mk hd
  have hlt : w.heap.size < w1.heap.size := by have hq_ := hb1.size; simp at hq_; omega
  have hlt1 : w.heap.size < w1.heap.size + 1 := by have hq_ := hb1.size; simp at hq_; omega
  have hlt2 : w.heap.size < w1.heap.size + 1 + 1 := by have hq_ := hb1.size; simp at hq_; omega
  have hlt3 : w.heap.size < w1.heap.size + 1 + 1 + 1 := by have hq_ := hb1.size; simp at hq_; omega
  replace HB := Aside0.mk hB1
  clear hb1 hB1 hb2
  clear hd hd_0
  go_wp2_with fail
  refine wp_loop_rounds 4 ?_
  rw [rounds_succ]
  go_wp2_with fail
  rw [rounds_succ]
  go_wp2_with fail
  rw [rounds_succ]
  go_wp2_with fail
  rw [rounds_succ]
  clear i0 i1 i2
  rcases hw1 : within a b (-600) 600 with _ | _
  · have H1 := Aside0.mk (HF.out.trans (if_neg (by rw [hw1]; simp)))
    go_wp2_with fail
    refine (within_calls _ _ _ _ _).mono ?_
    rintro e w2 ⟨rfl, hb1⟩
    obtain ⟨hB1, hb2⟩ := adv HB.out hb1
    replace HB := Aside0.mk hB1
    clear hb1 hB1 hb2
    rw [hw1]
    clear hw1
    go_wp2
    go_ret
    exact ⟨ri H1.out.symm, HB.out⟩
  go_wp2_with fail
  refine (within_calls _ _ _ _ _).mono ?_
  rintro e w2 ⟨rfl, hb1⟩
  obtain ⟨hB1, hb2⟩ := adv HB.out hb1
  replace hd_3 := pw_cell_below hb2 hd_3
  replace hd_4 := pw_cell_below hb2 hd_4
  replace hd_5 := pw_cell_below hb2 hd_5
  replace hd_6 := pw_cell_below hb2 hd_6
  replace HB := Aside0.mk hB1
  clear hb1 hB1 hb2
  rw [hw1]
  rcases hw2 : within c d (-600) 600 with _ | _
  · have H1 := Aside0.mk (HF.out.trans (if_neg (by rw [hw2]; simp)))
    clear hw1
    go_wp2_with fail
    refine (within_calls _ _ _ _ _).mono ?_
    rintro e w3 ⟨rfl, hb1⟩
    obtain ⟨hB1, hb2⟩ := adv HB.out hb1
    replace HB := Aside0.mk hB1
    clear hb1 hB1 hb2
    rw [hw2]
    clear hw2
    go_wp2
    go_ret
    exact ⟨ri H1.out.symm, HB.out⟩
  go_wp2_with fail
  refine (within_calls _ _ _ _ _).mono ?_
  rintro e w3 ⟨rfl, hb1⟩
  obtain ⟨hB1, hb2⟩ := adv HB.out hb1
  replace hd_5 := pw_cell_below hb2 hd_5
  replace hd_6 := pw_cell_below hb2 hd_6
  replace HB := Aside0.mk hB1
  clear hb1 hB1 hb2
  rw [hw2]
  have H1 := Aside0.mk (show flawed ⟨k, ⟨⟨a, b⟩, ⟨c, d⟩, ⟨e, f⟩⟩⟩ = if within e f 0 20000 then 0 else 9 by rw [HF.out, hw1, hw2, Bool.true_and, Bool.true_and])
  clear hw1 hw2
  rcases hw3 : within e f 0 20000 with _ | _
  · go_wp2_with fail
    refine (within_calls _ _ _ _ _).mono ?_
    rintro e w4 ⟨rfl, hb1⟩
    obtain ⟨hB1, hb2⟩ := adv HB.out hb1
    replace HB := Aside0.mk hB1
    clear hb1 hB1 hb2
    rw [hw3] at H1 ⊢
    clear hw3
    go_wp2
    go_ret
    exact ⟨ri (by rw [H1.out]; rfl), HB.out⟩
  · go_wp2_with fail
    refine (within_calls _ _ _ _ _).mono ?_
    rintro e w4 ⟨rfl, hb1⟩
    obtain ⟨hB1, hb2⟩ := adv HB.out hb1
    replace HB := Aside0.mk hB1
    clear hb1 hB1 hb2
    rw [hw3] at H1 ⊢
    clear hw3
    go_wp2
    go_ret
    exact ⟨ri (by rw [H1.out]; rfl), HB.out⟩

end Go.Proofs.YtngpoonjonojhaaDoor
/-! Walks. -/
namespace Go.Proofs.YtngpoonjonojhaaDoor
open Go.RowKit Go.Proofs.YtngpoonjonojhaaDoorW.PrintWords Go.Proofs.YtngpoonjonojhaaDoorW.PrintLast
set_option linter.unusedVariables false


/-- A section, or the empty one. -/
theorem valid_yes (low : Int) (A : Option Addr) (c : Nat) (rows : List Sp) (w : World) (hr : Kd.C kSp w A rows.length rows) (hc : rows.length ≤ c) (h : secCheck low rows = 0) :
    Calls Tryd.prog 29 #[.agg #[.int .i64 low, .slice A rows.length c]] w fun e w' => e = .returned (.agg #[.int .i64 low, .slice A rows.length c]) ∧ Below w.heap.size w w' := by
  have HB := Aside0.mk (Below.refl w.heap.size w)
  have HH := Aside0.mk h
  clear h
  have HR := Aside0.mk hr
  clear hr
  go_enter Tryd.func29, Tryd.ntmps29
  go_wp2_with fail
  refine (secCheck_calls low A c rows _ ?c1 hc).mono ?_
  case c1 => exact Kd.C_below HR.out BB
  rintro e w1 ⟨rfl, hb1⟩
  obtain ⟨hB1, hb2⟩ := adv HB.out hb1
  have hs : w1.heap[w.heap.size]? = some (.cells #[.int .i64 low, .slice A rows.length c] 52 (0, 0)) := blk_below (by repeat (first | exact blk_newi _ (by simp) | refine blk_drewN ?_ _ | refine blk_drew ?_ | refine blk_alloc ?_ _)) hb1
  have hs_0 : w1.cell? ⟨w.heap.size, 0, none⟩ = some (.int .i64 low) := (blk_cell hs 0).trans rfl
  have hs_1 : w1.cell? ⟨w.heap.size, 1, none⟩ = some (.slice A rows.length c) := (blk_cell hs 1).trans rfl
  replace hs := Aside0.mk hs
  have ht : w1.heap[w.heap.size + 1]? = some (.cells #[.int .i64 0, .slice none 0 0] 52 (0, 0)) := blk_below (by repeat (first | exact blk_newi _ (by simp) | refine blk_drewN ?_ _ | refine blk_drew ?_ | refine blk_alloc ?_ _)) hb1
  have ht_0 : w1.cell? ⟨w.heap.size + 1, 0, none⟩ = some (.int .i64 0) := (blk_cell ht 0).trans rfl
  have ht_1 : w1.cell? ⟨w.heap.size + 1, 1, none⟩ = some (.slice none 0 0) := (blk_cell ht 1).trans rfl
  have ht_f0 : w1.frozen? ⟨w.heap.size + 1, 0, none⟩ = false := blk_frozen ht 0
  have ht_f1 : w1.frozen? ⟨w.heap.size + 1, 1, none⟩ = false := blk_frozen ht 1
  replace ht := Aside0.mk ht
  have hlt : w.heap.size < w1.heap.size := by have hq_ := hb1.size; simp at hq_; omega
  have hlt1 : w.heap.size < w1.heap.size + 1 := by have hq_ := hb1.size; simp at hq_; omega
  have hlt2 : w.heap.size < w1.heap.size + 1 + 1 := by have hq_ := hb1.size; simp at hq_; omega
  have hlt3 : w.heap.size < w1.heap.size + 1 + 1 + 1 := by have hq_ := hb1.size; simp at hq_; omega
  replace HB := Aside0.mk hB1
  clear hb1 hB1 hb2
  rw [HH.out]
  clear hc
  go_wp2
  refine bodyPost_ret (results_cell_row rfl _ _ (w.heap.size + 1) 52 #[.int .i64 low, .slice A rows.length c] (0, 0) _ rfl (blk_put (blk_put ht.out 0 _ rfl) 1 _ rfl) Tryd.underlying52 rfl (by kernel_rfl)) rfl ⟨rfl, below_set (below_set HB.out (by omega)) (by omega)⟩
theorem valid_no (low : Int) (A : Option Addr) (c : Nat) (rows : List Sp) (w : World) (hr : Kd.C kSp w A rows.length rows) (hc : rows.length ≤ c) (h : secCheck low rows ≠ 0) :
    Calls Tryd.prog 29 #[.agg #[.int .i64 low, .slice A rows.length c]] w fun e w' => e = .returned (.agg #[.int .i64 0, .slice none 0 0]) ∧ Below w.heap.size w w' := by
  have HB := Aside0.mk (Below.refl w.heap.size w)
  have HH := Aside0.mk (show (secCheck low rows != 0) = true from bne_iff_ne.2 h)
  clear h
  have HR := Aside0.mk hr
  clear hr
  go_enter Tryd.func29, Tryd.ntmps29
  go_wp2_with fail
  refine (secCheck_calls low A c rows _ ?c1 hc).mono ?_
  case c1 => exact Kd.C_below HR.out BB
  rintro e w1 ⟨rfl, hb1⟩
  obtain ⟨hB1, hb2⟩ := adv HB.out hb1
  have ht : w1.heap[w.heap.size + 1]? = some (.cells #[.int .i64 0, .slice none 0 0] 52 (0, 0)) := blk_below (by repeat (first | exact blk_newi _ (by simp) | refine blk_drewN ?_ _ | refine blk_drew ?_ | refine blk_alloc ?_ _)) hb1
  have ht_0 : w1.cell? ⟨w.heap.size + 1, 0, none⟩ = some (.int .i64 0) := (blk_cell ht 0).trans rfl
  have ht_1 : w1.cell? ⟨w.heap.size + 1, 1, none⟩ = some (.slice none 0 0) := (blk_cell ht 1).trans rfl
  have ht_f0 : w1.frozen? ⟨w.heap.size + 1, 0, none⟩ = false := blk_frozen ht 0
  have ht_f1 : w1.frozen? ⟨w.heap.size + 1, 1, none⟩ = false := blk_frozen ht 1
  replace ht := Aside0.mk ht
  replace HB := Aside0.mk hB1
  clear hb1 hB1 hb2
  have hz := HH.out
  clear hc
  go_wp2
  refine bodyPost_ret (results_cell_row rfl _ _ (w.heap.size + 1) 52 #[.int .i64 0, .slice none 0 0] (0, 0) _ rfl (blk_put (blk_put ht.out 0 _ rfl) 1 _ rfl) Tryd.underlying52 rfl (by kernel_rfl)) rfl ⟨rfl, below_set (below_set HB.out (by omega)) (by omega)⟩
end Go.Proofs.YtngpoonjonojhaaDoor
/-! Plain laws: the checks of lists. -/
namespace Go.Proofs.YtngpoonjonojhaaDoor
/-- The first error of the items 0, 1, .. -/
def firstErr (f : Nat → Int) : Nat → Int
  | 0 => 0
  | n + 1 => if firstErr f n = 0 then f n else firstErr f n
theorem firstErr_step {f : Nat → Int} {k : Nat} (h : firstErr f k = 0) (h1 : f k = 0) : firstErr f (k + 1) = 0 := by simp [firstErr, h, h1]
theorem firstErr_found {f : Nat → Int} {k n : Nat} (h : firstErr f k = 0) (h1 : f k ≠ 0) (hn : k < n) : firstErr f n = f k := by
  induction n with
  | zero => omega
  | succ n ih =>
    by_cases e : k = n
    · subst e; simp [firstErr, h]
    · have := ih (by omega); simp only [firstErr, this, if_neg h1]
theorem firstErr_congr {f g : Nat → Int} : ∀ {n : Nat}, (∀ i, i < n → f i = g i) → firstErr f n = firstErr g n
  | 0, _ => rfl
  | n + 1, h => by simp only [firstErr, firstErr_congr (n := n) (fun i hi => h i (by omega)), h n (by omega)]
theorem firstErr_zero {f : Nat → Int} : ∀ {n : Nat}, firstErr f n = 0 → ∀ i, i < n → f i = 0
  | 0, _, i, hi => by omega
  | n + 1, h, i, hi => by
    by_cases h0 : firstErr f n = 0
    · simp only [firstErr, h0, if_true] at h
      by_cases e : i = n
      · rw [e]; exact h
      · exact firstErr_zero h0 i (by omega)
    · simp only [firstErr, if_neg h0] at h
      exact absurd h h0

def rdI (xs : List Int) (i : Int) : Int := xs.getD i.toNat 0
/-- The error of a length of a product. -/
def lenErr1 (ls : List Int) (i : Nat) : Int :=
  if rdI ls i < 100 ∨ 20000 < rdI ls i then 9 else if 0 < i ∧ rdI ls i ≤ rdI ls ((i : Int) - 1) then 11 else 0
def priceErr1 (ps : List Int) (i : Nat) : Int := if rdI ps i < 0 ∨ 1000000 < rdI ps i then 9 else 0
def lenErr (ls ps : List Int) : Int :=
  if ls.length = 0 then 3 else if 8 < ls.length then 4 else if ls.length ≠ ps.length then 19
  else if firstErr (lenErr1 ls) ls.length ≠ 0 then firstErr (lenErr1 ls) ls.length
  else firstErr (priceErr1 ps) ps.length

def bti (s : ByteArray) (i : Int) : Int := if h : i.toNat < s.size then ((s[i.toNat]'h).toNat : Int) else 0
def lower (c : Int) : Bool := decide (97 ≤ c) && decide (c ≤ 122)
def digit (c : Int) : Bool := decide (48 ≤ c) && decide (c ≤ 57)
def nameErr1 (s : ByteArray) (i : Nat) : Int := if lower (bti s i) || digit (bti s i) || bti s i == 95 then 0 else 1
def isName (s : ByteArray) : Bool := decide (1 ≤ s.size) && decide (s.size ≤ 16) && lower (bti s 0) && decide (firstErr (nameErr1 s) s.size = 0)
/-- Does one of the first n products have the name? -/
def hasName (l : List Prod) (n : Nat) (nm : ByteArray) : Bool := (l.take n).any fun p => p.name.toList == nm.toList
/-- The error of product i of a catalog. -/
def prodErr1 (l : List Prod) (i : Nat) : Int :=
  if isName (rd_Prod l i).name = false then 6 else if hasName l i (rd_Prod l i).name then 7
  else if sized (rd_Prod l i).thick (rd_Prod l i).width (rd_Prod l i).allow (rd_Prod l i).wane = false then 9
  else lenErr (rd_Prod l i).lengths (rd_Prod l i).prices
def catCheck (l : List Prod) : Int := if 16 < l.length then 4 else firstErr (prodErr1 l) l.length
def dftCheck (l : List Dft) : Int := if 64 < l.length then 4 else firstErr (fun i => flawed (rd_Dft l i)) l.length
/-- The length of the first n slices. -/
def lenTo (l : List Slc) : Nat → Int
  | 0 => 0
  | n + 1 => lenTo l n + (rd_Slc l n).len
def slcErr1 (l : List Slc) (i : Nat) : Int :=
  if secCheck (rd_Slc l i).sec.low (rd_Slc l i).sec.rows ≠ 0 then secCheck (rd_Slc l i).sec.low (rd_Slc l i).sec.rows
  else if (rd_Slc l i).sec.rows.length = 0 then 18
  else if (rd_Slc l i).len < 1 ∨ 20000 - lenTo l i < (rd_Slc l i).len then 9 else 0
def solCheck (l : List Slc) : Int := if l.length = 0 then 3 else if 24 < l.length then 4 else firstErr (slcErr1 l) l.length
end Go.Proofs.YtngpoonjonojhaaDoor
