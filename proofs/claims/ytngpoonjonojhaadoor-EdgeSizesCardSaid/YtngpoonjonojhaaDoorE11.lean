/- Words and walks that the row leans on: WKit, WSce, WLwo. -/
import Derived.Test.YtngpoonjonojhaaDoorE03
import Derived.Handy
import Derived.Deep.MidRow
import Derived.Test.YtngpoonjonojhaaDoorE10
import Derived.Test.YtngpoonjonojhaaDoorE09
import Derived.Deep.RegionHeld3
set_option linter.all false
/-! Words: one-element and two-element rows; results of a cell and values. -/
namespace Go.Proofs.YtngpoonjonojhaaDoor
open Go.RowKit Go.Proofs.YtngpoonjonojhaaDoorW.PrintWords Go.Proofs.YtngpoonjonojhaaDoorW.PrintLast
set_option linter.unusedVariables false

/-- A region of a function's code that stands at the head of a sequence, and what follows it. -/
def cutAt (n : Nat) : Code → Option (Code × Code)
  | .seq (.region k o f) b => if k = n then some (.region k o f, b) else cutAt n b
  | .seq _ b => cutAt n b
  | _ => none
theorem add_at (g k : Nat) : Addr.add ⟨g, 0, none⟩ k = ⟨g, k, none⟩ := by
  simp only [Addr.add]
  split <;> simp_all
/-- A whole block is read. -/
theorem load_blk {P : Program} {w : World} {g : Nat} {t : TypeId} {cs : Array Value} {fr : Nat × Nat} (hb : w.heap[g]? = some (.cells cs t fr)) {n : Nat} (hn : cs.size = n) :
    (loadCellsFrom ⟨g, 0, none⟩ 0 n #[]).run P w = .ok cs w := by
  subst hn
  have := run_loadCells_list (P := P) w ⟨g, 0, none⟩ cs.toList (fun j v hv => by
    rw [add_at, cell_of_row w g j cs t fr hb]
    simpa using hv)
  simpa [loadCells] using this
theorem C_one {α : Type} {d : Kd α} {w : World} {g : Nat} {t : TypeId} {x : α} {cs : Array Value} (hb : w.heap[g]? = some (.cells cs t (0, 0))) (hk : d.K w x cs.toList) : Kd.C d w (some ⟨g, 0, none⟩) 1 [x] := by
  refine ⟨rfl, by omega, fun _ => ⟨⟨g, 0, none⟩, rfl, fun j p hj => ?_⟩⟩
  have hj0 : j = 0 := by
    cases j with
    | zero => rfl
    | succ j => simp at hj
  subst hj0
  obtain rfl : x = p := by simpa using hj
  refine ⟨cs.toList, d.K_len hk, hk, fun i u hu => ?_⟩
  have := blk_cell hb i
  rw [add_at, Nat.zero_mul, Nat.zero_add]
  rw [this, ← hu]
  simp
theorem C_two {α : Type} {d : Kd α} {w : World} {g : Nat} {t : TypeId} {x y : α} {c1 c2 : List Value} (hb : w.heap[g]? = some (.cells (c1 ++ c2).toArray t (0, 0))) (hk : d.K w x c1) (hk2 : d.K w y c2) : Kd.C d w (some ⟨g, 0, none⟩) 2 [x, y] := by
  refine ⟨rfl, by omega, fun _ => ⟨⟨g, 0, none⟩, rfl, fun j p hj => ?_⟩⟩
  have l1 := d.K_len hk
  have l2 := d.K_len hk2
  have hcell : ∀ i u, (c1 ++ c2)[i]? = some u → w.cell? ⟨g, i, none⟩ = some u := fun i u hu => by rw [blk_cell hb i, ← hu]; simp
  cases j with
  | zero =>
    obtain rfl : x = p := by simpa using hj
    refine ⟨c1, l1, hk, fun i u hu => ?_⟩
    rw [add_at, Nat.zero_mul, Nat.zero_add]
    refine hcell i u ?_
    rw [List.getElem?_append_left (by have := (List.getElem?_eq_some_iff.1 hu).1; exact this)]
    exact hu
  | succ j =>
    cases j with
    | zero =>
      obtain rfl : y = p := by simpa using hj
      refine ⟨c2, l2, hk2, fun i u hu => ?_⟩
      rw [add_at, Nat.zero_add, Nat.one_mul]
      refine hcell _ u ?_
      rw [List.getElem?_append_right (by omega), ← hu]
      congr 1; omega
    | succ j => simp at hj

theorem results_cell_tmp {P : Program} {fn : Func} {p q : Tmp} {ty : TypeId} (h : fn.results = #[.cell p ty, .tmp q]) (tmps : Array Value) (w : World) (g : Nat) (t : TypeId) (cs : Array Value) (fr : Nat × Nat) (d : TypeDesc)
    (hp : tmps.getD p undef = .pointer (some ⟨g, 0, none⟩)) (hg : w.heap[g]? = some (.cells cs t fr))
    (hu : P.underlying ty = some d) (hd : (match d with | .struct _ | .array _ _ => true | _ => false) = true) (hi : (P.info? ty).map (·.size) = some cs.size) :
    (results fn tmps).run P w = .ok (.tuple #[.agg cs, tmps.getD q undef]) w := by
  have hp' : tmps[p]?.getD undef = .pointer (some ⟨g, 0, none⟩) := by simpa using hp
  simp [results, h, hp', asAddr, run_loadVar_row w g t ty cs fr d hg hu hd hi]
theorem results_cell_tmp2 {P : Program} {fn : Func} {p q q' : Tmp} {ty : TypeId} (h : fn.results = #[.cell p ty, .tmp q, .tmp q']) (tmps : Array Value) (w : World) (g : Nat) (t : TypeId) (cs : Array Value) (fr : Nat × Nat) (d : TypeDesc)
    (hp : tmps.getD p undef = .pointer (some ⟨g, 0, none⟩)) (hg : w.heap[g]? = some (.cells cs t fr))
    (hu : P.underlying ty = some d) (hd : (match d with | .struct _ | .array _ _ => true | _ => false) = true) (hi : (P.info? ty).map (·.size) = some cs.size) :
    (results fn tmps).run P w = .ok (.tuple #[.agg cs, tmps.getD q undef, tmps.getD q' undef]) w := by
  have hp' : tmps[p]?.getD undef = .pointer (some ⟨g, 0, none⟩) := by simpa using hp
  simp [results, h, hp', asAddr, run_loadVar_row w g t ty cs fr d hg hu hd hi]
end Go.Proofs.YtngpoonjonojhaaDoor
/-! Walks: defects touch boxes. -/
namespace Go.Proofs.YtngpoonjonojhaaDoor
open Go.RowKit Go.Proofs.YtngpoonjonojhaaDoorW.PrintWords Go.Proofs.YtngpoonjonojhaaDoorW.PrintLast
set_option linter.unusedVariables false

theorem touches_calls (k a b c d e f a' b' c' d' e' f' : Int) (w : World) :
    Calls Tryd.prog 110 #[.agg #[.int .i64 k, .int .i64 a, .int .i64 b, .int .i64 c, .int .i64 d, .int .i64 e, .int .i64 f], .agg #[.int .i64 a', .int .i64 b', .int .i64 c', .int .i64 d', .int .i64 e', .int .i64 f']] w fun x w' => x = .returned (.bool (touches ⟨⟨a, b⟩, ⟨c, d⟩, ⟨e, f⟩⟩ ⟨⟨a', b'⟩, ⟨c', d'⟩, ⟨e', f'⟩⟩)) ∧ Below w.heap.size w w' := by
  have HB := Aside0.mk (Below.refl w.heap.size w)
  go_enter Tryd.func110, Tryd.ntmps110
  go_wp2_with fail
  refine (common_calls _ _ _ _ _ _ _ _ _ _ _ _ _).mono ?_
  rintro e w1 ⟨⟨p, q, r, s, t, u, rfl⟩, hb1⟩
  obtain ⟨hB1, hb2⟩ := adv HB.out hb1
  replace HB := Aside0.mk hB1
  clear hb1 hB1 hb2
  go_wp2_with fail
  go_ret
  exact ⟨rfl, by have h := HB.out; exact BB⟩
end Go.Proofs.YtngpoonjonojhaaDoor
/-! Walks: the worth of a box of a looker. -/
namespace Go.Proofs.YtngpoonjonojhaaDoor
open Go.RowKit Go.Proofs.YtngpoonjonojhaaDoorW.PrintWords Go.Proofs.YtngpoonjonojhaaDoorW.PrintLast
set_option linter.unusedVariables false

theorem wthTo_none {d : List Dft} {b : Box} {fine n : Int} {k : Nat} (h : wthTo d b fine n k = none) : ∀ {m}, k ≤ m → wthTo d b fine n m = none
  | 0, hm => by obtain rfl : k = 0 := by omega
                exact h
  | m + 1, hm => by
    by_cases e : k = m + 1
    · subst e; exact h
    · have := wthTo_none h (m := m) (by omega)
      simp only [wthTo, this]

theorem price_bound {ls ps : List Int} {n v : Int} (h : ∀ i, 0 ≤ rd ps i ∧ rd ps i ≤ 1000000) : ∀ {k : Nat}, priceOf ls ps n k = some v → 0 ≤ v ∧ v ≤ 1000000
  | 0, e => by simp [priceOf] at e
  | k + 1, e => by
    simp only [priceOf] at e
    cases e1 : priceOf ls ps n k with
    | some p => rw [e1] at e; have e2 : p = v := by simpa using e
                subst e2; exact price_bound h e1
    | none =>
      rw [e1] at e
      dsimp only at e
      split at e
      · have e2 : rdI ps k = v := by simpa using e
        subst e2; exact h _
      · simp at e

set_option maxHeartbeats 4000000 in
set_option maxRecDepth 100000 in
theorem lworth_calls (Ad : Option Addr) (cd : Nat) (d : List Dft) (nm : ByteArray) (th wd al wa : Int) (A5 : Option Addr) (c5 : Nat) (ls : List Int) (A6 : Option Addr) (c6 : Nat) (ps : List Int) (xa xb ya yb len : Int) (Ae : Option Addr) (ce : Nat) (ends : List Int) (Aw : Option Addr) (cw : Nat) (wane : List Int) (za zb fine : Int)
    (hd1 : d.length ≤ 64) (hl1 : ls.length ≤ 1000000) (hl2 : ls.length = ps.length) (hp1 : ∀ i, 0 ≤ rd ps i ∧ rd ps i ≤ 1000000) (hf1 : 0 ≤ fine) (hf2 : fine ≤ 1000000) (he1 : ends.length ≤ 1000000) (he2 : ends.length = wane.length) (hlen : len ≤ 1000000)
    (w : World) (hd : Kd.C kDft w Ad d.length d) (hl : Kd.C (Kd.int .i64) w A5 ls.length ls) (hp : Kd.C (Kd.int .i64) w A6 ps.length ps) (he : Kd.C (Kd.int .i64) w Ae ends.length ends) (hw : Kd.C (Kd.int .i64) w Aw wane.length wane) :
    Calls Tryd.prog 99 #[.agg #[.slice Ad d.length cd, .string nm, .int .i64 th, .int .i64 wd, .int .i64 al, .int .i64 wa, .slice A5 ls.length c5, .slice A6 ps.length c6, .int .i64 xa, .int .i64 xb, .int .i64 ya, .int .i64 yb, .int .i64 len, .slice Ae ends.length ce, .slice Aw wane.length cw], .agg #[.int .i64 za, .int .i64 zb], .int .i64 fine] w fun e w' => e = .returned (.tuple #[.int .i64 ((worthK d ⟨nm, th, wd, al, wa, ls, ps⟩ ⟨⟨xa, xb⟩, ⟨ya, yb⟩⟩ len ends wane ⟨za, zb⟩ fine).getD 0), .bool (worthK d ⟨nm, th, wd, al, wa, ls, ps⟩ ⟨⟨xa, xb⟩, ⟨ya, yb⟩⟩ len ends wane ⟨za, zb⟩ fine).isSome]) ∧ Below w.heap.size w w' := by
  have HB := Aside0.mk (Below.refl w.heap.size w)
  have HD := Aside0.mk hd
  have HL := Aside0.mk hl
  have HP := Aside0.mk hp
  have HE := Aside0.mk he
  have HW := Aside0.mk hw
  have HP1 := Aside0.mk hp1
  have HE2 := Aside0.mk he2
  have HL2 := Aside0.mk hl2
  clear hd hl hp he hw hp1 he2 hl2
  obtain ⟨R, hR⟩ : ∃ R, R = worthK d ⟨nm, th, wd, al, wa, ls, ps⟩ ⟨⟨xa, xb⟩, ⟨ya, yb⟩⟩ len ends wane ⟨za, zb⟩ fine := ⟨_, rfl⟩
  rw [← hR]
  have HR := Aside0.mk hR
  clear hR
  by_cases h0 : za < 0 ∨ zb ≤ za ∨ len < zb
  · have HF := Aside0.mk (HR.out.trans (if_pos h0))
    rcases h0 with h0 | h0 | h0
    · go_enter Tryd.func99, Tryd.ntmps99
      go_wp2
      go_ret2
      exact ⟨by rw [HF.out]; rfl, BB⟩
    · by_cases h1 : za < 0
      · go_enter Tryd.func99, Tryd.ntmps99
        go_wp2
        go_ret2
        exact ⟨by rw [HF.out]; rfl, BB⟩
      · go_enter Tryd.func99, Tryd.ntmps99
        go_wp2
        go_ret2
        exact ⟨by rw [HF.out]; rfl, BB⟩
    · by_cases h1 : za < 0
      · go_enter Tryd.func99, Tryd.ntmps99
        go_wp2
        go_ret2
        exact ⟨by rw [HF.out]; rfl, BB⟩
      · by_cases h2 : zb ≤ za
        · go_enter Tryd.func99, Tryd.ntmps99
          go_wp2
          go_ret2
          exact ⟨by rw [HF.out]; rfl, BB⟩
        · go_enter Tryd.func99, Tryd.ntmps99
          go_wp2
          go_ret2
          exact ⟨by rw [HF.out]; rfl, BB⟩
  have HF := Aside0.mk (HR.out.trans (if_neg h0))
  have z1 : 0 ≤ za := by omega
  have z2 : za < zb := by omega
  have z3 : zb ≤ len := by omega
  clear h0 HR
  go_enter Tryd.func99, Tryd.ntmps99
  go_wp2_with fail
  refine (price_calls _ _ _ _ _ _ _ _ _ _ _ _ ?c0 ?c1 _ ?c2 ?c3).mono ?_
  case c0 => exact hl1
  case c1 => exact HL2.out
  case c2 => exact Kd.C_below HL.out BB
  case c3 => exact Kd.C_below HP.out BB
  rintro e w1 ⟨rfl, hb1⟩
  obtain ⟨hB1, hb2⟩ := adv HB.out hb1
  have hk : w1.heap[w.heap.size]? = some (.cells #[.slice Ad d.length cd, .string nm, .int .i64 th, .int .i64 wd, .int .i64 al, .int .i64 wa, .slice A5 ls.length c5, .slice A6 ps.length c6, .int .i64 xa, .int .i64 xb, .int .i64 ya, .int .i64 yb, .int .i64 len, .slice Ae ends.length ce, .slice Aw wane.length cw] 180 (0, 0)) := blk_below (by repeat (first | exact blk_newi _ (by simp) | refine blk_drewN ?_ _ | refine blk_drew ?_ | refine blk_alloc ?_ _)) hb1
  have hk_0 : w1.cell? ⟨w.heap.size, 0, none⟩ = some (.slice Ad d.length cd) := (blk_cell hk 0).trans rfl
  have hk_1 : w1.cell? ⟨w.heap.size, 1, none⟩ = some (.string nm) := (blk_cell hk 1).trans rfl
  have hk_2 : w1.cell? ⟨w.heap.size, 2, none⟩ = some (.int .i64 th) := (blk_cell hk 2).trans rfl
  have hk_3 : w1.cell? ⟨w.heap.size, 3, none⟩ = some (.int .i64 wd) := (blk_cell hk 3).trans rfl
  have hk_4 : w1.cell? ⟨w.heap.size, 4, none⟩ = some (.int .i64 al) := (blk_cell hk 4).trans rfl
  have hk_5 : w1.cell? ⟨w.heap.size, 5, none⟩ = some (.int .i64 wa) := (blk_cell hk 5).trans rfl
  have hk_6 : w1.cell? ⟨w.heap.size, 6, none⟩ = some (.slice A5 ls.length c5) := (blk_cell hk 6).trans rfl
  have hk_7 : w1.cell? ⟨w.heap.size, 7, none⟩ = some (.slice A6 ps.length c6) := (blk_cell hk 7).trans rfl
  have hk_8 : w1.cell? ⟨w.heap.size, 8, none⟩ = some (.int .i64 xa) := (blk_cell hk 8).trans rfl
  have hk_9 : w1.cell? ⟨w.heap.size, 9, none⟩ = some (.int .i64 xb) := (blk_cell hk 9).trans rfl
  have hk_10 : w1.cell? ⟨w.heap.size, 10, none⟩ = some (.int .i64 ya) := (blk_cell hk 10).trans rfl
  have hk_11 : w1.cell? ⟨w.heap.size, 11, none⟩ = some (.int .i64 yb) := (blk_cell hk 11).trans rfl
  have hk_12 : w1.cell? ⟨w.heap.size, 12, none⟩ = some (.int .i64 len) := (blk_cell hk 12).trans rfl
  have hk_13 : w1.cell? ⟨w.heap.size, 13, none⟩ = some (.slice Ae ends.length ce) := (blk_cell hk 13).trans rfl
  have hk_14 : w1.cell? ⟨w.heap.size, 14, none⟩ = some (.slice Aw wane.length cw) := (blk_cell hk 14).trans rfl
  replace hk := Aside0.mk hk
  have hz : w1.heap[w.heap.size + 1]? = some (.cells #[.int .i64 za, .int .i64 zb] 33 (0, 0)) := blk_below (by repeat (first | exact blk_newi _ (by simp) | refine blk_drewN ?_ _ | refine blk_drew ?_ | refine blk_alloc ?_ _)) hb1
  have hz_0 : w1.cell? ⟨w.heap.size + 1, 0, none⟩ = some (.int .i64 za) := (blk_cell hz 0).trans rfl
  have hz_1 : w1.cell? ⟨w.heap.size + 1, 1, none⟩ = some (.int .i64 zb) := (blk_cell hz 1).trans rfl
  replace hz := Aside0.mk hz
  have hlt : w.heap.size + 1 < w1.heap.size := by have hq_ := hb1.size; simp at hq_; omega
  replace HB := Aside0.mk hB1
  clear hb1 hB1 hb2
  rcases hpr : priceOf ls ps (zb - za) ls.length with _ | n
  · have H1 := Aside0.mk (show R = none by rw [HF.out]; show (match priceOf ls ps (zb - za) ls.length with | none => none | some n => if wa < most ends wane ⟨za, zb⟩ then none else _) = none; rw [hpr])
    clear hpr HF
    dsimp only [Option.getD, Option.isSome]
    go_upto_region 4 with (fail)
    go_quiet (fail)
    go_wp2_with fail
    go_ret2
    exact ⟨by rw [H1.out]; rfl, by have h := HB.out; exact BB⟩
  have hn1 : 0 ≤ n ∧ n ≤ 1000000 := price_bound HP1.out hpr
  obtain ⟨n1, n2⟩ := hn1
  have H1 := Aside0.mk (show R = if wa < most ends wane ⟨za, zb⟩ then none else (wthTo d ⟨⟨xa, xb⟩, ⟨ya, yb⟩, ⟨za, zb⟩⟩ fine n d.length).map fun m => mxi 0 m by rw [HF.out]; show (match priceOf ls ps (zb - za) ls.length with | none => none | some n => if wa < most ends wane ⟨za, zb⟩ then none else _) = _; rw [hpr])
  clear hpr HF
  dsimp only [Option.getD, Option.isSome]
  go_upto_region 4 with (fail)
  go_region_held3 (fun X => Below w1.heap.size w1 X ∧ X.cell? ⟨w.heap.size, 5, none⟩ = some (.int .i64 wa) ∧ X.cell? ⟨w.heap.size, 13, none⟩ = some (.slice Ae ends.length ce) ∧ X.cell? ⟨w.heap.size, 14, none⟩ = some (.slice Aw wane.length cw) ∧ X.cell? ⟨w.heap.size + 1, 0, none⟩ = some (.int .i64 za) ∧ X.cell? ⟨w.heap.size + 1, 1, none⟩ = some (.int .i64 zb))
    (first
      | (refine ⟨BB, ?_, ?_, ?_, ?_, ?_⟩ <;> go_simp <;> done)
      | (go_split_ands; refine ⟨below_then (by assumption) (Below.size (by assumption)) hb1, pw_cell_below hb1 (by assumption), pw_cell_below hb1 (by assumption), pw_cell_below hb1 (by assumption), pw_cell_below hb1 (by assumption), pw_cell_below hb1 (by assumption)⟩))
    (first | (go_at_call 109; refine (most_calls _ _ _ _ _ _ _ _ ?c1 ?c2 _ ?c3 ?c4).mono ?_; (case c1 => exact he1); (case c2 => exact HE2.out); (case c3 => (go_split_ands; exact Kd.C_below HE.out (below_then HB.out HB.out.size (by assumption)))); (case c4 => (go_split_ands; exact Kd.C_below HW.out (below_then HB.out HB.out.size (by assumption)))); rintro e w2 ⟨rfl, hb1⟩))
  go_split_ands
  have hbw : Below w1.heap.size w1 w2 := by assumption
  have HK2 := Aside0.mk (blk_below hk.out hbw)
  have HZ2 := Aside0.mk (blk_below hz.out hbw)
  have HB2 := Aside0.mk (below_then HB.out HB.out.size hbw)
  clear hbw hk hz hk_0 hk_1 hk_2 hk_3 hk_4 hk_5 hk_6 hk_7 hk_8 hk_9 hk_10 hk_11 hk_12 hk_13 hk_14 hz_0 hz_1
  generalize most ends wane ⟨za, zb⟩ = q at *
  by_cases hq : wa < q
  · have H2 := Aside0.mk (H1.out.trans (if_pos hq))
    go_wp2
    go_ret2
    exact ⟨by rw [H2.out]; rfl, by have h := HB2.out; exact BB⟩
  have H2 := Aside0.mk (H1.out.trans (if_neg hq))
  have hq1 : q ≤ wa := by omega
  clear H1 hq
  have hk0 : w2.cell? ⟨w.heap.size, 0, none⟩ = some (.slice Ad d.length cd) := (blk_cell HK2.out 0).trans rfl
  go_wp2
  clear hk0
  go_loopw [8, 57] (fun v i wr => ∃ (k : Nat) (m : Int), k ≤ d.length ∧ v = .int .i64 m ∧ i = .int .i64 k ∧ Aside0 (wthTo d ⟨⟨xa, xb⟩, ⟨ya, yb⟩, ⟨za, zb⟩⟩ fine n k = some m) ∧ m ≤ 1000000 ∧ -(1000000 * (k : Int)) ≤ m ∧ Aside0 (Below w.heap.size w wr) ∧ Aside0 (wr.heap[w.heap.size]? = some (.cells #[.slice Ad d.length cd, .string nm, .int .i64 th, .int .i64 wd, .int .i64 al, .int .i64 wa, .slice A5 ls.length c5, .slice A6 ps.length c6, .int .i64 xa, .int .i64 xb, .int .i64 ya, .int .i64 yb, .int .i64 len, .slice Ae ends.length ce, .slice Aw wane.length cw] 180 (0, 0))) ∧ Aside0 (wr.heap[w.heap.size + 1]? = some (.cells #[.int .i64 za, .int .i64 zb] 33 (0, 0)))) (fun _ i _ => d.length - (intOf i).toNat)
  case atStart => exact ⟨0, n, by omega, rfl, rfl, ⟨rfl⟩, n2, by omega, HB2, HK2, HZ2⟩
  case round =>
    clear HB2 HK2 HZ2 HB
    obtain ⟨k, m, hk, rfl, rfl, HA, m1, m2, HB, HK, HZ⟩ := hrel
    by_cases hlt : k < d.length
    · obtain ⟨ad, rfl, hx0, hx1, hx2, hx3, hx4, hx5, hx6⟩ := at_Dft (Kd.C_below HD.out HB.out) k (by omega) (by omega)
      simp only [Int.toNat_natCast] at hx0 hx1 hx2 hx3 hx4 hx5 hx6
      have hk8 : wr.cell? ⟨w.heap.size, 8, none⟩ = some (.int .i64 xa) := (blk_cell HK.out 8).trans rfl
      have hk9 : wr.cell? ⟨w.heap.size, 9, none⟩ = some (.int .i64 xb) := (blk_cell HK.out 9).trans rfl
      have hk10 : wr.cell? ⟨w.heap.size, 10, none⟩ = some (.int .i64 ya) := (blk_cell HK.out 10).trans rfl
      have hk11 : wr.cell? ⟨w.heap.size, 11, none⟩ = some (.int .i64 yb) := (blk_cell HK.out 11).trans rfl
      have hz0 : wr.cell? ⟨w.heap.size + 1, 0, none⟩ = some (.int .i64 za) := (blk_cell HZ.out 0).trans rfl
      have hz1 : wr.cell? ⟨w.heap.size + 1, 1, none⟩ = some (.int .i64 zb) := (blk_cell HZ.out 1).trans rfl
      have hsz : w.heap.size + 1 < wr.heap.size := blk_lt HZ.out
      have hsz1 : w.heap.size < wr.heap.size := by omega
      have HT := Aside0.mk (show wthTo d ⟨⟨xa, xb⟩, ⟨ya, yb⟩, ⟨za, zb⟩⟩ fine n (k + 1) = if touches ⟨⟨(rd_Dft d k).box.x.a, (rd_Dft d k).box.x.b⟩, ⟨(rd_Dft d k).box.y.a, (rd_Dft d k).box.y.b⟩, ⟨(rd_Dft d k).box.z.a, (rd_Dft d k).box.z.b⟩⟩ ⟨⟨xa, xb⟩, ⟨ya, yb⟩, ⟨za, zb⟩⟩ then (if (rd_Dft d k).kind = 3 then none else some (m - fine)) else some m by
        show (match wthTo d ⟨⟨xa, xb⟩, ⟨ya, yb⟩, ⟨za, zb⟩⟩ fine n k with | none => none | some m => if touches (rd_Dft d k).box ⟨⟨xa, xb⟩, ⟨ya, yb⟩, ⟨za, zb⟩⟩ then (if (rd_Dft d k).kind = 3 then none else some (m - fine)) else some m) = _
        rw [HA.out])
      rcases ht : touches ⟨⟨(rd_Dft d k).box.x.a, (rd_Dft d k).box.x.b⟩, ⟨(rd_Dft d k).box.y.a, (rd_Dft d k).box.y.b⟩, ⟨(rd_Dft d k).box.z.a, (rd_Dft d k).box.z.b⟩⟩ ⟨⟨xa, xb⟩, ⟨ya, yb⟩, ⟨za, zb⟩⟩ with _ | _
      · have HT1 := Aside0.mk (show wthTo d ⟨⟨xa, xb⟩, ⟨ya, yb⟩, ⟨za, zb⟩⟩ fine n (k + 1) = some m by rw [HT.out, ht]; exact if_neg (by simp))
        clear HT
        go_wp2_with fail
        refine (touches_calls _ _ _ _ _ _ _ _ _ _ _ _ _ _).mono ?_
        rintro e w3 ⟨rfl, hb1⟩
        obtain ⟨hB1, hb2⟩ := adv HB.out hb1
        replace HK := Aside0.mk (blk_below HK.out hb2)
        replace HZ := Aside0.mk (blk_below HZ.out hb2)
        have hx : w3.heap[wr.heap.size]? = some (.cells #[.int .i64 (rd_Dft d k).kind, .int .i64 (rd_Dft d k).box.x.a, .int .i64 (rd_Dft d k).box.x.b, .int .i64 (rd_Dft d k).box.y.a, .int .i64 (rd_Dft d k).box.y.b, .int .i64 (rd_Dft d k).box.z.a, .int .i64 (rd_Dft d k).box.z.b] 59 (0, 0)) := blk_below (by repeat (first | exact blk_newi _ (by simp) | refine blk_drewN ?_ _ | refine blk_drew ?_ | refine blk_alloc ?_ _)) hb1
        have hx_0 : w3.cell? ⟨wr.heap.size, 0, none⟩ = some (.int .i64 (rd_Dft d k).kind) := (blk_cell hx 0).trans rfl
        have hx_1 : w3.cell? ⟨wr.heap.size, 1, none⟩ = some (.int .i64 (rd_Dft d k).box.x.a) := (blk_cell hx 1).trans rfl
        have hx_2 : w3.cell? ⟨wr.heap.size, 2, none⟩ = some (.int .i64 (rd_Dft d k).box.x.b) := (blk_cell hx 2).trans rfl
        have hx_3 : w3.cell? ⟨wr.heap.size, 3, none⟩ = some (.int .i64 (rd_Dft d k).box.y.a) := (blk_cell hx 3).trans rfl
        have hx_4 : w3.cell? ⟨wr.heap.size, 4, none⟩ = some (.int .i64 (rd_Dft d k).box.y.b) := (blk_cell hx 4).trans rfl
        have hx_5 : w3.cell? ⟨wr.heap.size, 5, none⟩ = some (.int .i64 (rd_Dft d k).box.z.a) := (blk_cell hx 5).trans rfl
        have hx_6 : w3.cell? ⟨wr.heap.size, 6, none⟩ = some (.int .i64 (rd_Dft d k).box.z.b) := (blk_cell hx 6).trans rfl
        replace hx := Aside0.mk hx
        replace HB := Aside0.mk hB1
        clear hb1 hB1 hb2
        rw [ht]
        clear ht
        go_wp2
        go_roundw
        case rel => exact ⟨k + 1, m, by omega, rfl, by go_num, HT1, m1, by omega, HB, HK, HZ⟩
        case measure => simp [intOf]; omega
      · have HT1 := Aside0.mk (show wthTo d ⟨⟨xa, xb⟩, ⟨ya, yb⟩, ⟨za, zb⟩⟩ fine n (k + 1) = if (rd_Dft d k).kind = 3 then none else some (m - fine) by rw [HT.out, ht]; exact if_pos rfl)
        clear HT
        go_wp2_with fail
        refine (touches_calls _ _ _ _ _ _ _ _ _ _ _ _ _ _).mono ?_
        rintro e w3 ⟨rfl, hb1⟩
        obtain ⟨hB1, hb2⟩ := adv HB.out hb1
        replace HK := Aside0.mk (blk_below HK.out hb2)
        replace HZ := Aside0.mk (blk_below HZ.out hb2)
        have hx : w3.heap[wr.heap.size]? = some (.cells #[.int .i64 (rd_Dft d k).kind, .int .i64 (rd_Dft d k).box.x.a, .int .i64 (rd_Dft d k).box.x.b, .int .i64 (rd_Dft d k).box.y.a, .int .i64 (rd_Dft d k).box.y.b, .int .i64 (rd_Dft d k).box.z.a, .int .i64 (rd_Dft d k).box.z.b] 59 (0, 0)) := blk_below (by repeat (first | exact blk_newi _ (by simp) | refine blk_drewN ?_ _ | refine blk_drew ?_ | refine blk_alloc ?_ _)) hb1
        have hx_0 : w3.cell? ⟨wr.heap.size, 0, none⟩ = some (.int .i64 (rd_Dft d k).kind) := (blk_cell hx 0).trans rfl
        have hx_1 : w3.cell? ⟨wr.heap.size, 1, none⟩ = some (.int .i64 (rd_Dft d k).box.x.a) := (blk_cell hx 1).trans rfl
        have hx_2 : w3.cell? ⟨wr.heap.size, 2, none⟩ = some (.int .i64 (rd_Dft d k).box.x.b) := (blk_cell hx 2).trans rfl
        have hx_3 : w3.cell? ⟨wr.heap.size, 3, none⟩ = some (.int .i64 (rd_Dft d k).box.y.a) := (blk_cell hx 3).trans rfl
        have hx_4 : w3.cell? ⟨wr.heap.size, 4, none⟩ = some (.int .i64 (rd_Dft d k).box.y.b) := (blk_cell hx 4).trans rfl
        have hx_5 : w3.cell? ⟨wr.heap.size, 5, none⟩ = some (.int .i64 (rd_Dft d k).box.z.a) := (blk_cell hx 5).trans rfl
        have hx_6 : w3.cell? ⟨wr.heap.size, 6, none⟩ = some (.int .i64 (rd_Dft d k).box.z.b) := (blk_cell hx 6).trans rfl
        replace hx := Aside0.mk hx
        replace HB := Aside0.mk hB1
        clear hb1 hB1 hb2
        rw [ht]
        clear ht
        by_cases hkd : (rd_Dft d k).kind = 3
        · have H3 := Aside0.mk (show R = none by rw [H2.out, wthTo_none (HT1.out.trans (if_pos hkd)) (by omega)]; rfl)
          have hkd1 : ((rd_Dft d k).kind == 3) = true := beq_iff_eq.2 hkd
          go_wp2
          go_ret2
          exact ⟨by rw [H3.out]; rfl, HB.out⟩
        · have HT2 := Aside0.mk (HT1.out.trans (if_neg hkd))
          have hkd1 : ((rd_Dft d k).kind == 3) = false := beq_eq_false_iff_ne.2 hkd
          clear hkd
          go_wp2
          go_roundw
          case rel => exact ⟨k + 1, m - fine, by omega, rfl, by go_num, HT2, by omega, by omega, HB, HK, HZ⟩
          case measure => simp [intOf]; omega
    · obtain rfl : k = d.length := by omega
      by_cases g : 0 < m
      · have H3 := Aside0.mk (show R = some m by rw [H2.out, HA.out]; show some (mxi 0 m) = _; rw [mxi, if_pos g])
        go_wp2
        go_ret2
        exact ⟨by rw [H3.out]; rfl, HB.out⟩
      · have H3 := Aside0.mk (show R = some 0 by rw [H2.out, HA.out]; show some (mxi 0 m) = _; rw [mxi, if_neg g])
        go_wp2
        go_ret2
        exact ⟨by rw [H3.out]; rfl, HB.out⟩
end Go.Proofs.YtngpoonjonojhaaDoor
