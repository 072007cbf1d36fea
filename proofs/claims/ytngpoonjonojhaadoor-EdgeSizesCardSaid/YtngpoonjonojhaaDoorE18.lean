/- Walks: the value of a board at a position. -/
import Derived.Test.YtngpoonjonojhaaDoorE15
import Derived.Test.YtngpoonjonojhaaDoorE17
import Derived.Deep.RegionHeld3
set_option linter.all false
namespace Go.Proofs.YtngpoonjonojhaaDoor
open Go.RowKit Go.Proofs.YtngpoonjonojhaaDoorW.PrintWords Go.Proofs.YtngpoonjonojhaaDoorW.PrintLast
set_option linter.unusedVariables false

theorem mostAll_lworth {d : List Dft} {p : Prod} {r : Rect} {len : Int} {ends wane : List Int} {z : Sp} {fine v : Int} (hp : ∀ i, 0 ≤ rdI p.prices i ∧ rdI p.prices i ≤ 1000000) (hf : 0 ≤ fine) (h : worthK d p r len ends wane z fine = some v) : 0 ≤ z.a ∧ z.a < z.b ∧ z.b ≤ len ∧ 0 ≤ v ∧ v ≤ 1000000 := by
  unfold worthK at h
  split at h
  · cases h
  · rename_i h0
    split at h
    · cases h
    · rename_i n hn
      have hn1 := price_bound (fun i => hp i) hn
      split at h
      · cases h
      · have up : ∀ k m, wthTo d ⟨r.x, r.y, z⟩ fine n k = some m → m ≤ 1000000 := by
          intro k
          induction k with
          | zero => intro m e; have e2 : n = m := by simpa [wthTo] using e
                    omega
          | succ k ih =>
            intro m e
            simp only [wthTo] at e
            cases e1 : wthTo d ⟨r.x, r.y, z⟩ fine n k with
            | none => rw [e1] at e; cases e
            | some q =>
              rw [e1] at e
              have := ih q e1
              dsimp only at e
              split at e
              · split at e
                · cases e
                · have e2 : q - fine = m := by simpa using e
                  omega
              · have e2 : q = m := by simpa using e
                omega
        cases e1 : wthTo d ⟨r.x, r.y, z⟩ fine n d.length with
        | none => rw [e1] at h; cases h
        | some m =>
          rw [e1] at h
          have e2 : mxi 0 m = v := by simpa using h
          have := up _ _ e1
          subst e2
          unfold mxi
          split <;> omega
def okChoice (len : Int) (b : Option (Sp × Int)) : Prop := ∀ z v, b = some (z, v) → 0 ≤ z.a ∧ z.a < z.b ∧ z.b ≤ len ∧ 0 ≤ v ∧ v ≤ 1000000
theorem better_ok {len : Int} {b : Option (Sp × Int)} {z : Sp} {v : Option Int} (hb : okChoice len b) (hv : ∀ x, v = some x → 0 ≤ z.a ∧ z.a < z.b ∧ z.b ≤ len ∧ 0 ≤ x ∧ x ≤ 1000000) : okChoice len (better b z v) := by
  rcases v with _ | v
  · exact hb
  · rcases b with _ | ⟨s, x⟩
    · intro z' v' e
      have e1 : (z, v) = (z', v') := Option.some.inj e
      cases e1
      exact hv v rfl
    · intro z' v' e
      have e0 : (if x < v then some (z, v) else some (s, x)) = some (z', v') := e
      split at e0
      · have e1 : (z, v) = (z', v') := Option.some.inj e0
        cases e1
        exact hv v rfl
      · have e1 : (s, x) = (z', v') := Option.some.inj e0
        cases e1
        exact hb s x rfl
theorem bestOf_ok {l : List Slc} {d : List Dft} {p : Prod} {r : Rect} {step fine : Int} : okChoice (solLen l) (bestOf l d p r step fine) := by
  unfold bestOf
  split
  · rename_i h
    simp only [Bool.and_eq_true, decide_eq_true_eq] at h
    have la := lookOk_all h.1
    have hW : ∀ z x, worthK d p r (solLen l) (endsTo l l.length) (wanesTo l r l.length) z fine = some x → 0 ≤ z.a ∧ z.a < z.b ∧ z.b ≤ solLen l ∧ 0 ≤ x ∧ x ≤ 1000000 := fun z x e => mostAll_lworth la.2.2.2.1 h.2.2.1 e
    have inn : ∀ (W : Sp → Option Int) (hW : ∀ z x, W z = some x → 0 ≤ z.a ∧ z.a < z.b ∧ z.b ≤ solLen l ∧ 0 ≤ x ∧ x ≤ 1000000) (pos : Int) (b : Option (Sp × Int)), okChoice (solLen l) b → ∀ j, okChoice (solLen l) (bestIn W p.lengths pos b j) := by
      intro W hW pos b hb j
      induction j with
      | zero => exact hb
      | succ j ih => exact better_ok ih (fun x e => hW _ x e)
    have all : ∀ k, okChoice (solLen l) (bestTo (fun z => worthK d p r (solLen l) (endsTo l l.length) (wanesTo l r l.length) z fine) p.lengths step k) := by
      intro k
      induction k with
      | zero => intro z v e; cases e
      | succ k ih => exact inn _ hW _ _ ih _
    exact all _
  · intro z v e; cases e
set_option maxHeartbeats 4000000 in
set_option maxRecDepth 100000 in
theorem gain_calls (A : Option Addr) (c : Nat) (l : List Slc) (A' : Option Addr) (c' : Nat) (d : List Dft) (p : Prod) (A5 : Option Addr) (c5 : Nat) (A6 : Option Addr) (c6 : Nat) (xa xb ya yb kerf trim pitch step chip dust fine pos width : Int)
    (x1 : -600 ≤ xa) (x2 : xa ≤ 600) (m1 : 0 ≤ trim) (m2 : trim ≤ 20) (m3 : 1 ≤ pitch) (t1 : 0 ≤ chip) (t2 : chip ≤ 1000) (t3 : 0 ≤ dust) (t4 : dust ≤ 1000) (q1 : 0 ≤ pos) (q2 : pos ≤ 2000) (q3 : 0 ≤ width) (q4 : width ≤ 2000) (w : World)
    (hl : Kd.C kSlc w A l.length l) (hd : Kd.C kDft w A' d.length d) (hn : p.name.size ≤ 9223372036854775807) (l5 : p.lengths.length ≤ c5) (h5 : Kd.C (Kd.int .i64) w A5 p.lengths.length p.lengths) (l6 : p.prices.length ≤ c6) (h6 : Kd.C (Kd.int .i64) w A6 p.prices.length p.prices) :
    Calls Tryd.prog 61 #[.agg #[.slice A l.length c, .slice A' d.length c', .int .i64 xa, .int .i64 xb, .int .i64 ya, .int .i64 yb, .int .i64 kerf, .int .i64 trim, .int .i64 pitch, .int .i64 step, .int .i64 chip, .int .i64 dust, .int .i64 fine, .int .i64 (solLen l)], .agg #[.string p.name, .int .i64 p.thick, .int .i64 p.width, .int .i64 p.allow, .int .i64 p.wane, .slice A5 p.lengths.length c5, .slice A6 p.prices.length c6], .int .i64 pos, .int .i64 width] w fun e w' => e = .returned (.int .i64 (gainOf l d p ⟨⟨xa, xb⟩, ⟨ya, yb⟩⟩ ⟨kerf, trim, pitch, step⟩ ⟨chip, dust, fine⟩ pos width)) ∧ Below w.heap.size w w' := by
  have HB := Aside0.mk (Below.refl w.heap.size w)
  have HL := Aside0.mk hl
  have HD := Aside0.mk hd
  have HN := Aside0.mk hn
  have H5 := Aside0.mk h5
  have H6 := Aside0.mk h6
  have HL5 := Aside0.mk l5
  have HL6 := Aside0.mk l6
  clear hl hd hn h5 h6 l5 l6
  obtain ⟨R, hR⟩ : ∃ R, R = gainOf l d p ⟨⟨xa, xb⟩, ⟨ya, yb⟩⟩ ⟨kerf, trim, pitch, step⟩ ⟨chip, dust, fine⟩ pos width := ⟨_, rfl⟩
  rw [← hR]
  have HR := Aside0.mk hR
  clear hR
  by_cases h0 : pos % pitch = 0
  rotate_left
  · have HF := Aside0.mk (HR.out.trans (if_pos h0))
    have hb : (pos % pitch != 0) = true := bne_iff_ne.2 h0
    clear h0
    go_enter Tryd.func61, Tryd.ntmps61
    go_wp2_with fail
    go_ret
    exact ⟨ri HF.out.symm, BB⟩
  have HF := Aside0.mk (HR.out.trans (if_neg (fun h => h h0)))
  have hb : (pos % pitch != 0) = false := bne_eq_false_iff_eq.2 h0
  clear h0 HR
  go_enter Tryd.func61, Tryd.ntmps61
  go_wp2_with fail
  refine (part_calls _ _ _ _ _ _ _ _ _ _ _ _ _ _ _ _ rfl rfl x1 x2 q1 (by omega) (by omega) (by omega) _).mono ?_
  rintro e w1 ⟨rfl, hb1⟩
  obtain ⟨hB1, hb2⟩ := adv HB.out hb1
  have hs : w1.heap[w.heap.size]? = some (.cells #[.slice A l.length c, .slice A' d.length c', .int .i64 xa, .int .i64 xb, .int .i64 ya, .int .i64 yb, .int .i64 kerf, .int .i64 trim, .int .i64 pitch, .int .i64 step, .int .i64 chip, .int .i64 dust, .int .i64 fine, .int .i64 (solLen l)] 137 (0, 0)) := blk_below (by repeat (first | exact blk_newi _ (by simp) | refine blk_drewN ?_ _ | refine blk_drew ?_ | refine blk_alloc ?_ _)) hb1
  have hs_0 : w1.cell? ⟨w.heap.size, 0, none⟩ = some (.slice A l.length c) := (blk_cell hs 0).trans rfl
  have hs_1 : w1.cell? ⟨w.heap.size, 1, none⟩ = some (.slice A' d.length c') := (blk_cell hs 1).trans rfl
  have hs_2 : w1.cell? ⟨w.heap.size, 2, none⟩ = some (.int .i64 xa) := (blk_cell hs 2).trans rfl
  have hs_3 : w1.cell? ⟨w.heap.size, 3, none⟩ = some (.int .i64 xb) := (blk_cell hs 3).trans rfl
  have hs_4 : w1.cell? ⟨w.heap.size, 4, none⟩ = some (.int .i64 ya) := (blk_cell hs 4).trans rfl
  have hs_5 : w1.cell? ⟨w.heap.size, 5, none⟩ = some (.int .i64 yb) := (blk_cell hs 5).trans rfl
  have hs_6 : w1.cell? ⟨w.heap.size, 6, none⟩ = some (.int .i64 kerf) := (blk_cell hs 6).trans rfl
  have hs_7 : w1.cell? ⟨w.heap.size, 7, none⟩ = some (.int .i64 trim) := (blk_cell hs 7).trans rfl
  have hs_8 : w1.cell? ⟨w.heap.size, 8, none⟩ = some (.int .i64 pitch) := (blk_cell hs 8).trans rfl
  have hs_9 : w1.cell? ⟨w.heap.size, 9, none⟩ = some (.int .i64 step) := (blk_cell hs 9).trans rfl
  have hs_10 : w1.cell? ⟨w.heap.size, 10, none⟩ = some (.int .i64 chip) := (blk_cell hs 10).trans rfl
  have hs_11 : w1.cell? ⟨w.heap.size, 11, none⟩ = some (.int .i64 dust) := (blk_cell hs 11).trans rfl
  have hs_12 : w1.cell? ⟨w.heap.size, 12, none⟩ = some (.int .i64 fine) := (blk_cell hs 12).trans rfl
  have hs_13 : w1.cell? ⟨w.heap.size, 13, none⟩ = some (.int .i64 (solLen l)) := (blk_cell hs 13).trans rfl
  replace hs := Aside0.mk hs
  have hp : w1.heap[w.heap.size + 1]? = some (.cells #[.string p.name, .int .i64 p.thick, .int .i64 p.width, .int .i64 p.allow, .int .i64 p.wane, .slice A5 p.lengths.length c5, .slice A6 p.prices.length c6] 43 (0, 0)) := blk_below (by repeat (first | exact blk_newi _ (by simp) | refine blk_drewN ?_ _ | refine blk_drew ?_ | refine blk_alloc ?_ _)) hb1
  have hp_0 : w1.cell? ⟨w.heap.size + 1, 0, none⟩ = some (.string p.name) := (blk_cell hp 0).trans rfl
  have hp_1 : w1.cell? ⟨w.heap.size + 1, 1, none⟩ = some (.int .i64 p.thick) := (blk_cell hp 1).trans rfl
  have hp_2 : w1.cell? ⟨w.heap.size + 1, 2, none⟩ = some (.int .i64 p.width) := (blk_cell hp 2).trans rfl
  have hp_3 : w1.cell? ⟨w.heap.size + 1, 3, none⟩ = some (.int .i64 p.allow) := (blk_cell hp 3).trans rfl
  have hp_4 : w1.cell? ⟨w.heap.size + 1, 4, none⟩ = some (.int .i64 p.wane) := (blk_cell hp 4).trans rfl
  have hp_5 : w1.cell? ⟨w.heap.size + 1, 5, none⟩ = some (.slice A5 p.lengths.length c5) := (blk_cell hp 5).trans rfl
  have hp_6 : w1.cell? ⟨w.heap.size + 1, 6, none⟩ = some (.slice A6 p.prices.length c6) := (blk_cell hp 6).trans rfl
  replace hp := Aside0.mk hp
  have hlt : w.heap.size + 1 < w1.heap.size := by have hq_ := hb1.size; simp at hq_; omega
  replace HB := Aside0.mk hB1
  clear hb1 hB1 hb2
  clear hb
  obtain ⟨W2, hW2⟩ : ∃ W2, W2 = w1.alloc (.cells #[.int .i64 (xa + pos), .int .i64 (xa + (pos + width)), .int .i64 ya, .int .i64 yb] 35) := ⟨_, rfl⟩
  go_upto_region 4 with (fail)
  rw [← hW2]
  have HR2 := Aside0.mk (show W2.heap[w1.heap.size]? = some (.cells #[.int .i64 (xa + pos), .int .i64 (xa + (pos + width)), .int .i64 ya, .int .i64 yb] 35 (0, 0)) by rw [hW2]; exact blk_new _ _)
  have HS2 := Aside0.mk (show W2.heap[w.heap.size]? = some (.cells #[.slice A l.length c, .slice A' d.length c', .int .i64 xa, .int .i64 xb, .int .i64 ya, .int .i64 yb, .int .i64 kerf, .int .i64 trim, .int .i64 pitch, .int .i64 step, .int .i64 chip, .int .i64 dust, .int .i64 fine, .int .i64 (solLen l)] 137 (0, 0)) by rw [hW2]; exact blk_alloc hs.out _)
  have HP2 := Aside0.mk (show W2.heap[w.heap.size + 1]? = some (.cells #[.string p.name, .int .i64 p.thick, .int .i64 p.width, .int .i64 p.allow, .int .i64 p.wane, .slice A5 p.lengths.length c5, .slice A6 p.prices.length c6] 43 (0, 0)) by rw [hW2]; exact blk_alloc hp.out _)
  have HB2 := Aside0.mk (show Below w.heap.size w W2 by rw [hW2]; exact below_alloc HB.out _)
  have hgr : w.heap.size + 1 < w1.heap.size := hlt
  clear hW2 HB hs hp hs_0 hs_1 hs_2 hs_3 hs_4 hs_5 hs_6 hs_7 hs_8 hs_9 hs_10 hs_11 hs_12 hs_13 hp_0 hp_1 hp_2 hp_3 hp_4 hp_5 hp_6 hlt
  generalize w1.heap.size = gr at *
  have hs0 : W2.cell? ⟨w.heap.size, 0, none⟩ = some (.slice A l.length c) := (blk_cell HS2.out 0).trans rfl
  have hs1 : W2.cell? ⟨w.heap.size, 1, none⟩ = some (.slice A' d.length c') := (blk_cell HS2.out 1).trans rfl
  have hs2 : W2.cell? ⟨w.heap.size, 2, none⟩ = some (.int .i64 xa) := (blk_cell HS2.out 2).trans rfl
  have hs3 : W2.cell? ⟨w.heap.size, 3, none⟩ = some (.int .i64 xb) := (blk_cell HS2.out 3).trans rfl
  have hs4 : W2.cell? ⟨w.heap.size, 4, none⟩ = some (.int .i64 ya) := (blk_cell HS2.out 4).trans rfl
  have hs5 : W2.cell? ⟨w.heap.size, 5, none⟩ = some (.int .i64 yb) := (blk_cell HS2.out 5).trans rfl
  have hs6 : W2.cell? ⟨w.heap.size, 6, none⟩ = some (.int .i64 kerf) := (blk_cell HS2.out 6).trans rfl
  have hs7 : W2.cell? ⟨w.heap.size, 7, none⟩ = some (.int .i64 trim) := (blk_cell HS2.out 7).trans rfl
  have hs8 : W2.cell? ⟨w.heap.size, 8, none⟩ = some (.int .i64 pitch) := (blk_cell HS2.out 8).trans rfl
  have hs9 : W2.cell? ⟨w.heap.size, 9, none⟩ = some (.int .i64 step) := (blk_cell HS2.out 9).trans rfl
  have hs10 : W2.cell? ⟨w.heap.size, 10, none⟩ = some (.int .i64 chip) := (blk_cell HS2.out 10).trans rfl
  have hs11 : W2.cell? ⟨w.heap.size, 11, none⟩ = some (.int .i64 dust) := (blk_cell HS2.out 11).trans rfl
  have hs12 : W2.cell? ⟨w.heap.size, 12, none⟩ = some (.int .i64 fine) := (blk_cell HS2.out 12).trans rfl
  have hs13 : W2.cell? ⟨w.heap.size, 13, none⟩ = some (.int .i64 (solLen l)) := (blk_cell HS2.out 13).trans rfl
  have hp0 : W2.cell? ⟨w.heap.size + 1, 0, none⟩ = some (.string p.name) := (blk_cell HP2.out 0).trans rfl
  have hp1 : W2.cell? ⟨w.heap.size + 1, 1, none⟩ = some (.int .i64 p.thick) := (blk_cell HP2.out 1).trans rfl
  have hp2 : W2.cell? ⟨w.heap.size + 1, 2, none⟩ = some (.int .i64 p.width) := (blk_cell HP2.out 2).trans rfl
  have hp3 : W2.cell? ⟨w.heap.size + 1, 3, none⟩ = some (.int .i64 p.allow) := (blk_cell HP2.out 3).trans rfl
  have hp4 : W2.cell? ⟨w.heap.size + 1, 4, none⟩ = some (.int .i64 p.wane) := (blk_cell HP2.out 4).trans rfl
  have hp5 : W2.cell? ⟨w.heap.size + 1, 5, none⟩ = some (.slice A5 p.lengths.length c5) := (blk_cell HP2.out 5).trans rfl
  have hp6 : W2.cell? ⟨w.heap.size + 1, 6, none⟩ = some (.slice A6 p.prices.length c6) := (blk_cell HP2.out 6).trans rfl
  have hr0 : W2.cell? ⟨gr, 0, none⟩ = some (.int .i64 (xa + pos)) := (blk_cell HR2.out 0).trans rfl
  have hr1 : W2.cell? ⟨gr, 1, none⟩ = some (.int .i64 (xa + (pos + width))) := (blk_cell HR2.out 1).trans rfl
  have hr2 : W2.cell? ⟨gr, 2, none⟩ = some (.int .i64 ya) := (blk_cell HR2.out 2).trans rfl
  have hr3 : W2.cell? ⟨gr, 3, none⟩ = some (.int .i64 yb) := (blk_cell HR2.out 3).trans rfl
  go_wp2_with fail
  refine (wbest_calls _ _ l _ _ d p _ _ _ _ ⟨⟨xa + pos, xa + (pos + width)⟩, ⟨ya, yb⟩⟩ _ _ _ ?c1 ?c2 HN.out HL5.out ?c3 HL6.out ?c4).mono ?_
  case c1 => exact Kd.C_below HL.out HB2.out
  case c2 => exact Kd.C_below HD.out HB2.out
  case c3 => exact Kd.C_below H5.out HB2.out
  case c4 => exact Kd.C_below H6.out HB2.out
  rintro e w3 ⟨rfl, hb1⟩
  have HS3 := Aside0.mk (blk_below HS2.out hb1)
  have HR3 := Aside0.mk (blk_below HR2.out hb1)
  have HB3 := Aside0.mk (below_then HB2.out HB2.out.size hb1)
  have hgr3 : gr < w3.heap.size := blk_lt HR3.out
  have hsz3 : w.heap.size < w3.heap.size := blk_lt HS3.out
  clear hb1 HS2 HR2 HP2 HB2 hs0 hs1 hs2 hs3 hs4 hs5 hs6 hs7 hs8 hs9 hs10 hs11 hs12 hs13 hp0 hp1 hp2 hp3 hp4 hp5 hp6 hr0 hr1 hr2 hr3
  have OK := Aside0.mk (bestOf_ok (l := l) (d := d) (p := p) (r := ⟨⟨xa + pos, xa + (pos + width)⟩, ⟨ya, yb⟩⟩) (step := step) (fine := fine))
  have HF1 := Aside0.mk (show R = (match bestOf l d p ⟨⟨xa + pos, xa + (pos + width)⟩, ⟨ya, yb⟩⟩ step fine with | none => -1 | some (z, pts) => gainPts l ⟨⟨xa + pos, xa + (pos + width)⟩, ⟨ya, yb⟩⟩ ⟨kerf, trim, pitch, step⟩ ⟨chip, dust, fine⟩ z pts) from HF.out)
  clear HF
  generalize bestOf l d p ⟨⟨xa + pos, xa + (pos + width)⟩, ⟨ya, yb⟩⟩ step fine = b at *
  rcases b with _ | ⟨⟨za, zb⟩, v⟩
  · have H1 := Aside0.mk (show R = -1 from HF1.out)
    dsimp only [bA, bB, bV, Option.isSome_none]
    go_wp2_with fail
    go_ret
    exact ⟨ri H1.out.symm, by have h := HB3.out; exact BB⟩
  have H1 := Aside0.mk (show R = gainPts l ⟨⟨xa + pos, xa + (pos + width)⟩, ⟨ya, yb⟩⟩ ⟨kerf, trim, pitch, step⟩ ⟨chip, dust, fine⟩ ⟨za, zb⟩ v from HF1.out)
  have ok := OK.out ⟨za, zb⟩ v rfl
  obtain ⟨k1, k2, k3, k4, k5⟩ := ok
  have sl := solLen_bound l
  obtain ⟨sl1, sl2⟩ := sl
  clear HF1 OK
  dsimp only [bA, bB, bV, Option.isSome_some] at k1 k2 k3 k4 k5 ⊢
  have hs0 : w3.cell? ⟨w.heap.size, 0, none⟩ = some (.slice A l.length c) := (blk_cell HS3.out 0).trans rfl
  have hs1 : w3.cell? ⟨w.heap.size, 1, none⟩ = some (.slice A' d.length c') := (blk_cell HS3.out 1).trans rfl
  have hs2 : w3.cell? ⟨w.heap.size, 2, none⟩ = some (.int .i64 xa) := (blk_cell HS3.out 2).trans rfl
  have hs3 : w3.cell? ⟨w.heap.size, 3, none⟩ = some (.int .i64 xb) := (blk_cell HS3.out 3).trans rfl
  have hs4 : w3.cell? ⟨w.heap.size, 4, none⟩ = some (.int .i64 ya) := (blk_cell HS3.out 4).trans rfl
  have hs5 : w3.cell? ⟨w.heap.size, 5, none⟩ = some (.int .i64 yb) := (blk_cell HS3.out 5).trans rfl
  have hs6 : w3.cell? ⟨w.heap.size, 6, none⟩ = some (.int .i64 kerf) := (blk_cell HS3.out 6).trans rfl
  have hs7 : w3.cell? ⟨w.heap.size, 7, none⟩ = some (.int .i64 trim) := (blk_cell HS3.out 7).trans rfl
  have hs8 : w3.cell? ⟨w.heap.size, 8, none⟩ = some (.int .i64 pitch) := (blk_cell HS3.out 8).trans rfl
  have hs9 : w3.cell? ⟨w.heap.size, 9, none⟩ = some (.int .i64 step) := (blk_cell HS3.out 9).trans rfl
  have hs10 : w3.cell? ⟨w.heap.size, 10, none⟩ = some (.int .i64 chip) := (blk_cell HS3.out 10).trans rfl
  have hs11 : w3.cell? ⟨w.heap.size, 11, none⟩ = some (.int .i64 dust) := (blk_cell HS3.out 11).trans rfl
  have hs12 : w3.cell? ⟨w.heap.size, 12, none⟩ = some (.int .i64 fine) := (blk_cell HS3.out 12).trans rfl
  have hs13 : w3.cell? ⟨w.heap.size, 13, none⟩ = some (.int .i64 (solLen l)) := (blk_cell HS3.out 13).trans rfl
  obtain ⟨fr, hfr⟩ : ∃ fr, fr = mxi 0 (za - trim) := ⟨_, rfl⟩
  obtain ⟨bk, hbk⟩ : ∃ bk, bk = mni (zb + trim) (solLen l) := ⟨_, rfl⟩
  have H2 := Aside0.mk (show R = 1000000 * v + dust * (volOf l ⟨⟨xa + pos, xa + (pos + width)⟩, ⟨ya, yb⟩⟩ ⟨fr, za⟩ + volOf l ⟨⟨xa + pos, xa + (pos + width)⟩, ⟨ya, yb⟩⟩ ⟨zb, bk⟩) + chip * (volOf l ⟨⟨xa + pos, xa + (pos + width)⟩, ⟨ya, yb⟩⟩ ⟨0, solLen l⟩ - volOf l ⟨⟨xa + pos, xa + (pos + width)⟩, ⟨ya, yb⟩⟩ ⟨za, zb⟩ - (volOf l ⟨⟨xa + pos, xa + (pos + width)⟩, ⟨ya, yb⟩⟩ ⟨fr, za⟩ + volOf l ⟨⟨xa + pos, xa + (pos + width)⟩, ⟨ya, yb⟩⟩ ⟨zb, bk⟩)) by rw [H1.out, hfr, hbk]; rfl)
  clear H1
  have e1 : (0 < za - trim ∧ fr = za - trim) ∨ (za - trim ≤ 0 ∧ fr = 0) := by
    rw [hfr]; unfold mxi
    by_cases g : 0 < za - trim
    · exact Or.inl ⟨g, if_pos g⟩
    · exact Or.inr ⟨by omega, if_neg g⟩
  have e2 : (solLen l < zb + trim ∧ bk = solLen l) ∨ (zb + trim ≤ solLen l ∧ bk = zb + trim) := by
    rw [hbk]; unfold mni
    by_cases g : solLen l < zb + trim
    · exact Or.inl ⟨g, if_pos g⟩
    · exact Or.inr ⟨by omega, if_neg g⟩
  clear hfr hbk
  rcases e1 with ⟨e1, rfl⟩ | ⟨e1, rfl⟩ <;> rcases e2 with ⟨e2, rfl⟩ | ⟨e2, rfl⟩
  all_goals go_upto_region 9 with (fail)
  all_goals refine gain_tail A c l A' d.length c' xa xb ya yb kerf trim pitch step chip dust fine _ _ _ _ _ _ _ _ _ w.heap.size gr _ _ _ t1 t2 t3 t4 k4 k5 w _ HL ?_ ?_ ?_ ?_ ?_ ?_ _ H2.out _ _ _ _ _ _ _ _ _ _ _ _ _ _ _ _ _ _ _ _ _ _ _ _ _ _ _ _ _ _ _ _ _ _ _ _ _ _ _ _ _ _ _ _ _ _ _ _ _ _ _ _ _ _ _ _ _ _ _ _ _ _ _ _ _ _ _ _ _ _ _ _ _ _ _ _ _ _ _ _ _ _ _ _ _ _ _ _ _ _ _ _ _ _ _ _ _ _ _ _ ?_
  all_goals first | assumption | (refine ⟨?_⟩; have h := HS3.out; have h2 := HR3.out; (repeat (first | exact h | exact h2 | (with_reducible refine blk_newi _ ?_; simp; done) | refine blk_alloc ?_ _)); done) | (refine ⟨?_⟩; have h := HB3.out; (repeat (with_reducible first | exact h | apply below_alloc)); done)
end Go.Proofs.YtngpoonjonojhaaDoor
