/- Walks: defects touch boxes. -/
import Derived.Test.YtngpoonjonojhaaDoorE04
import Derived.Deep.RegionHeld3
set_option linter.all false
namespace Go.Proofs.YtngpoonjonojhaaDoor
open Go.RowKit Go.Proofs.YtngpoonjonojhaaDoorW.PrintWords Go.Proofs.YtngpoonjonojhaaDoorW.PrintLast
set_option linter.unusedVariables false

theorem bcell {W w1 : World} (hb : Below W.heap.size W w1) : (∀ b o, b < W.heap.size → w1.cell? ⟨b, o, none⟩ = W.cell? ⟨b, o, none⟩) ∧ (∀ b o, b < W.heap.size → w1.frozen? ⟨b, o, none⟩ = W.frozen? ⟨b, o, none⟩) :=
  ⟨fun b o h => hb.cell (p := ⟨b, o, none⟩) h, fun b o h => hb.frozen (p := ⟨b, o, none⟩) h⟩

theorem axes_exact (a b c d e f : Int) (w : World) :
    Calls Tryd.prog 103 #[.agg #[.int .i64 a, .int .i64 b, .int .i64 c, .int .i64 d, .int .i64 e, .int .i64 f]] w fun x w' => ∃ o o', x = .returned (.agg #[.int .i64 a, .int .i64 b, .int .i64 c, .int .i64 d, .int .i64 e, .int .i64 f]) ∧ w' = (w.alloc o).alloc o' := by
  go_enter Tryd.func103, Tryd.ntmps103
  go_wp2
  all_goals refine bodyPost_ret (by simp [results, Tryd.results103, go_sem]; rfl) rfl ⟨_, _, ?_, rfl⟩
  all_goals rfl
theorem boxOf_calls (a b c d e f : Int) (w : World) :
    Calls Tryd.prog 112 #[.agg #[.int .i64 a, .int .i64 b, .int .i64 c, .int .i64 d, .int .i64 e, .int .i64 f]] w fun x w' => x = .returned (.agg #[.int .i64 a, .int .i64 b, .int .i64 c, .int .i64 d, .int .i64 e, .int .i64 f]) ∧ Below w.heap.size w w' := by
  have i0 : ∀ w, (Instr.index 185 (.agg #[.int .i64 a, .int .i64 b, .int .i64 c, .int .i64 d, .int .i64 e, .int .i64 f]) (.int .i64 0)).run Tryd.prog w = .ok (.agg #[.int .i64 a, .int .i64 b]) w := fun _ => by kernel_rfl
  have i1 : ∀ w, (Instr.index 185 (.agg #[.int .i64 a, .int .i64 b, .int .i64 c, .int .i64 d, .int .i64 e, .int .i64 f]) (.int .i64 1)).run Tryd.prog w = .ok (.agg #[.int .i64 c, .int .i64 d]) w := fun _ => by kernel_rfl
  have i2 : ∀ w, (Instr.index 185 (.agg #[.int .i64 a, .int .i64 b, .int .i64 c, .int .i64 d, .int .i64 e, .int .i64 f]) (.int .i64 2)).run Tryd.prog w = .ok (.agg #[.int .i64 e, .int .i64 f]) w := fun _ => by kernel_rfl
  go_enter Tryd.func112, Tryd.ntmps112
  go_wp2
  all_goals refine bodyPost_ret (by simp [results, Tryd.results112, go_sem]; rfl) rfl ⟨?_, BB⟩
  all_goals rfl
theorem zero_box {W : World} {g : Nat} (h : W.heap[g]? = some (.cells #[.int .i64 0, .int .i64 0, .int .i64 0, .int .i64 0, .int .i64 0, .int .i64 0] 57 (0, 0))) :
    (((((((W).setCell ⟨g, 0, none⟩ (.int .i64 0)).setCell ⟨g, 1, none⟩ (.int .i64 0)).setCell ⟨g, 2, none⟩ (.int .i64 0)).setCell ⟨g, 3, none⟩ (.int .i64 0)).setCell ⟨g, 4, none⟩ (.int .i64 0)).setCell ⟨g, 5, none⟩ (.int .i64 0)).heap[g]? = some (.cells #[.int .i64 0, .int .i64 0, .int .i64 0, .int .i64 0, .int .i64 0, .int .i64 0] 57 (0, 0)) := (blk_put (blk_put (blk_put (blk_put (blk_put (blk_put h 0 _ rfl) 1 _ rfl) 2 _ rfl) 3 _ rfl) 4 _ rfl) 5 _ rfl)
theorem spMeet_at {a b c d p q : Int} (h : spMeet ⟨a, b⟩ ⟨c, d⟩ = ⟨p, q⟩) (w : World) :
    Calls Tryd.prog 65 #[.agg #[.int .i64 a, .int .i64 b], .agg #[.int .i64 c, .int .i64 d]] w fun e w' => e = .returned (.agg #[.int .i64 p, .int .i64 q]) ∧ Below w.heap.size w w' := by
  have := spMeet_calls a b c d w
  rwa [h] at this
set_option maxHeartbeats 4000000 in
set_option maxRecDepth 100000 in
theorem common_calls (a b c d e f a' b' c' d' e' f' : Int) (w : World) :
    Calls Tryd.prog 111 #[.agg #[.int .i64 a, .int .i64 b, .int .i64 c, .int .i64 d, .int .i64 e, .int .i64 f], .agg #[.int .i64 a', .int .i64 b', .int .i64 c', .int .i64 d', .int .i64 e', .int .i64 f']] w fun x w' => (∃ p q r s t u, x = .returned (.tuple #[.agg #[.int .i64 p, .int .i64 q, .int .i64 r, .int .i64 s, .int .i64 t, .int .i64 u], .bool (touches ⟨⟨a, b⟩, ⟨c, d⟩, ⟨e, f⟩⟩ ⟨⟨a', b'⟩, ⟨c', d'⟩, ⟨e', f'⟩⟩)])) ∧ Below w.heap.size w w' := by
  have HB := Aside0.mk (Below.refl w.heap.size w)
  go_enter Tryd.func111, Tryd.ntmps111
  go_wp2_with fail
  generalize hW : ((w.alloc (.cells #[.int .i64 a, .int .i64 b, .int .i64 c, .int .i64 d, .int .i64 e, .int .i64 f] 57)).alloc (.cells #[.int .i64 a', .int .i64 b', .int .i64 c', .int .i64 d', .int .i64 e', .int .i64 f'] 57)).alloc (.cells #[.int .i64 0, .int .i64 0, .int .i64 0, .int .i64 0, .int .i64 0, .int .i64 0] 57) = W
  have HW := Aside0.mk hW
  clear hW
  have hc0 : W.cell? ⟨w.heap.size, 0, none⟩ = some (.int .i64 a) := by rw [← HW.out]; go_simp
  have hc1 : W.cell? ⟨w.heap.size, 1, none⟩ = some (.int .i64 b) := by rw [← HW.out]; go_simp
  have hc2 : W.cell? ⟨w.heap.size, 2, none⟩ = some (.int .i64 c) := by rw [← HW.out]; go_simp
  have hc3 : W.cell? ⟨w.heap.size, 3, none⟩ = some (.int .i64 d) := by rw [← HW.out]; go_simp
  have hc4 : W.cell? ⟨w.heap.size, 4, none⟩ = some (.int .i64 e) := by rw [← HW.out]; go_simp
  have hc5 : W.cell? ⟨w.heap.size, 5, none⟩ = some (.int .i64 f) := by rw [← HW.out]; go_simp
  have hc6 : W.cell? ⟨w.heap.size + 1, 0, none⟩ = some (.int .i64 a') := by rw [← HW.out]; go_simp
  have hc7 : W.cell? ⟨w.heap.size + 1, 1, none⟩ = some (.int .i64 b') := by rw [← HW.out]; go_simp
  have hc8 : W.cell? ⟨w.heap.size + 1, 2, none⟩ = some (.int .i64 c') := by rw [← HW.out]; go_simp
  have hc9 : W.cell? ⟨w.heap.size + 1, 3, none⟩ = some (.int .i64 d') := by rw [← HW.out]; go_simp
  have hc10 : W.cell? ⟨w.heap.size + 1, 4, none⟩ = some (.int .i64 e') := by rw [← HW.out]; go_simp
  have hc11 : W.cell? ⟨w.heap.size + 1, 5, none⟩ = some (.int .i64 f') := by rw [← HW.out]; go_simp
  have KP : Aside0 (∀ X, Below W.heap.size W X → Below W.heap.size W X ∧ X.cell? ⟨w.heap.size, 0, none⟩ = some (.int .i64 a) ∧ X.cell? ⟨w.heap.size, 1, none⟩ = some (.int .i64 b) ∧ X.cell? ⟨w.heap.size, 2, none⟩ = some (.int .i64 c) ∧ X.cell? ⟨w.heap.size, 3, none⟩ = some (.int .i64 d) ∧ X.cell? ⟨w.heap.size, 4, none⟩ = some (.int .i64 e) ∧ X.cell? ⟨w.heap.size, 5, none⟩ = some (.int .i64 f) ∧ X.cell? ⟨w.heap.size + 1, 0, none⟩ = some (.int .i64 a') ∧ X.cell? ⟨w.heap.size + 1, 1, none⟩ = some (.int .i64 b') ∧ X.cell? ⟨w.heap.size + 1, 2, none⟩ = some (.int .i64 c') ∧ X.cell? ⟨w.heap.size + 1, 3, none⟩ = some (.int .i64 d') ∧ X.cell? ⟨w.heap.size + 1, 4, none⟩ = some (.int .i64 e') ∧ X.cell? ⟨w.heap.size + 1, 5, none⟩ = some (.int .i64 f')) := ⟨fun X h => ⟨h, pw_cell_below h hc0, pw_cell_below h hc1, pw_cell_below h hc2, pw_cell_below h hc3, pw_cell_below h hc4, pw_cell_below h hc5, pw_cell_below h hc6, pw_cell_below h hc7, pw_cell_below h hc8, pw_cell_below h hc9, pw_cell_below h hc10, pw_cell_below h hc11⟩⟩
  obtain ⟨p0, q0, h0⟩ : ∃ p q, spMeet ⟨a, b⟩ ⟨a', b'⟩ = ⟨p, q⟩ := ⟨_, _, rfl⟩
  obtain ⟨p1, q1, h1⟩ : ∃ p q, spMeet ⟨c, d⟩ ⟨c', d'⟩ = ⟨p, q⟩ := ⟨_, _, rfl⟩
  obtain ⟨p2, q2, h2⟩ : ∃ p q, spMeet ⟨e, f⟩ ⟨e', f'⟩ = ⟨p, q⟩ := ⟨_, _, rfl⟩
  have HT := Aside0.mk (show touches ⟨⟨a, b⟩, ⟨c, d⟩, ⟨e, f⟩⟩ ⟨⟨a', b'⟩, ⟨c', d'⟩, ⟨e', f'⟩⟩ = (decide (p0 < q0) && decide (p1 < q1) && decide (p2 < q2)) by unfold touches spTouch; dsimp only; rw [h0, h1, h2])
  have H0 := Aside0.mk h0
  have H1 := Aside0.mk h1
  have H2 := Aside0.mk h2
  clear h0 h1 h2
  have hWs := Aside0.mk (show W.heap.size = w.heap.size + 1 + 1 + 1 by rw [← HW.out]; simp)
  have hWB := Aside0.mk (show Below w.heap.size w W by rw [← HW.out]; exact BB)
  have hWR := Aside0.mk (show W.heap[w.heap.size + 1 + 1]? = some (.cells #[.int .i64 0, .int .i64 0, .int .i64 0, .int .i64 0, .int .i64 0, .int .i64 0] 57 (0, 0)) by rw [← HW.out]; exact KK)
  have hlt0 : ∀ X, Below W.heap.size W X → W.heap.size ≤ X.heap.size := fun X h => h.size
  rename_i Q0 K0 hK0
  have key : ∀ (gx gy : Nat) (v0 v1 v2 v3 v8 v9 v10 v11 v12 : Value) (W1 : World), gx ≠ gy → w.heap.size + 2 < gx → Below w.heap.size w W1 → W1.heap[gx]? = some (.cells #[.int .i64 a, .int .i64 b, .int .i64 c, .int .i64 d, .int .i64 e, .int .i64 f] 185 (0, 0)) → W1.heap[gy]? = some (.cells #[.int .i64 a', .int .i64 b', .int .i64 c', .int .i64 d', .int .i64 e', .int .i64 f'] 185 (0, 0)) →
      W1.heap[w.heap.size + 1 + 1]? = some (.cells #[.int .i64 0, .int .i64 0, .int .i64 0, .int .i64 0, .int .i64 0, .int .i64 0] 57 (0, 0)) →
      K0 { tmps := #[v0, v1, v2, v3, .pointer (some ⟨w.heap.size + 1 + 1, 0, none⟩), .bool false, .pointer (some ⟨gx, 0, none⟩), .pointer (some ⟨gy, 0, none⟩), v8, v9, v10, v11, v12, undef, undef, undef, undef, undef, undef, undef, undef, undef, undef, undef, undef, undef, undef, undef, undef, undef, undef, undef, undef, undef, undef, undef, undef, undef], defers := [] } W1 := by
    intro gx gy v0 v1 v2 v3 v8 v9 v10 v11 v12 W1 hne hlt hB hx hy hr
    apply hK0
    clear hK0 hWs hWB hWR
    have HX := Aside0.mk hx
    have HY := Aside0.mk hy
    have HR := Aside0.mk hr
    have HBB := Aside0.mk hB
    have hne' : gy ≠ gx := fun h => hne h.symm
    clear hx hy hr hB
    clear hc0 hc1 hc2 hc3 hc4 hc5 hc6 hc7 hc8 hc9 hc10 hc11 KP hlt0 HW HB
    go_wp2_with fail
    go_loopw [13] (fun i wr => Aside0 (Below w.heap.size w wr) ∧ Aside0 (wr.heap[gy]? = some (.cells #[.int .i64 a', .int .i64 b', .int .i64 c', .int .i64 d', .int .i64 e', .int .i64 f'] 185 (0, 0))) ∧ Aside0 (wr.heap[w.heap.size + 1 + 1]? = some (.cells #[.int .i64 0, .int .i64 0, .int .i64 0, .int .i64 0, .int .i64 0, .int .i64 0] 57 (0, 0))) ∧ ((i = .int .i64 0 ∧ Aside0 (wr.heap[gx]? = some (.cells #[.int .i64 a, .int .i64 b, .int .i64 c, .int .i64 d, .int .i64 e, .int .i64 f] 185 (0, 0)))) ∨ (i = .int .i64 1 ∧ Aside0 (wr.heap[gx]? = some (.cells #[.int .i64 p0, .int .i64 q0, .int .i64 c, .int .i64 d, .int .i64 e, .int .i64 f] 185 (0, 0))) ∧ Aside0 (p0 < q0)) ∨ (i = .int .i64 2 ∧ Aside0 (wr.heap[gx]? = some (.cells #[.int .i64 p0, .int .i64 q0, .int .i64 p1, .int .i64 q1, .int .i64 e, .int .i64 f] 185 (0, 0))) ∧ Aside0 (p0 < q0) ∧ Aside0 (p1 < q1)) ∨ (i = .int .i64 3 ∧ Aside0 (wr.heap[gx]? = some (.cells #[.int .i64 p0, .int .i64 q0, .int .i64 p1, .int .i64 q1, .int .i64 p2, .int .i64 q2] 185 (0, 0))) ∧ Aside0 (p0 < q0) ∧ Aside0 (p1 < q1) ∧ Aside0 (p2 < q2)))) (fun i _ => 3 - (intOf i).toNat)
    case atStart => exact ⟨HBB, HY, HR, Or.inl ⟨rfl, HX⟩⟩
    case round =>
      clear HX HY HR HBB
      obtain ⟨HBB, HY, HR, hcase⟩ := hrel
      rcases hcase with ⟨rfl, HX⟩ | ⟨rfl, HX, T0⟩ | ⟨rfl, HX, T0, T1⟩ | ⟨rfl, HX, T0, T1, T2⟩
      · have hx0_ := HX
        have hx0 : wr.cell? ⟨gx, 0, none⟩ = some (.int .i64 a) := (blk_cell HX.out 0).trans rfl
        have hx1 : wr.cell? ⟨gx, 1, none⟩ = some (.int .i64 b) := (blk_cell HX.out 1).trans rfl
        have hy0 : wr.cell? ⟨gy, 0, none⟩ = some (.int .i64 a') := (blk_cell HY.out 0).trans rfl
        have hy1 : wr.cell? ⟨gy, 1, none⟩ = some (.int .i64 b') := (blk_cell HY.out 1).trans rfl
        go_wp2_with fail
        go_region_with (first | (go_at_call 65; refine (spMeet_at H0.out _).mono ?_; rintro e w1 ⟨rfl, hb1⟩; have hf0 := blk_frozen (blk_below (blk_drew HX.out) hb1) 0; have hf1 := blk_frozen (blk_below (blk_drew HX.out) hb1) 1; have hq0 := (blk_cell (blk_below (blk_drew HX.out) hb1) 0).trans rfl; have hq1 := (blk_cell (blk_below (blk_drew HX.out) hb1) 1).trans rfl; have HX1 := Aside0.mk (blk_below (blk_drew HX.out) hb1); have HY1 := Aside0.mk (blk_below (blk_drew HY.out) hb1); have HR1 := Aside0.mk (blk_below (blk_drew HR.out) hb1); have HB1 := Aside0.mk (adv HBB.out hb1).1; clear hb1))
        all_goals
          clear hx0 hx1 hy0 hy1 HX HY HR HBB hx0_
          have HX2 := Aside0.mk (blk_put (blk_put HX1.out 0 (.int .i64 p0) rfl) 1 (.int .i64 q0) rfl)
          have HY2 := Aside0.mk (blk_far (p := ⟨gx, 1, none⟩) (blk_far (p := ⟨gx, 0, none⟩) HY1.out hne' (.int .i64 p0)) hne' (.int .i64 q0))
          have hner : w.heap.size + 1 + 1 ≠ gx := by omega
          have HR2 := Aside0.mk (blk_far (p := ⟨gx, 1, none⟩) (blk_far (p := ⟨gx, 0, none⟩) HR1.out hner (.int .i64 p0)) hner (.int .i64 q0))
          have HB2 := Aside0.mk (below_set (j := 1) (v := .int .i64 q0) (below_set (j := 0) (v := .int .i64 p0) HB1.out (show w.heap.size ≤ gx by omega)) (show w.heap.size ≤ gx by omega))
          clear hf0 hf1 hq0 hq1 HX1 HY1 HR1 HB1 hner
          generalize (w1.setCell ⟨gx, 0, none⟩ (.int .i64 p0)).setCell ⟨gx, 1, none⟩ (.int .i64 q0) = W2 at *
          have hx0 : W2.cell? ⟨gx, 0, none⟩ = some (.int .i64 p0) := (blk_cell HX2.out 0).trans rfl
          have hx1 : W2.cell? ⟨gx, 1, none⟩ = some (.int .i64 q0) := (blk_cell HX2.out 1).trans rfl
          by_cases hp : p0 < q0
          · go_wp2_with fail
            go_quiet (fail)
            go_wp2_with fail
            go_roundw
            case rel => exact ⟨Aside0.mk (by have h := HB2.out; exact BB), ⟨HY2.out⟩, ⟨HR2.out⟩, Or.inr (Or.inl ⟨rfl, ⟨HX2.out⟩, ⟨hp⟩⟩)⟩
            case measure => simp [intOf]
          · have hr0 : W2.cell? ⟨w.heap.size + 1 + 1, 0, none⟩ = some (.int .i64 0) := (blk_cell HR2.out 0).trans rfl
            have hr1 : W2.cell? ⟨w.heap.size + 1 + 1, 1, none⟩ = some (.int .i64 0) := (blk_cell HR2.out 1).trans rfl
            have hr2 : W2.cell? ⟨w.heap.size + 1 + 1, 2, none⟩ = some (.int .i64 0) := (blk_cell HR2.out 2).trans rfl
            have hr3 : W2.cell? ⟨w.heap.size + 1 + 1, 3, none⟩ = some (.int .i64 0) := (blk_cell HR2.out 3).trans rfl
            have hr4 : W2.cell? ⟨w.heap.size + 1 + 1, 4, none⟩ = some (.int .i64 0) := (blk_cell HR2.out 4).trans rfl
            have hr5 : W2.cell? ⟨w.heap.size + 1 + 1, 5, none⟩ = some (.int .i64 0) := (blk_cell HR2.out 5).trans rfl
            have hk0 := blk_frozen HR2.out 0
            have hk1 := blk_frozen HR2.out 1
            have hk2 := blk_frozen HR2.out 2
            have hk3 := blk_frozen HR2.out 3
            have hk4 := blk_frozen HR2.out 4
            have hk5 := blk_frozen HR2.out 5
            have HF := Aside0.mk (HT.out.trans (show _ = false by simp [hp]))
            go_wp2_with fail
            go_quiet (fail)
            go_wp2_with fail
            have HBq := Aside0.mk (show Below w.heap.size w (W2.drewN nq) by have h := HB2.out; exact BB)
            have HB3 := Aside0.mk (below_set (j := 5) (v := .int .i64 0) (below_set (j := 4) (v := .int .i64 0) (below_set (j := 3) (v := .int .i64 0) (below_set (j := 2) (v := .int .i64 0) (below_set (j := 1) (v := .int .i64 0) (below_set (j := 0) (v := .int .i64 0) (HBq.out) (show w.heap.size ≤ w.heap.size + 1 + 1 by omega)) (show w.heap.size ≤ w.heap.size + 1 + 1 by omega)) (show w.heap.size ≤ w.heap.size + 1 + 1 by omega)) (show w.heap.size ≤ w.heap.size + 1 + 1 by omega)) (show w.heap.size ≤ w.heap.size + 1 + 1 by omega)) (show w.heap.size ≤ w.heap.size + 1 + 1 by omega))
            have HR3 := Aside0.mk (zero_box (W := W2.drewN nq) HR2.out)
            clear hr0 hr1 hr2 hr3 hr4 hr5 hk0 hk1 hk2 hk3 hk4 hk5
            generalize ((((((W2.drewN nq).setCell ⟨w.heap.size + 1 + 1, 0, none⟩ (.int .i64 0)).setCell ⟨w.heap.size + 1 + 1, 1, none⟩ (.int .i64 0)).setCell ⟨w.heap.size + 1 + 1, 2, none⟩ (.int .i64 0)).setCell ⟨w.heap.size + 1 + 1, 3, none⟩ (.int .i64 0)).setCell ⟨w.heap.size + 1 + 1, 4, none⟩ (.int .i64 0)).setCell ⟨w.heap.size + 1 + 1, 5, none⟩ (.int .i64 0) = W3 at *
            have hr0 : W3.cell? ⟨w.heap.size + 1 + 1, 0, none⟩ = some (.int .i64 0) := (blk_cell HR3.out 0).trans rfl
            have hr1 : W3.cell? ⟨w.heap.size + 1 + 1, 1, none⟩ = some (.int .i64 0) := (blk_cell HR3.out 1).trans rfl
            have hr2 : W3.cell? ⟨w.heap.size + 1 + 1, 2, none⟩ = some (.int .i64 0) := (blk_cell HR3.out 2).trans rfl
            have hr3 : W3.cell? ⟨w.heap.size + 1 + 1, 3, none⟩ = some (.int .i64 0) := (blk_cell HR3.out 3).trans rfl
            have hr4 : W3.cell? ⟨w.heap.size + 1 + 1, 4, none⟩ = some (.int .i64 0) := (blk_cell HR3.out 4).trans rfl
            have hr5 : W3.cell? ⟨w.heap.size + 1 + 1, 5, none⟩ = some (.int .i64 0) := (blk_cell HR3.out 5).trans rfl
            refine bodyPost_ret (by simp [results, Tryd.results111, go_sem, hr0, hr1, hr2, hr3, hr4, hr5]; rfl) rfl ⟨⟨0, 0, 0, 0, 0, 0, ?_⟩, HB3.out⟩
            rw [HF.out]
      · have hx0_ := HX
        have hx0 : wr.cell? ⟨gx, 2, none⟩ = some (.int .i64 c) := (blk_cell HX.out 2).trans rfl
        have hx1 : wr.cell? ⟨gx, 3, none⟩ = some (.int .i64 d) := (blk_cell HX.out 3).trans rfl
        have hy0 : wr.cell? ⟨gy, 2, none⟩ = some (.int .i64 c') := (blk_cell HY.out 2).trans rfl
        have hy1 : wr.cell? ⟨gy, 3, none⟩ = some (.int .i64 d') := (blk_cell HY.out 3).trans rfl
        go_wp2_with fail
        go_region_with (first | (go_at_call 65; refine (spMeet_at H1.out _).mono ?_; rintro e w1 ⟨rfl, hb1⟩; have hf0 := blk_frozen (blk_below (blk_drew HX.out) hb1) 2; have hf1 := blk_frozen (blk_below (blk_drew HX.out) hb1) 3; have hq0 := (blk_cell (blk_below (blk_drew HX.out) hb1) 2).trans rfl; have hq1 := (blk_cell (blk_below (blk_drew HX.out) hb1) 3).trans rfl; have HX1 := Aside0.mk (blk_below (blk_drew HX.out) hb1); have HY1 := Aside0.mk (blk_below (blk_drew HY.out) hb1); have HR1 := Aside0.mk (blk_below (blk_drew HR.out) hb1); have HB1 := Aside0.mk (adv HBB.out hb1).1; clear hb1))
        all_goals
          clear hx0 hx1 hy0 hy1 HX HY HR HBB hx0_
          have HX2 := Aside0.mk (blk_put (blk_put HX1.out 2 (.int .i64 p1) rfl) 3 (.int .i64 q1) rfl)
          have HY2 := Aside0.mk (blk_far (p := ⟨gx, 3, none⟩) (blk_far (p := ⟨gx, 2, none⟩) HY1.out hne' (.int .i64 p1)) hne' (.int .i64 q1))
          have hner : w.heap.size + 1 + 1 ≠ gx := by omega
          have HR2 := Aside0.mk (blk_far (p := ⟨gx, 3, none⟩) (blk_far (p := ⟨gx, 2, none⟩) HR1.out hner (.int .i64 p1)) hner (.int .i64 q1))
          have HB2 := Aside0.mk (below_set (j := 3) (v := .int .i64 q1) (below_set (j := 2) (v := .int .i64 p1) HB1.out (show w.heap.size ≤ gx by omega)) (show w.heap.size ≤ gx by omega))
          clear hf0 hf1 hq0 hq1 HX1 HY1 HR1 HB1 hner
          generalize (w1.setCell ⟨gx, 2, none⟩ (.int .i64 p1)).setCell ⟨gx, 3, none⟩ (.int .i64 q1) = W2 at *
          have hx0 : W2.cell? ⟨gx, 2, none⟩ = some (.int .i64 p1) := (blk_cell HX2.out 2).trans rfl
          have hx1 : W2.cell? ⟨gx, 3, none⟩ = some (.int .i64 q1) := (blk_cell HX2.out 3).trans rfl
          by_cases hp : p1 < q1
          · go_wp2_with fail
            go_quiet (fail)
            go_wp2_with fail
            go_roundw
            case rel => exact ⟨Aside0.mk (by have h := HB2.out; exact BB), ⟨HY2.out⟩, ⟨HR2.out⟩, Or.inr (Or.inr (Or.inl ⟨rfl, ⟨HX2.out⟩, T0, ⟨hp⟩⟩))⟩
            case measure => simp [intOf]
          · have hr0 : W2.cell? ⟨w.heap.size + 1 + 1, 0, none⟩ = some (.int .i64 0) := (blk_cell HR2.out 0).trans rfl
            have hr1 : W2.cell? ⟨w.heap.size + 1 + 1, 1, none⟩ = some (.int .i64 0) := (blk_cell HR2.out 1).trans rfl
            have hr2 : W2.cell? ⟨w.heap.size + 1 + 1, 2, none⟩ = some (.int .i64 0) := (blk_cell HR2.out 2).trans rfl
            have hr3 : W2.cell? ⟨w.heap.size + 1 + 1, 3, none⟩ = some (.int .i64 0) := (blk_cell HR2.out 3).trans rfl
            have hr4 : W2.cell? ⟨w.heap.size + 1 + 1, 4, none⟩ = some (.int .i64 0) := (blk_cell HR2.out 4).trans rfl
            have hr5 : W2.cell? ⟨w.heap.size + 1 + 1, 5, none⟩ = some (.int .i64 0) := (blk_cell HR2.out 5).trans rfl
            have hk0 := blk_frozen HR2.out 0
            have hk1 := blk_frozen HR2.out 1
            have hk2 := blk_frozen HR2.out 2
            have hk3 := blk_frozen HR2.out 3
            have hk4 := blk_frozen HR2.out 4
            have hk5 := blk_frozen HR2.out 5
            have HF := Aside0.mk (HT.out.trans (show _ = false by simp [hp]))
            go_wp2_with fail
            go_quiet (fail)
            go_wp2_with fail
            have HBq := Aside0.mk (show Below w.heap.size w (W2.drewN nq) by have h := HB2.out; exact BB)
            have HB3 := Aside0.mk (below_set (j := 5) (v := .int .i64 0) (below_set (j := 4) (v := .int .i64 0) (below_set (j := 3) (v := .int .i64 0) (below_set (j := 2) (v := .int .i64 0) (below_set (j := 1) (v := .int .i64 0) (below_set (j := 0) (v := .int .i64 0) (HBq.out) (show w.heap.size ≤ w.heap.size + 1 + 1 by omega)) (show w.heap.size ≤ w.heap.size + 1 + 1 by omega)) (show w.heap.size ≤ w.heap.size + 1 + 1 by omega)) (show w.heap.size ≤ w.heap.size + 1 + 1 by omega)) (show w.heap.size ≤ w.heap.size + 1 + 1 by omega)) (show w.heap.size ≤ w.heap.size + 1 + 1 by omega))
            have HR3 := Aside0.mk (zero_box (W := W2.drewN nq) HR2.out)
            clear hr0 hr1 hr2 hr3 hr4 hr5 hk0 hk1 hk2 hk3 hk4 hk5
            generalize ((((((W2.drewN nq).setCell ⟨w.heap.size + 1 + 1, 0, none⟩ (.int .i64 0)).setCell ⟨w.heap.size + 1 + 1, 1, none⟩ (.int .i64 0)).setCell ⟨w.heap.size + 1 + 1, 2, none⟩ (.int .i64 0)).setCell ⟨w.heap.size + 1 + 1, 3, none⟩ (.int .i64 0)).setCell ⟨w.heap.size + 1 + 1, 4, none⟩ (.int .i64 0)).setCell ⟨w.heap.size + 1 + 1, 5, none⟩ (.int .i64 0) = W3 at *
            have hr0 : W3.cell? ⟨w.heap.size + 1 + 1, 0, none⟩ = some (.int .i64 0) := (blk_cell HR3.out 0).trans rfl
            have hr1 : W3.cell? ⟨w.heap.size + 1 + 1, 1, none⟩ = some (.int .i64 0) := (blk_cell HR3.out 1).trans rfl
            have hr2 : W3.cell? ⟨w.heap.size + 1 + 1, 2, none⟩ = some (.int .i64 0) := (blk_cell HR3.out 2).trans rfl
            have hr3 : W3.cell? ⟨w.heap.size + 1 + 1, 3, none⟩ = some (.int .i64 0) := (blk_cell HR3.out 3).trans rfl
            have hr4 : W3.cell? ⟨w.heap.size + 1 + 1, 4, none⟩ = some (.int .i64 0) := (blk_cell HR3.out 4).trans rfl
            have hr5 : W3.cell? ⟨w.heap.size + 1 + 1, 5, none⟩ = some (.int .i64 0) := (blk_cell HR3.out 5).trans rfl
            refine bodyPost_ret (by simp [results, Tryd.results111, go_sem, hr0, hr1, hr2, hr3, hr4, hr5]; rfl) rfl ⟨⟨0, 0, 0, 0, 0, 0, ?_⟩, HB3.out⟩
            rw [HF.out]
      · have hx0_ := HX
        have hx0 : wr.cell? ⟨gx, 4, none⟩ = some (.int .i64 e) := (blk_cell HX.out 4).trans rfl
        have hx1 : wr.cell? ⟨gx, 5, none⟩ = some (.int .i64 f) := (blk_cell HX.out 5).trans rfl
        have hy0 : wr.cell? ⟨gy, 4, none⟩ = some (.int .i64 e') := (blk_cell HY.out 4).trans rfl
        have hy1 : wr.cell? ⟨gy, 5, none⟩ = some (.int .i64 f') := (blk_cell HY.out 5).trans rfl
        go_wp2_with fail
        go_region_with (first | (go_at_call 65; refine (spMeet_at H2.out _).mono ?_; rintro e w1 ⟨rfl, hb1⟩; have hf0 := blk_frozen (blk_below (blk_drew HX.out) hb1) 4; have hf1 := blk_frozen (blk_below (blk_drew HX.out) hb1) 5; have hq0 := (blk_cell (blk_below (blk_drew HX.out) hb1) 4).trans rfl; have hq1 := (blk_cell (blk_below (blk_drew HX.out) hb1) 5).trans rfl; have HX1 := Aside0.mk (blk_below (blk_drew HX.out) hb1); have HY1 := Aside0.mk (blk_below (blk_drew HY.out) hb1); have HR1 := Aside0.mk (blk_below (blk_drew HR.out) hb1); have HB1 := Aside0.mk (adv HBB.out hb1).1; clear hb1))
        all_goals
          clear hx0 hx1 hy0 hy1 HX HY HR HBB hx0_
          have HX2 := Aside0.mk (blk_put (blk_put HX1.out 4 (.int .i64 p2) rfl) 5 (.int .i64 q2) rfl)
          have HY2 := Aside0.mk (blk_far (p := ⟨gx, 5, none⟩) (blk_far (p := ⟨gx, 4, none⟩) HY1.out hne' (.int .i64 p2)) hne' (.int .i64 q2))
          have hner : w.heap.size + 1 + 1 ≠ gx := by omega
          have HR2 := Aside0.mk (blk_far (p := ⟨gx, 5, none⟩) (blk_far (p := ⟨gx, 4, none⟩) HR1.out hner (.int .i64 p2)) hner (.int .i64 q2))
          have HB2 := Aside0.mk (below_set (j := 5) (v := .int .i64 q2) (below_set (j := 4) (v := .int .i64 p2) HB1.out (show w.heap.size ≤ gx by omega)) (show w.heap.size ≤ gx by omega))
          clear hf0 hf1 hq0 hq1 HX1 HY1 HR1 HB1 hner
          generalize (w1.setCell ⟨gx, 4, none⟩ (.int .i64 p2)).setCell ⟨gx, 5, none⟩ (.int .i64 q2) = W2 at *
          have hx0 : W2.cell? ⟨gx, 4, none⟩ = some (.int .i64 p2) := (blk_cell HX2.out 4).trans rfl
          have hx1 : W2.cell? ⟨gx, 5, none⟩ = some (.int .i64 q2) := (blk_cell HX2.out 5).trans rfl
          by_cases hp : p2 < q2
          · go_wp2_with fail
            go_quiet (fail)
            go_wp2_with fail
            go_roundw
            case rel => exact ⟨Aside0.mk (by have h := HB2.out; exact BB), ⟨HY2.out⟩, ⟨HR2.out⟩, Or.inr (Or.inr (Or.inr ⟨rfl, ⟨HX2.out⟩, T0, T1, ⟨hp⟩⟩))⟩
            case measure => simp [intOf]
          · have hr0 : W2.cell? ⟨w.heap.size + 1 + 1, 0, none⟩ = some (.int .i64 0) := (blk_cell HR2.out 0).trans rfl
            have hr1 : W2.cell? ⟨w.heap.size + 1 + 1, 1, none⟩ = some (.int .i64 0) := (blk_cell HR2.out 1).trans rfl
            have hr2 : W2.cell? ⟨w.heap.size + 1 + 1, 2, none⟩ = some (.int .i64 0) := (blk_cell HR2.out 2).trans rfl
            have hr3 : W2.cell? ⟨w.heap.size + 1 + 1, 3, none⟩ = some (.int .i64 0) := (blk_cell HR2.out 3).trans rfl
            have hr4 : W2.cell? ⟨w.heap.size + 1 + 1, 4, none⟩ = some (.int .i64 0) := (blk_cell HR2.out 4).trans rfl
            have hr5 : W2.cell? ⟨w.heap.size + 1 + 1, 5, none⟩ = some (.int .i64 0) := (blk_cell HR2.out 5).trans rfl
            have hk0 := blk_frozen HR2.out 0
            have hk1 := blk_frozen HR2.out 1
            have hk2 := blk_frozen HR2.out 2
            have hk3 := blk_frozen HR2.out 3
            have hk4 := blk_frozen HR2.out 4
            have hk5 := blk_frozen HR2.out 5
            have HF := Aside0.mk (HT.out.trans (show _ = false by simp [hp]))
            go_wp2_with fail
            go_quiet (fail)
            go_wp2_with fail
            have HBq := Aside0.mk (show Below w.heap.size w (W2.drewN nq) by have h := HB2.out; exact BB)
            have HB3 := Aside0.mk (below_set (j := 5) (v := .int .i64 0) (below_set (j := 4) (v := .int .i64 0) (below_set (j := 3) (v := .int .i64 0) (below_set (j := 2) (v := .int .i64 0) (below_set (j := 1) (v := .int .i64 0) (below_set (j := 0) (v := .int .i64 0) (HBq.out) (show w.heap.size ≤ w.heap.size + 1 + 1 by omega)) (show w.heap.size ≤ w.heap.size + 1 + 1 by omega)) (show w.heap.size ≤ w.heap.size + 1 + 1 by omega)) (show w.heap.size ≤ w.heap.size + 1 + 1 by omega)) (show w.heap.size ≤ w.heap.size + 1 + 1 by omega)) (show w.heap.size ≤ w.heap.size + 1 + 1 by omega))
            have HR3 := Aside0.mk (zero_box (W := W2.drewN nq) HR2.out)
            clear hr0 hr1 hr2 hr3 hr4 hr5 hk0 hk1 hk2 hk3 hk4 hk5
            generalize ((((((W2.drewN nq).setCell ⟨w.heap.size + 1 + 1, 0, none⟩ (.int .i64 0)).setCell ⟨w.heap.size + 1 + 1, 1, none⟩ (.int .i64 0)).setCell ⟨w.heap.size + 1 + 1, 2, none⟩ (.int .i64 0)).setCell ⟨w.heap.size + 1 + 1, 3, none⟩ (.int .i64 0)).setCell ⟨w.heap.size + 1 + 1, 4, none⟩ (.int .i64 0)).setCell ⟨w.heap.size + 1 + 1, 5, none⟩ (.int .i64 0) = W3 at *
            have hr0 : W3.cell? ⟨w.heap.size + 1 + 1, 0, none⟩ = some (.int .i64 0) := (blk_cell HR3.out 0).trans rfl
            have hr1 : W3.cell? ⟨w.heap.size + 1 + 1, 1, none⟩ = some (.int .i64 0) := (blk_cell HR3.out 1).trans rfl
            have hr2 : W3.cell? ⟨w.heap.size + 1 + 1, 2, none⟩ = some (.int .i64 0) := (blk_cell HR3.out 2).trans rfl
            have hr3 : W3.cell? ⟨w.heap.size + 1 + 1, 3, none⟩ = some (.int .i64 0) := (blk_cell HR3.out 3).trans rfl
            have hr4 : W3.cell? ⟨w.heap.size + 1 + 1, 4, none⟩ = some (.int .i64 0) := (blk_cell HR3.out 4).trans rfl
            have hr5 : W3.cell? ⟨w.heap.size + 1 + 1, 5, none⟩ = some (.int .i64 0) := (blk_cell HR3.out 5).trans rfl
            refine bodyPost_ret (by simp [results, Tryd.results111, go_sem, hr0, hr1, hr2, hr3, hr4, hr5]; rfl) rfl ⟨⟨0, 0, 0, 0, 0, 0, ?_⟩, HB3.out⟩
            rw [HF.out]
      · have hx0 : wr.cell? ⟨gx, 0, none⟩ = some (.int .i64 p0) := (blk_cell HX.out 0).trans rfl
        have hx1 : wr.cell? ⟨gx, 1, none⟩ = some (.int .i64 q0) := (blk_cell HX.out 1).trans rfl
        have hx2 : wr.cell? ⟨gx, 2, none⟩ = some (.int .i64 p1) := (blk_cell HX.out 2).trans rfl
        have hx3 : wr.cell? ⟨gx, 3, none⟩ = some (.int .i64 q1) := (blk_cell HX.out 3).trans rfl
        have hx4 : wr.cell? ⟨gx, 4, none⟩ = some (.int .i64 p2) := (blk_cell HX.out 4).trans rfl
        have hx5 : wr.cell? ⟨gx, 5, none⟩ = some (.int .i64 q2) := (blk_cell HX.out 5).trans rfl
        have HF := Aside0.mk (HT.out.trans (show _ = true by have := T0.out; have := T1.out; have := T2.out; simp; omega))
        go_wp2_with fail
        refine (boxOf_calls _ _ _ _ _ _ _).mono ?_
        rintro e w1 ⟨rfl, hb1⟩
        have HB1 := Aside0.mk (adv HBB.out hb1).1
        have HR1 := Aside0.mk (blk_below HR.out hb1)
        clear hb1 hx0 hx1 hx2 hx3 hx4 hx5
        have hr0 : w1.cell? ⟨w.heap.size + 1 + 1, 0, none⟩ = some (.int .i64 0) := (blk_cell HR1.out 0).trans rfl
        have hk0 := blk_frozen HR1.out 0
        have hr1 : w1.cell? ⟨w.heap.size + 1 + 1, 1, none⟩ = some (.int .i64 0) := (blk_cell HR1.out 1).trans rfl
        have hk1 := blk_frozen HR1.out 1
        have hr2 : w1.cell? ⟨w.heap.size + 1 + 1, 2, none⟩ = some (.int .i64 0) := (blk_cell HR1.out 2).trans rfl
        have hk2 := blk_frozen HR1.out 2
        have hr3 : w1.cell? ⟨w.heap.size + 1 + 1, 3, none⟩ = some (.int .i64 0) := (blk_cell HR1.out 3).trans rfl
        have hk3 := blk_frozen HR1.out 3
        have hr4 : w1.cell? ⟨w.heap.size + 1 + 1, 4, none⟩ = some (.int .i64 0) := (blk_cell HR1.out 4).trans rfl
        have hk4 := blk_frozen HR1.out 4
        have hr5 : w1.cell? ⟨w.heap.size + 1 + 1, 5, none⟩ = some (.int .i64 0) := (blk_cell HR1.out 5).trans rfl
        have hk5 := blk_frozen HR1.out 5
        go_wp2_with fail
        have HB3 := Aside0.mk (below_set (j := 5) (v := .int .i64 q2) (below_set (j := 4) (v := .int .i64 p2) (below_set (j := 3) (v := .int .i64 q1) (below_set (j := 2) (v := .int .i64 p1) (below_set (j := 1) (v := .int .i64 q0) (below_set (j := 0) (v := .int .i64 p0) (HB1.out) (show w.heap.size ≤ w.heap.size + 1 + 1 by omega)) (show w.heap.size ≤ w.heap.size + 1 + 1 by omega)) (show w.heap.size ≤ w.heap.size + 1 + 1 by omega)) (show w.heap.size ≤ w.heap.size + 1 + 1 by omega)) (show w.heap.size ≤ w.heap.size + 1 + 1 by omega)) (show w.heap.size ≤ w.heap.size + 1 + 1 by omega))
        have HR3 := Aside0.mk (blk_put (blk_put (blk_put (blk_put (blk_put (blk_put HR1.out 0 (.int .i64 p0) rfl) 1 (.int .i64 q0) rfl) 2 (.int .i64 p1) rfl) 3 (.int .i64 q1) rfl) 4 (.int .i64 p2) rfl) 5 (.int .i64 q2) rfl)
        clear hr0 hk0 hr1 hk1 hr2 hk2 hr3 hk3 hr4 hk4 hr5 hk5
        generalize ((((((w1).setCell ⟨w.heap.size + 1 + 1, 0, none⟩ (.int .i64 p0)).setCell ⟨w.heap.size + 1 + 1, 1, none⟩ (.int .i64 q0)).setCell ⟨w.heap.size + 1 + 1, 2, none⟩ (.int .i64 p1)).setCell ⟨w.heap.size + 1 + 1, 3, none⟩ (.int .i64 q1)).setCell ⟨w.heap.size + 1 + 1, 4, none⟩ (.int .i64 p2)).setCell ⟨w.heap.size + 1 + 1, 5, none⟩ (.int .i64 q2) = W3 at *
        have hr0 : W3.cell? ⟨w.heap.size + 1 + 1, 0, none⟩ = some (.int .i64 p0) := (blk_cell HR3.out 0).trans rfl
        have hr1 : W3.cell? ⟨w.heap.size + 1 + 1, 1, none⟩ = some (.int .i64 q0) := (blk_cell HR3.out 1).trans rfl
        have hr2 : W3.cell? ⟨w.heap.size + 1 + 1, 2, none⟩ = some (.int .i64 p1) := (blk_cell HR3.out 2).trans rfl
        have hr3 : W3.cell? ⟨w.heap.size + 1 + 1, 3, none⟩ = some (.int .i64 q1) := (blk_cell HR3.out 3).trans rfl
        have hr4 : W3.cell? ⟨w.heap.size + 1 + 1, 4, none⟩ = some (.int .i64 p2) := (blk_cell HR3.out 4).trans rfl
        have hr5 : W3.cell? ⟨w.heap.size + 1 + 1, 5, none⟩ = some (.int .i64 q2) := (blk_cell HR3.out 5).trans rfl
        refine bodyPost_ret (by simp [results, Tryd.results111, go_sem, hr0, hr1, hr2, hr3, hr4, hr5]; rfl) rfl ⟨⟨p0, q0, p1, q1, p2, q2, ?_⟩, HB3.out⟩
        rw [HF.out]
  go_region_held3 (fun w' => Below W.heap.size W w' ∧ w'.cell? ⟨w.heap.size, 0, none⟩ = some (.int .i64 a) ∧ w'.cell? ⟨w.heap.size, 1, none⟩ = some (.int .i64 b) ∧ w'.cell? ⟨w.heap.size, 2, none⟩ = some (.int .i64 c) ∧ w'.cell? ⟨w.heap.size, 3, none⟩ = some (.int .i64 d) ∧ w'.cell? ⟨w.heap.size, 4, none⟩ = some (.int .i64 e) ∧ w'.cell? ⟨w.heap.size, 5, none⟩ = some (.int .i64 f) ∧ w'.cell? ⟨w.heap.size + 1, 0, none⟩ = some (.int .i64 a') ∧ w'.cell? ⟨w.heap.size + 1, 1, none⟩ = some (.int .i64 b') ∧ w'.cell? ⟨w.heap.size + 1, 2, none⟩ = some (.int .i64 c') ∧ w'.cell? ⟨w.heap.size + 1, 3, none⟩ = some (.int .i64 d') ∧ w'.cell? ⟨w.heap.size + 1, 4, none⟩ = some (.int .i64 e') ∧ w'.cell? ⟨w.heap.size + 1, 5, none⟩ = some (.int .i64 f'))
    ((refine KP.out _ ?_; (repeat first | assumption | exact Below.refl _ _ | apply below_alloc | apply below_drew | refine below_set ?_ (by omega))))
    (first | (go_at_call 103; refine (axes_exact _ _ _ _ _ _ _).mono ?_; rintro e w1 ⟨o1, o2, rfl, rfl⟩))
  all_goals clear hc0 hc1 hc2 hc3 hc4 hc5 hc6 hc7 hc8 hc9 hc10 hc11 KP hK0
  all_goals refine key _ _ _ _ _ _ _ _ _ _ _ _ ?_ ?_ ?_ ?_ ?_ ?_
  all_goals first | (have h := hWs.out; omega) | (have h := hWR.out; (repeat (with_reducible first | refine blk_drewN ?_ _ | refine blk_drew ?_ | exact h | (refine blk_newi _ ?_; simp; done) | refine blk_alloc ?_ _)); done) | (have h := hWB.out; exact BB)
end Go.Proofs.YtngpoonjonojhaaDoor
