/- Walks: the examples of the chapter. -/
import Derived.Test.YtngpoonjonojhaaDoorE36
import Derived.Test.YtngpoonjonojhaaDoorE37
set_option linter.all false
namespace Go.Proofs.YtngpoonjonojhaaDoor
open Go.RowKit Go.Proofs.YtngpoonjonojhaaDoorW.PrintWords Go.Proofs.YtngpoonjonojhaaDoorW.PrintLast
set_option linter.unusedVariables false
theorem Fr.trans {b : Nat} {w W V : World} (h : Fr b w W) (k : Fr b W V) (hs : w.heap.size ≤ W.heap.size) : Fr b w V := fun i h1 h2 => (k i h1 (by omega)).trans (h i h1 h2)
theorem Fr.of_keep {b g : Nat} {w W : World} (h : KeepBut w W g none) (hg : g < b) : Fr b w W := fun k h1 h2 => h.2 k h2 (by omega) (by simp)
theorem eqNd (a b a' b' : Int) (w : World) (d : Nat) : (Op.equalIn (d + 2) 80 (.agg #[.int .i64 a, .int .i64 b]) (.agg #[.int .i64 a', .int .i64 b'])).run Tryd.prog w = .ok (a == a' && b == b') w := by
  have hl : ((Tryd.prog.fieldsOf 80).toList.map fun f => (f.name == "_", f.type, f.offset)) = [(false, 3, 0), (false, 3, 1)] := by kernel_rfl
  obtain ⟨f0, f1, hf, ⟨n0, y0, p0⟩, ⟨n1, y1, p1⟩⟩ := two_fields hl
  have q0 : ∀ (x y : Value), (part 3 #[x, y] 0).run Tryd.prog w = .ok x w := fun x y => by kernel_rfl
  have q1 : ∀ (x y : Value), (part 3 #[x, y] 1).run Tryd.prog w = .ok y w := fun x y => by kernel_rfl
  refine eqA_of (fs := (Tryd.prog.fieldsOf 80)) (by kernel_rfl) (by kernel_rfl) ?_
  rw [hf]
  refine eqf_cons n0 (a := .int .i64 a) (b := .int .i64 a') (by rw [y0, p0]; exact q0 _ _) (by rw [y0, p0]; exact q0 _ _) (by rw [y0]; exact eqInt _ _ _ _) ?_
  exact eqf_last n1 (a := .int .i64 b) (b := .int .i64 b') (by rw [y1, p1]; exact q1 _ _) (by rw [y1, p1]; exact q1 _ _) (by rw [y1]; exact eqInt _ _ _ _)
theorem guardNd (o : BinOp) (x y : Operand) (a b : Array Value) (w : World) : (eqGuard o 80 x y (.agg a) (.agg b)).run Tryd.prog w = .ok () w := run_eqGuard_agg w _ _ _ _ _ _ (by kernel_rfl)
set_option maxHeartbeats 8000000 in
set_option maxRecDepth 100000 in
theorem lline_calls (A : Option Addr) (c : Nat) (l : List Slc) (A' : Option Addr) (c' : Nat) (d : List Dft) (Aq : Option Addr) (cq : Nat) (ps : List Prod) (xa xb ya yb kerf trim pitch step chip dust fine : Int) (w : World)
    (hl : Kd.C kSlc w A l.length l) (hd : Kd.C kDft w A' d.length d) (hp : Kd.C kProd w Aq ps.length ps) (hn : ∀ i, i < ps.length → (rd_Prod ps i).name.size ≤ 9223372036854775807) (hc : ps.length ≤ cq) :
    Calls Tryd.prog 16 #[.agg #[.slice A l.length c, .slice A' d.length c', .slice Aq ps.length cq, .int .i64 xa, .int .i64 xb, .int .i64 ya, .int .i64 yb, .int .i64 kerf, .int .i64 trim, .int .i64 pitch, .int .i64 step, .int .i64 chip, .int .i64 dust, .int .i64 fine]] w fun e w' => ((lineErr l d ps ⟨⟨xa, xb⟩, ⟨ya, yb⟩⟩ ⟨kerf, trim, pitch, step⟩ ⟨chip, dust, fine⟩ ≠ 0 ∧ e = .returned (.tuple #[.agg #[.int .i64 0, .int .i64 0, .int .i64 0, .slice none 0 0, .slice none 0 0, .slice none 0 0, .slice none 0 0], .int .i64 (lineErr l d ps ⟨⟨xa, xb⟩, ⟨ya, yb⟩⟩ ⟨kerf, trim, pitch, step⟩ ⟨chip, dust, fine⟩)])) ∨ (lineErr l d ps ⟨⟨xa, xb⟩, ⟨ya, yb⟩⟩ ⟨kerf, trim, pitch, step⟩ ⟨chip, dust, fine⟩ = 0 ∧ ∃ cs, e = .returned (.tuple #[.agg cs, .int .i64 0]) ∧ LnF w.heap.size w' cs (lineOf l d ps ⟨⟨xa, xb⟩, ⟨ya, yb⟩⟩ ⟨kerf, trim, pitch, step⟩ ⟨chip, dust, fine⟩))) ∧ Below w.heap.size w w' := by
  have HB := Aside0.mk (Below.refl w.heap.size w)
  have HL := Aside0.mk hl
  have HD := Aside0.mk hd
  have HP := Aside0.mk hp
  have HN := Aside0.mk hn
  have HC := Aside0.mk hc
  clear hl hd hp hn hc
  obtain ⟨x, hx⟩ : ∃ x, x = lineOf l d ps ⟨⟨xa, xb⟩, ⟨ya, yb⟩⟩ ⟨kerf, trim, pitch, step⟩ ⟨chip, dust, fine⟩ := ⟨_, rfl⟩
  rw [← hx]
  have HX := Aside0.mk hx
  clear hx
  go_enter Tryd.func16, Tryd.ntmps16
  go_wp2_with fail
  refine (line_calls _ _ l _ _ d _ _ ps _ _ _ _ _ _ _ _ _ _ _ _ ?c1 ?c2 ?c3 ?c4 ?c5).mono ?_
  case c1 => exact Kd.C_below HL.out BB
  case c2 => exact Kd.C_below HD.out BB
  case c3 => exact Kd.C_below HP.out BB
  case c4 => exact HN.out
  case c5 => exact HC.out
  rintro e w1 ⟨hor, hb1⟩
  obtain ⟨hB1, hb2⟩ := adv HB.out hb1
  have hz : w1.heap[w.heap.size + 1]? = some (.cells #[.int .i64 0, .int .i64 0, .int .i64 0, .slice none 0 0, .slice none 0 0, .slice none 0 0, .slice none 0 0] 64 (0, 0)) := blk_below (by repeat (first | exact blk_newi _ (by simp) | refine blk_drewN ?_ _ | refine blk_drew ?_ | refine blk_alloc ?_ _)) hb1
  have hz_0 : w1.cell? ⟨w.heap.size + 1, 0, none⟩ = some (.int .i64 0) := (blk_cell hz 0).trans rfl
  have hz_1 : w1.cell? ⟨w.heap.size + 1, 1, none⟩ = some (.int .i64 0) := (blk_cell hz 1).trans rfl
  have hz_2 : w1.cell? ⟨w.heap.size + 1, 2, none⟩ = some (.int .i64 0) := (blk_cell hz 2).trans rfl
  have hz_3 : w1.cell? ⟨w.heap.size + 1, 3, none⟩ = some (.slice none 0 0) := (blk_cell hz 3).trans rfl
  have hz_4 : w1.cell? ⟨w.heap.size + 1, 4, none⟩ = some (.slice none 0 0) := (blk_cell hz 4).trans rfl
  have hz_5 : w1.cell? ⟨w.heap.size + 1, 5, none⟩ = some (.slice none 0 0) := (blk_cell hz 5).trans rfl
  have hz_6 : w1.cell? ⟨w.heap.size + 1, 6, none⟩ = some (.slice none 0 0) := (blk_cell hz 6).trans rfl
  replace hz := Aside0.mk hz
  replace HB := Aside0.mk hB1
  clear hb1 hB1 hb2
  clear hz_0 hz_1 hz_2 hz_3 hz_4 hz_5 hz_6
  rcases hor with ⟨he, rfl⟩ | ⟨he, cs, rfl, hln⟩
  · have HE := Aside0.mk he
    clear he
    have hz0 : w1.cell? ⟨w.heap.size + 1, 0, none⟩ = some (.int .i64 0) := (blk_cell hz.out 0).trans rfl
    have hzf0 : w1.frozen? ⟨w.heap.size + 1, 0, none⟩ = false := blk_frozen hz.out 0
    have hz1 : w1.cell? ⟨w.heap.size + 1, 1, none⟩ = some (.int .i64 0) := (blk_cell hz.out 1).trans rfl
    have hzf1 : w1.frozen? ⟨w.heap.size + 1, 1, none⟩ = false := blk_frozen hz.out 1
    have hz2 : w1.cell? ⟨w.heap.size + 1, 2, none⟩ = some (.int .i64 0) := (blk_cell hz.out 2).trans rfl
    have hzf2 : w1.frozen? ⟨w.heap.size + 1, 2, none⟩ = false := blk_frozen hz.out 2
    have hz3 : w1.cell? ⟨w.heap.size + 1, 3, none⟩ = some (.slice none 0 0) := (blk_cell hz.out 3).trans rfl
    have hzf3 : w1.frozen? ⟨w.heap.size + 1, 3, none⟩ = false := blk_frozen hz.out 3
    have hz4 : w1.cell? ⟨w.heap.size + 1, 4, none⟩ = some (.slice none 0 0) := (blk_cell hz.out 4).trans rfl
    have hzf4 : w1.frozen? ⟨w.heap.size + 1, 4, none⟩ = false := blk_frozen hz.out 4
    have hz5 : w1.cell? ⟨w.heap.size + 1, 5, none⟩ = some (.slice none 0 0) := (blk_cell hz.out 5).trans rfl
    have hzf5 : w1.frozen? ⟨w.heap.size + 1, 5, none⟩ = false := blk_frozen hz.out 5
    have hz6 : w1.cell? ⟨w.heap.size + 1, 6, none⟩ = some (.slice none 0 0) := (blk_cell hz.out 6).trans rfl
    have hzf6 : w1.frozen? ⟨w.heap.size + 1, 6, none⟩ = false := blk_frozen hz.out 6
    go_wp2_with fail
    clear hz0 hzf0 hz1 hzf1 hz2 hzf2 hz3 hzf3 hz4 hzf4 hz5 hzf5 hz6 hzf6
    have HB_ := Aside0.mk (below_set (j := 6) (v := .slice none 0 0) (below_set (j := 5) (v := .slice none 0 0) (below_set (j := 4) (v := .slice none 0 0) (below_set (j := 3) (v := .slice none 0 0) (below_set (j := 2) (v := .int .i64 0) (below_set (j := 1) (v := .int .i64 0) (below_set (j := 0) (v := .int .i64 0) HB.out (show w.heap.size ≤ w.heap.size + 1 by omega)) (show w.heap.size ≤ w.heap.size + 1 by omega)) (show w.heap.size ≤ w.heap.size + 1 by omega)) (show w.heap.size ≤ w.heap.size + 1 by omega)) (show w.heap.size ≤ w.heap.size + 1 by omega)) (show w.heap.size ≤ w.heap.size + 1 by omega)) (show w.heap.size ≤ w.heap.size + 1 by omega))
    have hz_ := Aside0.mk (blk_put (cs' := #[.int .i64 0, .int .i64 0, .int .i64 0, .slice none 0 0, .slice none 0 0, .slice none 0 0, .slice none 0 0]) (blk_put (cs' := #[.int .i64 0, .int .i64 0, .int .i64 0, .slice none 0 0, .slice none 0 0, .slice none 0 0, .slice none 0 0]) (blk_put (cs' := #[.int .i64 0, .int .i64 0, .int .i64 0, .slice none 0 0, .slice none 0 0, .slice none 0 0, .slice none 0 0]) (blk_put (cs' := #[.int .i64 0, .int .i64 0, .int .i64 0, .slice none 0 0, .slice none 0 0, .slice none 0 0, .slice none 0 0]) (blk_put (cs' := #[.int .i64 0, .int .i64 0, .int .i64 0, .slice none 0 0, .slice none 0 0, .slice none 0 0, .slice none 0 0]) (blk_put (cs' := #[.int .i64 0, .int .i64 0, .int .i64 0, .slice none 0 0, .slice none 0 0, .slice none 0 0, .slice none 0 0]) (blk_put (cs' := #[.int .i64 0, .int .i64 0, .int .i64 0, .slice none 0 0, .slice none 0 0, .slice none 0 0, .slice none 0 0]) hz.out 0 (.int .i64 0) rfl) 1 (.int .i64 0) rfl) 2 (.int .i64 0) rfl) 3 (.slice none 0 0) rfl) 4 (.slice none 0 0) rfl) 5 (.slice none 0 0) rfl) 6 (.slice none 0 0) rfl)
    generalize (((((((w1).setCell ⟨w.heap.size + 1, 0, none⟩ (.int .i64 0)).setCell ⟨w.heap.size + 1, 1, none⟩ (.int .i64 0)).setCell ⟨w.heap.size + 1, 2, none⟩ (.int .i64 0)).setCell ⟨w.heap.size + 1, 3, none⟩ (.slice none 0 0)).setCell ⟨w.heap.size + 1, 4, none⟩ (.slice none 0 0)).setCell ⟨w.heap.size + 1, 5, none⟩ (.slice none 0 0)).setCell ⟨w.heap.size + 1, 6, none⟩ (.slice none 0 0) = W9 at *
    clear HB
    have HB := HB_
    clear HB_
    clear hz
    have hz := hz_
    clear hz_
    refine bodyPost_ret (results_cell_tmp rfl _ _ (w.heap.size + 1) 64 #[.int .i64 0, .int .i64 0, .int .i64 0, .slice none 0 0, .slice none 0 0, .slice none 0 0, .slice none 0 0] (0, 0) _ rfl hz.out Tryd.underlying64 rfl (by kernel_rfl)) rfl ⟨Or.inl ⟨HE.out, rfl⟩, HB.out⟩
  · rw [← HX.out] at hln
    obtain ⟨A1, c1, A2, c2, A3, c3, A4, c4, rfl, hcc, hF⟩ := hln
    have HE := Aside0.mk he
    have HF := Aside0.mk hF
    have HCC := Aside0.mk hcc
    clear he hF hcc
    have hz0 : w1.cell? ⟨w.heap.size + 1, 0, none⟩ = some (.int .i64 0) := (blk_cell hz.out 0).trans rfl
    have hzf0 : w1.frozen? ⟨w.heap.size + 1, 0, none⟩ = false := blk_frozen hz.out 0
    have hz1 : w1.cell? ⟨w.heap.size + 1, 1, none⟩ = some (.int .i64 0) := (blk_cell hz.out 1).trans rfl
    have hzf1 : w1.frozen? ⟨w.heap.size + 1, 1, none⟩ = false := blk_frozen hz.out 1
    have hz2 : w1.cell? ⟨w.heap.size + 1, 2, none⟩ = some (.int .i64 0) := (blk_cell hz.out 2).trans rfl
    have hzf2 : w1.frozen? ⟨w.heap.size + 1, 2, none⟩ = false := blk_frozen hz.out 2
    have hz3 : w1.cell? ⟨w.heap.size + 1, 3, none⟩ = some (.slice none 0 0) := (blk_cell hz.out 3).trans rfl
    have hzf3 : w1.frozen? ⟨w.heap.size + 1, 3, none⟩ = false := blk_frozen hz.out 3
    have hz4 : w1.cell? ⟨w.heap.size + 1, 4, none⟩ = some (.slice none 0 0) := (blk_cell hz.out 4).trans rfl
    have hzf4 : w1.frozen? ⟨w.heap.size + 1, 4, none⟩ = false := blk_frozen hz.out 4
    have hz5 : w1.cell? ⟨w.heap.size + 1, 5, none⟩ = some (.slice none 0 0) := (blk_cell hz.out 5).trans rfl
    have hzf5 : w1.frozen? ⟨w.heap.size + 1, 5, none⟩ = false := blk_frozen hz.out 5
    have hz6 : w1.cell? ⟨w.heap.size + 1, 6, none⟩ = some (.slice none 0 0) := (blk_cell hz.out 6).trans rfl
    have hzf6 : w1.frozen? ⟨w.heap.size + 1, 6, none⟩ = false := blk_frozen hz.out 6
    go_wp2_with fail
    clear hz0 hzf0 hz1 hzf1 hz2 hzf2 hz3 hzf3 hz4 hzf4 hz5 hzf5 hz6 hzf6
    have HK9 := Aside0.mk ((KeepBut.set_ (KeepBut.set_ (KeepBut.set_ (KeepBut.set_ (KeepBut.set_ (KeepBut.set_ (KeepBut.set_ (KeepBut.refl w1 (w.heap.size + 1) none) 0 (.int .i64 x.len)) 1 (.int .i64 x.kerf)) 2 (.int .i64 x.pitch)) 3 (.slice A1 x.sizes.length c1)) 4 (.slice A2 x.gain.length c2)) 5 (.slice A3 x.chip.length c3)) 6 (.slice A4 x.dust.length c4)))
    have HB_ := Aside0.mk (below_set (j := 6) (v := .slice A4 x.dust.length c4) (below_set (j := 5) (v := .slice A3 x.chip.length c3) (below_set (j := 4) (v := .slice A2 x.gain.length c2) (below_set (j := 3) (v := .slice A1 x.sizes.length c1) (below_set (j := 2) (v := .int .i64 x.pitch) (below_set (j := 1) (v := .int .i64 x.kerf) (below_set (j := 0) (v := .int .i64 x.len) HB.out (show w.heap.size ≤ w.heap.size + 1 by omega)) (show w.heap.size ≤ w.heap.size + 1 by omega)) (show w.heap.size ≤ w.heap.size + 1 by omega)) (show w.heap.size ≤ w.heap.size + 1 by omega)) (show w.heap.size ≤ w.heap.size + 1 by omega)) (show w.heap.size ≤ w.heap.size + 1 by omega)) (show w.heap.size ≤ w.heap.size + 1 by omega))
    have hz_ := Aside0.mk (blk_put (cs' := #[.int .i64 x.len, .int .i64 x.kerf, .int .i64 x.pitch, .slice A1 x.sizes.length c1, .slice A2 x.gain.length c2, .slice A3 x.chip.length c3, .slice A4 x.dust.length c4]) (blk_put (cs' := #[.int .i64 x.len, .int .i64 x.kerf, .int .i64 x.pitch, .slice A1 x.sizes.length c1, .slice A2 x.gain.length c2, .slice A3 x.chip.length c3, .slice none 0 0]) (blk_put (cs' := #[.int .i64 x.len, .int .i64 x.kerf, .int .i64 x.pitch, .slice A1 x.sizes.length c1, .slice A2 x.gain.length c2, .slice none 0 0, .slice none 0 0]) (blk_put (cs' := #[.int .i64 x.len, .int .i64 x.kerf, .int .i64 x.pitch, .slice A1 x.sizes.length c1, .slice none 0 0, .slice none 0 0, .slice none 0 0]) (blk_put (cs' := #[.int .i64 x.len, .int .i64 x.kerf, .int .i64 x.pitch, .slice none 0 0, .slice none 0 0, .slice none 0 0, .slice none 0 0]) (blk_put (cs' := #[.int .i64 x.len, .int .i64 x.kerf, .int .i64 0, .slice none 0 0, .slice none 0 0, .slice none 0 0, .slice none 0 0]) (blk_put (cs' := #[.int .i64 x.len, .int .i64 0, .int .i64 0, .slice none 0 0, .slice none 0 0, .slice none 0 0, .slice none 0 0]) hz.out 0 (.int .i64 x.len) rfl) 1 (.int .i64 x.kerf) rfl) 2 (.int .i64 x.pitch) rfl) 3 (.slice A1 x.sizes.length c1) rfl) 4 (.slice A2 x.gain.length c2) rfl) 5 (.slice A3 x.chip.length c3) rfl) 6 (.slice A4 x.dust.length c4) rfl)
    generalize (((((((w1).setCell ⟨w.heap.size + 1, 0, none⟩ (.int .i64 x.len)).setCell ⟨w.heap.size + 1, 1, none⟩ (.int .i64 x.kerf)).setCell ⟨w.heap.size + 1, 2, none⟩ (.int .i64 x.pitch)).setCell ⟨w.heap.size + 1, 3, none⟩ (.slice A1 x.sizes.length c1)).setCell ⟨w.heap.size + 1, 4, none⟩ (.slice A2 x.gain.length c2)).setCell ⟨w.heap.size + 1, 5, none⟩ (.slice A3 x.chip.length c3)).setCell ⟨w.heap.size + 1, 6, none⟩ (.slice A4 x.dust.length c4) = W9 at *
    clear HB
    have HB := HB_
    clear HB_
    clear hz
    have hz := hz_
    clear hz_
    refine bodyPost_ret (results_cell_tmp rfl _ _ (w.heap.size + 1) 64 #[.int .i64 x.len, .int .i64 x.kerf, .int .i64 x.pitch, .slice A1 x.sizes.length c1, .slice A2 x.gain.length c2, .slice A3 x.chip.length c3, .slice A4 x.dust.length c4] (0, 0) _ rfl hz.out Tryd.underlying64 rfl (by kernel_rfl)) rfl ⟨Or.inr ⟨HE.out, #[.int .i64 x.len, .int .i64 x.kerf, .int .i64 x.pitch, .slice A1 x.sizes.length c1, .slice A2 x.gain.length c2, .slice A3 x.chip.length c3, .slice A4 x.dust.length c4], rfl, A1, c1, A2, c2, A3, c3, A4, c4, rfl, HCC.out, fun W hf => HF.out W (Fr.trans (Fr.of_keep HK9.out (by simp)) (Fr.mono hf (by simp; omega)) HK9.out.1)⟩, HB.out⟩
set_option maxHeartbeats 8000000 in
set_option maxRecDepth 100000 in
theorem lbest_calls (A : Option Addr) (c : Nat) (l : List Slc) (A' : Option Addr) (c' : Nat) (d : List Dft) (Aq : Option Addr) (cq : Nat) (ps : List Prod) (xa xb ya yb kerf trim pitch step chip dust fine : Int) (w : World)
    (hl : Kd.C kSlc w A l.length l) (hd : Kd.C kDft w A' d.length d) (hp : Kd.C kProd w Aq ps.length ps) (hn : ∀ i, i < ps.length → (rd_Prod ps i).name.size ≤ 9223372036854775807) (hc : ps.length ≤ cq)
    (hn0 : w.cell? ⟨0, 0, none⟩ = some (.int .i64 (-1))) (hn1 : w.cell? ⟨0, 1, none⟩ = some (.int .i64 (-1))) (hn2 : w.cell? ⟨0, 2, none⟩ = some (.int .i64 0)) :
    Calls Tryd.prog 14 #[.agg #[.slice A l.length c, .slice A' d.length c', .slice Aq ps.length cq, .int .i64 xa, .int .i64 xb, .int .i64 ya, .int .i64 yb, .int .i64 kerf, .int .i64 trim, .int .i64 pitch, .int .i64 step, .int .i64 chip, .int .i64 dust, .int .i64 fine]] w fun e w' => (∃ A2 c2, e = .returned (.tuple #[.slice A2 (edgeBest l d ps ⟨⟨xa, xb⟩, ⟨ya, yb⟩⟩ ⟨kerf, trim, pitch, step⟩ ⟨chip, dust, fine⟩).1.length c2, .int .i64 (edgeBest l d ps ⟨⟨xa, xb⟩, ⟨ya, yb⟩⟩ ⟨kerf, trim, pitch, step⟩ ⟨chip, dust, fine⟩).2.1, .int .i64 (edgeBest l d ps ⟨⟨xa, xb⟩, ⟨ya, yb⟩⟩ ⟨kerf, trim, pitch, step⟩ ⟨chip, dust, fine⟩).2.2]) ∧ (edgeBest l d ps ⟨⟨xa, xb⟩, ⟨ya, yb⟩⟩ ⟨kerf, trim, pitch, step⟩ ⟨chip, dust, fine⟩).1.length ≤ c2 ∧ ∀ W, Fr w.heap.size w' W → Kd.C kNd W A2 (edgeBest l d ps ⟨⟨xa, xb⟩, ⟨ya, yb⟩⟩ ⟨kerf, trim, pitch, step⟩ ⟨chip, dust, fine⟩).1.length (edgeBest l d ps ⟨⟨xa, xb⟩, ⟨ya, yb⟩⟩ ⟨kerf, trim, pitch, step⟩ ⟨chip, dust, fine⟩).1) ∧ Below w.heap.size w w' := by
  have HB := Aside0.mk (Below.refl w.heap.size w)
  have HL := Aside0.mk hl
  have HD := Aside0.mk hd
  have HP := Aside0.mk hp
  have HN := Aside0.mk hn
  have HC := Aside0.mk hc
  clear hl hd hp hn hc
  have HN0 := Aside0.mk hn0
  have HN1 := Aside0.mk hn1
  have HN2 := Aside0.mk hn2
  clear hn0 hn1 hn2
  obtain ⟨R, hR⟩ : ∃ R, R = edgeBest l d ps ⟨⟨xa, xb⟩, ⟨ya, yb⟩⟩ ⟨kerf, trim, pitch, step⟩ ⟨chip, dust, fine⟩ := ⟨_, rfl⟩
  rw [← hR]
  have HR := Aside0.mk hR
  clear hR
  go_enter Tryd.func14, Tryd.ntmps14
  go_wp2_with fail
  refine (ebest_calls _ _ l _ _ d _ _ ps _ _ _ _ _ _ _ _ _ _ _ _ ?c1 ?c2 ?c3 ?c4 ?c5 ?c6 ?c7 ?c8).mono ?_
  case c1 => exact Kd.C_below HL.out BB
  case c2 => exact Kd.C_below HD.out BB
  case c3 => exact Kd.C_below HP.out BB
  case c4 => exact HN.out
  case c5 => exact HC.out
  case c6 => exact pw_cell_below BB HN0.out
  case c7 => exact pw_cell_below BB HN1.out
  case c8 => exact pw_cell_below BB HN2.out
  rintro e w1 ⟨⟨A2, c2, rfl, hl2, hF⟩, hb1⟩
  obtain ⟨hB1, hb2⟩ := adv HB.out hb1
  replace HB := Aside0.mk hB1
  clear hb1 hB1 hb2
  rw [← HR.out] at hl2 hF ⊢
  have HF := Aside0.mk hF
  have HL2 := Aside0.mk hl2
  clear hF hl2
  go_wp2_with fail
  refine bodyPost_ret (by simp [results, Tryd.results14, go_sem] <;> rfl) rfl ⟨⟨A2, c2, rfl, HL2.out, fun W hf => HF.out W (Fr.mono hf (by simp))⟩, HB.out⟩
end Go.Proofs.YtngpoonjonojhaaDoor
