/- Walks: which boards a rectangle can give. -/
import Derived.Test.YtngpoonjonojhaaDoorE11
import Derived.Test.YtngpoonjonojhaaDoorE08
import Derived.Test.YtngpoonjonojhaaDoorE12
import Derived.Test.YtngpoonjonojhaaDoorE07
import Derived.Test.YtngpoonjonojhaaDoorE03
import Derived.Test.YtngpoonjonojhaaDoorE04
import Derived.Test.YtngpoonjonojhaaDoorE13
import Derived.Test.YtngpoonjonojhaaDoorE09
import Derived.ChangeKeysEq
set_option linter.all false
namespace Go.Proofs.YtngpoonjonojhaaDoor
open Go.RowKit Go.Proofs.YtngpoonjonojhaaDoorW.PrintWords Go.Proofs.YtngpoonjonojhaaDoorW.PrintLast
set_option linter.unusedVariables false

theorem eq2 (a b c d : Int) (w : World) : (Op.equalIn 10000 190 (.agg #[.int .i64 a, .int .i64 b]) (.agg #[.int .i64 c, .int .i64 d])).run Tryd.prog w = .ok (a == c && b == d) w := by
  obtain ⟨i, hi⟩ : ∃ i, Tryd.prog.info? 3 = some i := by
    have h : (Tryd.prog.info? 3).isSome = true := by kernel_rfl
    cases e : Tryd.prog.info? 3 with
    | none => rw [e] at h; cases h
    | some i => exact ⟨i, rfl⟩
  have hc : Tryd.prog.cellsOf 3 = 1 := by kernel_rfl
  have hu : Tryd.prog.underlying 3 = some (.int .i64) := by kernel_rfl
  have p0 : ∀ (x y : Value), (part 3 #[x, y] (0 * 1)).run Tryd.prog w = .ok x w := fun x y => by kernel_rfl
  have p1 : ∀ (x y : Value), (part 3 #[x, y] (1 * 1)).run Tryd.prog w = .ok y w := fun x y => by kernel_rfl
  rw [show (10000 : Nat) = 9999 + 1 from rfl, run_equalIn_array w 9999 (n := 2) (e := 3) _ _ (by kernel_rfl) hi, hc, show List.range 2 = [0, 1] from rfl]
  simp only [Op.eqItems, Sem.run_bind, p0, p1, Result.andThen_ok]
  rw [show (9999 : Nat) = 9998 + 1 from rfl, run_equalIn_int w 9998 _ _ _ _ _ hu, Result.andThen_ok]
  cases h : a == c with
  | false => simp
  | true =>
    simp only [Bool.not_true, Bool.false_eq_true, if_false, Sem.run_bind, p1, Result.andThen_ok]
    rw [run_equalIn_int w 9998 _ _ _ _ _ hu, Result.andThen_ok]
    cases h2 : b == d <;> simp
theorem guard2 (x y : Operand) (a b : Array Value) (w : World) : (eqGuard .neq 190 x y (.agg a) (.agg b)).run Tryd.prog w = .ok () w := run_eqGuard_agg w _ _ _ _ _ _ (by kernel_rfl)
set_option maxHeartbeats 4000000 in
set_option maxRecDepth 100000 in
theorem look_calls (A : Option Addr) (c : Nat) (l : List Slc) (A' : Option Addr) (c' : Nat) (d : List Dft) (p : Prod) (A5 : Option Addr) (c5 : Nat) (A6 : Option Addr) (c6 : Nat) (r : Rect) (w : World)
    (hl : Kd.C kSlc w A l.length l) (hd : Kd.C kDft w A' d.length d) (hn : p.name.size ≤ 9223372036854775807) (l5 : p.lengths.length ≤ c5) (h5 : Kd.C (Kd.int .i64) w A5 p.lengths.length p.lengths) (l6 : p.prices.length ≤ c6) (h6 : Kd.C (Kd.int .i64) w A6 p.prices.length p.prices) :
    Calls Tryd.prog 98 #[.slice A l.length c, .slice A' d.length c', .agg #[.string p.name, .int .i64 p.thick, .int .i64 p.width, .int .i64 p.allow, .int .i64 p.wane, .slice A5 p.lengths.length c5, .slice A6 p.prices.length c6], .agg #[.int .i64 r.x.a, .int .i64 r.x.b, .int .i64 r.y.a, .int .i64 r.y.b]] w fun e w' => (lookOk l d p r = false ∧ e = .returned (.tuple #[.agg #[.slice none 0 0, .string ⟨#[]⟩, .int .i64 0, .int .i64 0, .int .i64 0, .int .i64 0, .slice none 0 0, .slice none 0 0, .int .i64 0, .int .i64 0, .int .i64 0, .int .i64 0, .int .i64 0, .slice none 0 0, .slice none 0 0], .bool false]) ∨ lookOk l d p r = true ∧ ∃ v v', e = .returned (.tuple #[.agg #[.slice A' d.length c', .string p.name, .int .i64 p.thick, .int .i64 p.width, .int .i64 p.allow, .int .i64 p.wane, .slice A5 p.lengths.length c5, .slice A6 p.prices.length c6, .int .i64 r.x.a, .int .i64 r.x.b, .int .i64 r.y.a, .int .i64 r.y.b, .int .i64 (solLen l), v, v'], .bool true]) ∧ OwnRow (fun p c => c = [.int .i64 p]) 3 1 w' w.heap.size v (endsTo l l.length) ∧ OwnRow (fun p c => c = [.int .i64 p]) 3 1 w' w.heap.size v' (wanesTo l r l.length)) ∧ Below w.heap.size w w' := by
  have HB := Aside0.mk (Below.refl w.heap.size w)
  have HL := Aside0.mk hl
  have HD := Aside0.mk hd
  have H5 := Aside0.mk h5
  have H6 := Aside0.mk h6
  have L5 := Aside0.mk l5
  have L6 := Aside0.mk l6
  have HN := Aside0.mk hn
  clear hl hd h5 h6 l5 l6 hn
  go_enter Tryd.func98, Tryd.ntmps98
  go_wp2_with fail
  refine (dftCheck_calls _ _ _ _ (Kd.C_below HD.out (by have h := HB.out; exact BB))).mono ?_
  rintro e w1 ⟨rfl, hb1⟩
  obtain ⟨hB1, hb2⟩ := adv HB.out hb1
  have HP : w1.heap[w.heap.size]? = some (.cells #[.string p.name, .int .i64 p.thick, .int .i64 p.width, .int .i64 p.allow, .int .i64 p.wane, .slice A5 p.lengths.length c5, .slice A6 p.prices.length c6] 43 (0, 0)) := blk_below (by repeat (first | exact blk_newi _ (by simp) | refine blk_drewN ?_ _ | refine blk_drew ?_ | refine blk_alloc ?_ _)) hb1
  have HP_0 : w1.cell? ⟨w.heap.size, 0, none⟩ = some (.string p.name) := (blk_cell HP 0).trans rfl
  have HP_1 : w1.cell? ⟨w.heap.size, 1, none⟩ = some (.int .i64 p.thick) := (blk_cell HP 1).trans rfl
  have HP_2 : w1.cell? ⟨w.heap.size, 2, none⟩ = some (.int .i64 p.width) := (blk_cell HP 2).trans rfl
  have HP_3 : w1.cell? ⟨w.heap.size, 3, none⟩ = some (.int .i64 p.allow) := (blk_cell HP 3).trans rfl
  have HP_4 : w1.cell? ⟨w.heap.size, 4, none⟩ = some (.int .i64 p.wane) := (blk_cell HP 4).trans rfl
  have HP_5 : w1.cell? ⟨w.heap.size, 5, none⟩ = some (.slice A5 p.lengths.length c5) := (blk_cell HP 5).trans rfl
  have HP_6 : w1.cell? ⟨w.heap.size, 6, none⟩ = some (.slice A6 p.prices.length c6) := (blk_cell HP 6).trans rfl
  replace HP := Aside0.mk HP
  have HR : w1.heap[w.heap.size + 1]? = some (.cells #[.int .i64 r.x.a, .int .i64 r.x.b, .int .i64 r.y.a, .int .i64 r.y.b] 35 (0, 0)) := blk_below (by repeat (first | exact blk_newi _ (by simp) | refine blk_drewN ?_ _ | refine blk_drew ?_ | refine blk_alloc ?_ _)) hb1
  have HR_0 : w1.cell? ⟨w.heap.size + 1, 0, none⟩ = some (.int .i64 r.x.a) := (blk_cell HR 0).trans rfl
  have HR_1 : w1.cell? ⟨w.heap.size + 1, 1, none⟩ = some (.int .i64 r.x.b) := (blk_cell HR 1).trans rfl
  have HR_2 : w1.cell? ⟨w.heap.size + 1, 2, none⟩ = some (.int .i64 r.y.a) := (blk_cell HR 2).trans rfl
  have HR_3 : w1.cell? ⟨w.heap.size + 1, 3, none⟩ = some (.int .i64 r.y.b) := (blk_cell HR 3).trans rfl
  replace HR := Aside0.mk HR
  have HZ : w1.heap[w.heap.size + 1 + 1]? = some (.cells #[.slice none 0 0, .string ⟨#[]⟩, .int .i64 0, .int .i64 0, .int .i64 0, .int .i64 0, .slice none 0 0, .slice none 0 0, .int .i64 0, .int .i64 0, .int .i64 0, .int .i64 0, .int .i64 0, .slice none 0 0, .slice none 0 0] 180 (0, 0)) := blk_below (by repeat (first | exact blk_newi _ (by simp) | refine blk_drewN ?_ _ | refine blk_drew ?_ | refine blk_alloc ?_ _)) hb1
  have HZ_0 : w1.cell? ⟨w.heap.size + 1 + 1, 0, none⟩ = some (.slice none 0 0) := (blk_cell HZ 0).trans rfl
  have HZ_1 : w1.cell? ⟨w.heap.size + 1 + 1, 1, none⟩ = some (.string ⟨#[]⟩) := (blk_cell HZ 1).trans rfl
  have HZ_2 : w1.cell? ⟨w.heap.size + 1 + 1, 2, none⟩ = some (.int .i64 0) := (blk_cell HZ 2).trans rfl
  have HZ_3 : w1.cell? ⟨w.heap.size + 1 + 1, 3, none⟩ = some (.int .i64 0) := (blk_cell HZ 3).trans rfl
  have HZ_4 : w1.cell? ⟨w.heap.size + 1 + 1, 4, none⟩ = some (.int .i64 0) := (blk_cell HZ 4).trans rfl
  have HZ_5 : w1.cell? ⟨w.heap.size + 1 + 1, 5, none⟩ = some (.int .i64 0) := (blk_cell HZ 5).trans rfl
  have HZ_6 : w1.cell? ⟨w.heap.size + 1 + 1, 6, none⟩ = some (.slice none 0 0) := (blk_cell HZ 6).trans rfl
  have HZ_7 : w1.cell? ⟨w.heap.size + 1 + 1, 7, none⟩ = some (.slice none 0 0) := (blk_cell HZ 7).trans rfl
  have HZ_8 : w1.cell? ⟨w.heap.size + 1 + 1, 8, none⟩ = some (.int .i64 0) := (blk_cell HZ 8).trans rfl
  have HZ_9 : w1.cell? ⟨w.heap.size + 1 + 1, 9, none⟩ = some (.int .i64 0) := (blk_cell HZ 9).trans rfl
  have HZ_10 : w1.cell? ⟨w.heap.size + 1 + 1, 10, none⟩ = some (.int .i64 0) := (blk_cell HZ 10).trans rfl
  have HZ_11 : w1.cell? ⟨w.heap.size + 1 + 1, 11, none⟩ = some (.int .i64 0) := (blk_cell HZ 11).trans rfl
  have HZ_12 : w1.cell? ⟨w.heap.size + 1 + 1, 12, none⟩ = some (.int .i64 0) := (blk_cell HZ 12).trans rfl
  have HZ_13 : w1.cell? ⟨w.heap.size + 1 + 1, 13, none⟩ = some (.slice none 0 0) := (blk_cell HZ 13).trans rfl
  have HZ_14 : w1.cell? ⟨w.heap.size + 1 + 1, 14, none⟩ = some (.slice none 0 0) := (blk_cell HZ 14).trans rfl
  replace HZ := Aside0.mk HZ
  replace HB := Aside0.mk hB1
  clear hb1 hB1 hb2
  clear HZ_0 HZ_1 HZ_2 HZ_3 HZ_4 HZ_5 HZ_6 HZ_7 HZ_8 HZ_9 HZ_10 HZ_11 HZ_12 HZ_13 HZ_14 HR_0 HR_1 HR_2 HR_3
  by_cases h1 : dftCheck d = 0
  case neg =>
    have HNO := Aside0.mk (show lookOk l d p r = false by unfold lookOk; rw [decide_eq_false h1]; rfl)
    have hz0 : w1.cell? ⟨w.heap.size + 1 + 1, 0, none⟩ = some (.slice none 0 0) := (blk_cell HZ.out 0).trans rfl
    have hzf0 : w1.frozen? ⟨w.heap.size + 1 + 1, 0, none⟩ = false := blk_frozen HZ.out 0
    have hz1 : w1.cell? ⟨w.heap.size + 1 + 1, 1, none⟩ = some (.string ⟨#[]⟩) := (blk_cell HZ.out 1).trans rfl
    have hzf1 : w1.frozen? ⟨w.heap.size + 1 + 1, 1, none⟩ = false := blk_frozen HZ.out 1
    have hz2 : w1.cell? ⟨w.heap.size + 1 + 1, 2, none⟩ = some (.int .i64 0) := (blk_cell HZ.out 2).trans rfl
    have hzf2 : w1.frozen? ⟨w.heap.size + 1 + 1, 2, none⟩ = false := blk_frozen HZ.out 2
    have hz3 : w1.cell? ⟨w.heap.size + 1 + 1, 3, none⟩ = some (.int .i64 0) := (blk_cell HZ.out 3).trans rfl
    have hzf3 : w1.frozen? ⟨w.heap.size + 1 + 1, 3, none⟩ = false := blk_frozen HZ.out 3
    have hz4 : w1.cell? ⟨w.heap.size + 1 + 1, 4, none⟩ = some (.int .i64 0) := (blk_cell HZ.out 4).trans rfl
    have hzf4 : w1.frozen? ⟨w.heap.size + 1 + 1, 4, none⟩ = false := blk_frozen HZ.out 4
    have hz5 : w1.cell? ⟨w.heap.size + 1 + 1, 5, none⟩ = some (.int .i64 0) := (blk_cell HZ.out 5).trans rfl
    have hzf5 : w1.frozen? ⟨w.heap.size + 1 + 1, 5, none⟩ = false := blk_frozen HZ.out 5
    have hz6 : w1.cell? ⟨w.heap.size + 1 + 1, 6, none⟩ = some (.slice none 0 0) := (blk_cell HZ.out 6).trans rfl
    have hzf6 : w1.frozen? ⟨w.heap.size + 1 + 1, 6, none⟩ = false := blk_frozen HZ.out 6
    have hz7 : w1.cell? ⟨w.heap.size + 1 + 1, 7, none⟩ = some (.slice none 0 0) := (blk_cell HZ.out 7).trans rfl
    have hzf7 : w1.frozen? ⟨w.heap.size + 1 + 1, 7, none⟩ = false := blk_frozen HZ.out 7
    have hz8 : w1.cell? ⟨w.heap.size + 1 + 1, 8, none⟩ = some (.int .i64 0) := (blk_cell HZ.out 8).trans rfl
    have hzf8 : w1.frozen? ⟨w.heap.size + 1 + 1, 8, none⟩ = false := blk_frozen HZ.out 8
    have hz9 : w1.cell? ⟨w.heap.size + 1 + 1, 9, none⟩ = some (.int .i64 0) := (blk_cell HZ.out 9).trans rfl
    have hzf9 : w1.frozen? ⟨w.heap.size + 1 + 1, 9, none⟩ = false := blk_frozen HZ.out 9
    have hz10 : w1.cell? ⟨w.heap.size + 1 + 1, 10, none⟩ = some (.int .i64 0) := (blk_cell HZ.out 10).trans rfl
    have hzf10 : w1.frozen? ⟨w.heap.size + 1 + 1, 10, none⟩ = false := blk_frozen HZ.out 10
    have hz11 : w1.cell? ⟨w.heap.size + 1 + 1, 11, none⟩ = some (.int .i64 0) := (blk_cell HZ.out 11).trans rfl
    have hzf11 : w1.frozen? ⟨w.heap.size + 1 + 1, 11, none⟩ = false := blk_frozen HZ.out 11
    have hz12 : w1.cell? ⟨w.heap.size + 1 + 1, 12, none⟩ = some (.int .i64 0) := (blk_cell HZ.out 12).trans rfl
    have hzf12 : w1.frozen? ⟨w.heap.size + 1 + 1, 12, none⟩ = false := blk_frozen HZ.out 12
    have hz13 : w1.cell? ⟨w.heap.size + 1 + 1, 13, none⟩ = some (.slice none 0 0) := (blk_cell HZ.out 13).trans rfl
    have hzf13 : w1.frozen? ⟨w.heap.size + 1 + 1, 13, none⟩ = false := blk_frozen HZ.out 13
    have hz14 : w1.cell? ⟨w.heap.size + 1 + 1, 14, none⟩ = some (.slice none 0 0) := (blk_cell HZ.out 14).trans rfl
    have hzf14 : w1.frozen? ⟨w.heap.size + 1 + 1, 14, none⟩ = false := blk_frozen HZ.out 14
    go_wp2_with fail
    clear hz0 hzf0 hz1 hzf1 hz2 hzf2 hz3 hzf3 hz4 hzf4 hz5 hzf5 hz6 hzf6 hz7 hzf7 hz8 hzf8 hz9 hzf9 hz10 hzf10 hz11 hzf11 hz12 hzf12 hz13 hzf13 hz14 hzf14
    have HB_ := Aside0.mk (below_set (j := 14) (v := .slice none 0 0) (below_set (j := 13) (v := .slice none 0 0) (below_set (j := 12) (v := .int .i64 0) (below_set (j := 11) (v := .int .i64 0) (below_set (j := 10) (v := .int .i64 0) (below_set (j := 9) (v := .int .i64 0) (below_set (j := 8) (v := .int .i64 0) (below_set (j := 7) (v := .slice none 0 0) (below_set (j := 6) (v := .slice none 0 0) (below_set (j := 5) (v := .int .i64 0) (below_set (j := 4) (v := .int .i64 0) (below_set (j := 3) (v := .int .i64 0) (below_set (j := 2) (v := .int .i64 0) (below_set (j := 1) (v := .string ⟨#[]⟩) (below_set (j := 0) (v := .slice none 0 0) HB.out (show w.heap.size ≤ w.heap.size + 1 + 1 by omega)) (show w.heap.size ≤ w.heap.size + 1 + 1 by omega)) (show w.heap.size ≤ w.heap.size + 1 + 1 by omega)) (show w.heap.size ≤ w.heap.size + 1 + 1 by omega)) (show w.heap.size ≤ w.heap.size + 1 + 1 by omega)) (show w.heap.size ≤ w.heap.size + 1 + 1 by omega)) (show w.heap.size ≤ w.heap.size + 1 + 1 by omega)) (show w.heap.size ≤ w.heap.size + 1 + 1 by omega)) (show w.heap.size ≤ w.heap.size + 1 + 1 by omega)) (show w.heap.size ≤ w.heap.size + 1 + 1 by omega)) (show w.heap.size ≤ w.heap.size + 1 + 1 by omega)) (show w.heap.size ≤ w.heap.size + 1 + 1 by omega)) (show w.heap.size ≤ w.heap.size + 1 + 1 by omega)) (show w.heap.size ≤ w.heap.size + 1 + 1 by omega)) (show w.heap.size ≤ w.heap.size + 1 + 1 by omega))
    have HZ_ := Aside0.mk (blk_put (cs' := #[.slice none 0 0, .string ⟨#[]⟩, .int .i64 0, .int .i64 0, .int .i64 0, .int .i64 0, .slice none 0 0, .slice none 0 0, .int .i64 0, .int .i64 0, .int .i64 0, .int .i64 0, .int .i64 0, .slice none 0 0, .slice none 0 0]) (blk_put (cs' := #[.slice none 0 0, .string ⟨#[]⟩, .int .i64 0, .int .i64 0, .int .i64 0, .int .i64 0, .slice none 0 0, .slice none 0 0, .int .i64 0, .int .i64 0, .int .i64 0, .int .i64 0, .int .i64 0, .slice none 0 0, .slice none 0 0]) (blk_put (cs' := #[.slice none 0 0, .string ⟨#[]⟩, .int .i64 0, .int .i64 0, .int .i64 0, .int .i64 0, .slice none 0 0, .slice none 0 0, .int .i64 0, .int .i64 0, .int .i64 0, .int .i64 0, .int .i64 0, .slice none 0 0, .slice none 0 0]) (blk_put (cs' := #[.slice none 0 0, .string ⟨#[]⟩, .int .i64 0, .int .i64 0, .int .i64 0, .int .i64 0, .slice none 0 0, .slice none 0 0, .int .i64 0, .int .i64 0, .int .i64 0, .int .i64 0, .int .i64 0, .slice none 0 0, .slice none 0 0]) (blk_put (cs' := #[.slice none 0 0, .string ⟨#[]⟩, .int .i64 0, .int .i64 0, .int .i64 0, .int .i64 0, .slice none 0 0, .slice none 0 0, .int .i64 0, .int .i64 0, .int .i64 0, .int .i64 0, .int .i64 0, .slice none 0 0, .slice none 0 0]) (blk_put (cs' := #[.slice none 0 0, .string ⟨#[]⟩, .int .i64 0, .int .i64 0, .int .i64 0, .int .i64 0, .slice none 0 0, .slice none 0 0, .int .i64 0, .int .i64 0, .int .i64 0, .int .i64 0, .int .i64 0, .slice none 0 0, .slice none 0 0]) (blk_put (cs' := #[.slice none 0 0, .string ⟨#[]⟩, .int .i64 0, .int .i64 0, .int .i64 0, .int .i64 0, .slice none 0 0, .slice none 0 0, .int .i64 0, .int .i64 0, .int .i64 0, .int .i64 0, .int .i64 0, .slice none 0 0, .slice none 0 0]) (blk_put (cs' := #[.slice none 0 0, .string ⟨#[]⟩, .int .i64 0, .int .i64 0, .int .i64 0, .int .i64 0, .slice none 0 0, .slice none 0 0, .int .i64 0, .int .i64 0, .int .i64 0, .int .i64 0, .int .i64 0, .slice none 0 0, .slice none 0 0]) (blk_put (cs' := #[.slice none 0 0, .string ⟨#[]⟩, .int .i64 0, .int .i64 0, .int .i64 0, .int .i64 0, .slice none 0 0, .slice none 0 0, .int .i64 0, .int .i64 0, .int .i64 0, .int .i64 0, .int .i64 0, .slice none 0 0, .slice none 0 0]) (blk_put (cs' := #[.slice none 0 0, .string ⟨#[]⟩, .int .i64 0, .int .i64 0, .int .i64 0, .int .i64 0, .slice none 0 0, .slice none 0 0, .int .i64 0, .int .i64 0, .int .i64 0, .int .i64 0, .int .i64 0, .slice none 0 0, .slice none 0 0]) (blk_put (cs' := #[.slice none 0 0, .string ⟨#[]⟩, .int .i64 0, .int .i64 0, .int .i64 0, .int .i64 0, .slice none 0 0, .slice none 0 0, .int .i64 0, .int .i64 0, .int .i64 0, .int .i64 0, .int .i64 0, .slice none 0 0, .slice none 0 0]) (blk_put (cs' := #[.slice none 0 0, .string ⟨#[]⟩, .int .i64 0, .int .i64 0, .int .i64 0, .int .i64 0, .slice none 0 0, .slice none 0 0, .int .i64 0, .int .i64 0, .int .i64 0, .int .i64 0, .int .i64 0, .slice none 0 0, .slice none 0 0]) (blk_put (cs' := #[.slice none 0 0, .string ⟨#[]⟩, .int .i64 0, .int .i64 0, .int .i64 0, .int .i64 0, .slice none 0 0, .slice none 0 0, .int .i64 0, .int .i64 0, .int .i64 0, .int .i64 0, .int .i64 0, .slice none 0 0, .slice none 0 0]) (blk_put (cs' := #[.slice none 0 0, .string ⟨#[]⟩, .int .i64 0, .int .i64 0, .int .i64 0, .int .i64 0, .slice none 0 0, .slice none 0 0, .int .i64 0, .int .i64 0, .int .i64 0, .int .i64 0, .int .i64 0, .slice none 0 0, .slice none 0 0]) (blk_put (cs' := #[.slice none 0 0, .string ⟨#[]⟩, .int .i64 0, .int .i64 0, .int .i64 0, .int .i64 0, .slice none 0 0, .slice none 0 0, .int .i64 0, .int .i64 0, .int .i64 0, .int .i64 0, .int .i64 0, .slice none 0 0, .slice none 0 0]) HZ.out 0 (.slice none 0 0) rfl) 1 (.string ⟨#[]⟩) rfl) 2 (.int .i64 0) rfl) 3 (.int .i64 0) rfl) 4 (.int .i64 0) rfl) 5 (.int .i64 0) rfl) 6 (.slice none 0 0) rfl) 7 (.slice none 0 0) rfl) 8 (.int .i64 0) rfl) 9 (.int .i64 0) rfl) 10 (.int .i64 0) rfl) 11 (.int .i64 0) rfl) 12 (.int .i64 0) rfl) 13 (.slice none 0 0) rfl) 14 (.slice none 0 0) rfl)
    generalize (((((((((((((((w1).setCell ⟨w.heap.size + 1 + 1, 0, none⟩ (.slice none 0 0)).setCell ⟨w.heap.size + 1 + 1, 1, none⟩ (.string ⟨#[]⟩)).setCell ⟨w.heap.size + 1 + 1, 2, none⟩ (.int .i64 0)).setCell ⟨w.heap.size + 1 + 1, 3, none⟩ (.int .i64 0)).setCell ⟨w.heap.size + 1 + 1, 4, none⟩ (.int .i64 0)).setCell ⟨w.heap.size + 1 + 1, 5, none⟩ (.int .i64 0)).setCell ⟨w.heap.size + 1 + 1, 6, none⟩ (.slice none 0 0)).setCell ⟨w.heap.size + 1 + 1, 7, none⟩ (.slice none 0 0)).setCell ⟨w.heap.size + 1 + 1, 8, none⟩ (.int .i64 0)).setCell ⟨w.heap.size + 1 + 1, 9, none⟩ (.int .i64 0)).setCell ⟨w.heap.size + 1 + 1, 10, none⟩ (.int .i64 0)).setCell ⟨w.heap.size + 1 + 1, 11, none⟩ (.int .i64 0)).setCell ⟨w.heap.size + 1 + 1, 12, none⟩ (.int .i64 0)).setCell ⟨w.heap.size + 1 + 1, 13, none⟩ (.slice none 0 0)).setCell ⟨w.heap.size + 1 + 1, 14, none⟩ (.slice none 0 0) = W9 at *
    clear HB
    have HB := HB_
    clear HB_
    clear HZ
    have HZ := HZ_
    clear HZ_
    refine bodyPost_ret (results_cell_tmp rfl _ _ (w.heap.size + 1 + 1) 180 #[.slice none 0 0, .string ⟨#[]⟩, .int .i64 0, .int .i64 0, .int .i64 0, .int .i64 0, .slice none 0 0, .slice none 0 0, .int .i64 0, .int .i64 0, .int .i64 0, .int .i64 0, .int .i64 0, .slice none 0 0, .slice none 0 0] (0, 0) _ rfl HZ.out Tryd.underlying180 rfl (by kernel_rfl)) rfl ⟨Or.inl ⟨HNO.out, rfl⟩, HB.out⟩
  have H1 := Aside0.mk h1
  go_wp2_with fail
  refine (catCheck_calls _ _ [p] _ ?c1 ?c2 (by simp)).mono ?_
  case c1 => exact (fun i hi => by have hi0 : i = 0 := (by simpa using hi); subst hi0; exact HN.out)
  case c2 => exact (C_one (blk_newi _ (by simp)) (kProd_mk _ p L5.out (Kd.C_below H5.out (by have h := HB.out; exact BB)) L6.out (Kd.C_below H6.out (by have h := HB.out; exact BB))))
  rintro e w2 ⟨rfl, hb1⟩
  obtain ⟨hB1, hb2⟩ := adv HB.out hb1
  replace HP := Aside0.mk (blk_below HP.out hb2)
  replace HR := Aside0.mk (blk_below HR.out hb2)
  replace HZ := Aside0.mk (blk_below HZ.out hb2)
  replace HB := Aside0.mk hB1
  clear hb1 hB1 hb2
  clear HP_0 HP_1 HP_2 HP_3 HP_4 HP_5 HP_6 h1
  by_cases h2 : catCheck [p] = 0
  case neg =>
    have HNO := Aside0.mk (show lookOk l d p r = false by unfold lookOk; rw [decide_eq_false h2, Bool.and_false]; rfl)
    have hz0 : w2.cell? ⟨w.heap.size + 1 + 1, 0, none⟩ = some (.slice none 0 0) := (blk_cell HZ.out 0).trans rfl
    have hzf0 : w2.frozen? ⟨w.heap.size + 1 + 1, 0, none⟩ = false := blk_frozen HZ.out 0
    have hz1 : w2.cell? ⟨w.heap.size + 1 + 1, 1, none⟩ = some (.string ⟨#[]⟩) := (blk_cell HZ.out 1).trans rfl
    have hzf1 : w2.frozen? ⟨w.heap.size + 1 + 1, 1, none⟩ = false := blk_frozen HZ.out 1
    have hz2 : w2.cell? ⟨w.heap.size + 1 + 1, 2, none⟩ = some (.int .i64 0) := (blk_cell HZ.out 2).trans rfl
    have hzf2 : w2.frozen? ⟨w.heap.size + 1 + 1, 2, none⟩ = false := blk_frozen HZ.out 2
    have hz3 : w2.cell? ⟨w.heap.size + 1 + 1, 3, none⟩ = some (.int .i64 0) := (blk_cell HZ.out 3).trans rfl
    have hzf3 : w2.frozen? ⟨w.heap.size + 1 + 1, 3, none⟩ = false := blk_frozen HZ.out 3
    have hz4 : w2.cell? ⟨w.heap.size + 1 + 1, 4, none⟩ = some (.int .i64 0) := (blk_cell HZ.out 4).trans rfl
    have hzf4 : w2.frozen? ⟨w.heap.size + 1 + 1, 4, none⟩ = false := blk_frozen HZ.out 4
    have hz5 : w2.cell? ⟨w.heap.size + 1 + 1, 5, none⟩ = some (.int .i64 0) := (blk_cell HZ.out 5).trans rfl
    have hzf5 : w2.frozen? ⟨w.heap.size + 1 + 1, 5, none⟩ = false := blk_frozen HZ.out 5
    have hz6 : w2.cell? ⟨w.heap.size + 1 + 1, 6, none⟩ = some (.slice none 0 0) := (blk_cell HZ.out 6).trans rfl
    have hzf6 : w2.frozen? ⟨w.heap.size + 1 + 1, 6, none⟩ = false := blk_frozen HZ.out 6
    have hz7 : w2.cell? ⟨w.heap.size + 1 + 1, 7, none⟩ = some (.slice none 0 0) := (blk_cell HZ.out 7).trans rfl
    have hzf7 : w2.frozen? ⟨w.heap.size + 1 + 1, 7, none⟩ = false := blk_frozen HZ.out 7
    have hz8 : w2.cell? ⟨w.heap.size + 1 + 1, 8, none⟩ = some (.int .i64 0) := (blk_cell HZ.out 8).trans rfl
    have hzf8 : w2.frozen? ⟨w.heap.size + 1 + 1, 8, none⟩ = false := blk_frozen HZ.out 8
    have hz9 : w2.cell? ⟨w.heap.size + 1 + 1, 9, none⟩ = some (.int .i64 0) := (blk_cell HZ.out 9).trans rfl
    have hzf9 : w2.frozen? ⟨w.heap.size + 1 + 1, 9, none⟩ = false := blk_frozen HZ.out 9
    have hz10 : w2.cell? ⟨w.heap.size + 1 + 1, 10, none⟩ = some (.int .i64 0) := (blk_cell HZ.out 10).trans rfl
    have hzf10 : w2.frozen? ⟨w.heap.size + 1 + 1, 10, none⟩ = false := blk_frozen HZ.out 10
    have hz11 : w2.cell? ⟨w.heap.size + 1 + 1, 11, none⟩ = some (.int .i64 0) := (blk_cell HZ.out 11).trans rfl
    have hzf11 : w2.frozen? ⟨w.heap.size + 1 + 1, 11, none⟩ = false := blk_frozen HZ.out 11
    have hz12 : w2.cell? ⟨w.heap.size + 1 + 1, 12, none⟩ = some (.int .i64 0) := (blk_cell HZ.out 12).trans rfl
    have hzf12 : w2.frozen? ⟨w.heap.size + 1 + 1, 12, none⟩ = false := blk_frozen HZ.out 12
    have hz13 : w2.cell? ⟨w.heap.size + 1 + 1, 13, none⟩ = some (.slice none 0 0) := (blk_cell HZ.out 13).trans rfl
    have hzf13 : w2.frozen? ⟨w.heap.size + 1 + 1, 13, none⟩ = false := blk_frozen HZ.out 13
    have hz14 : w2.cell? ⟨w.heap.size + 1 + 1, 14, none⟩ = some (.slice none 0 0) := (blk_cell HZ.out 14).trans rfl
    have hzf14 : w2.frozen? ⟨w.heap.size + 1 + 1, 14, none⟩ = false := blk_frozen HZ.out 14
    go_wp2_with fail
    clear hz0 hzf0 hz1 hzf1 hz2 hzf2 hz3 hzf3 hz4 hzf4 hz5 hzf5 hz6 hzf6 hz7 hzf7 hz8 hzf8 hz9 hzf9 hz10 hzf10 hz11 hzf11 hz12 hzf12 hz13 hzf13 hz14 hzf14
    have HB_ := Aside0.mk (below_set (j := 14) (v := .slice none 0 0) (below_set (j := 13) (v := .slice none 0 0) (below_set (j := 12) (v := .int .i64 0) (below_set (j := 11) (v := .int .i64 0) (below_set (j := 10) (v := .int .i64 0) (below_set (j := 9) (v := .int .i64 0) (below_set (j := 8) (v := .int .i64 0) (below_set (j := 7) (v := .slice none 0 0) (below_set (j := 6) (v := .slice none 0 0) (below_set (j := 5) (v := .int .i64 0) (below_set (j := 4) (v := .int .i64 0) (below_set (j := 3) (v := .int .i64 0) (below_set (j := 2) (v := .int .i64 0) (below_set (j := 1) (v := .string ⟨#[]⟩) (below_set (j := 0) (v := .slice none 0 0) HB.out (show w.heap.size ≤ w.heap.size + 1 + 1 by omega)) (show w.heap.size ≤ w.heap.size + 1 + 1 by omega)) (show w.heap.size ≤ w.heap.size + 1 + 1 by omega)) (show w.heap.size ≤ w.heap.size + 1 + 1 by omega)) (show w.heap.size ≤ w.heap.size + 1 + 1 by omega)) (show w.heap.size ≤ w.heap.size + 1 + 1 by omega)) (show w.heap.size ≤ w.heap.size + 1 + 1 by omega)) (show w.heap.size ≤ w.heap.size + 1 + 1 by omega)) (show w.heap.size ≤ w.heap.size + 1 + 1 by omega)) (show w.heap.size ≤ w.heap.size + 1 + 1 by omega)) (show w.heap.size ≤ w.heap.size + 1 + 1 by omega)) (show w.heap.size ≤ w.heap.size + 1 + 1 by omega)) (show w.heap.size ≤ w.heap.size + 1 + 1 by omega)) (show w.heap.size ≤ w.heap.size + 1 + 1 by omega)) (show w.heap.size ≤ w.heap.size + 1 + 1 by omega))
    have HZ_ := Aside0.mk (blk_put (cs' := #[.slice none 0 0, .string ⟨#[]⟩, .int .i64 0, .int .i64 0, .int .i64 0, .int .i64 0, .slice none 0 0, .slice none 0 0, .int .i64 0, .int .i64 0, .int .i64 0, .int .i64 0, .int .i64 0, .slice none 0 0, .slice none 0 0]) (blk_put (cs' := #[.slice none 0 0, .string ⟨#[]⟩, .int .i64 0, .int .i64 0, .int .i64 0, .int .i64 0, .slice none 0 0, .slice none 0 0, .int .i64 0, .int .i64 0, .int .i64 0, .int .i64 0, .int .i64 0, .slice none 0 0, .slice none 0 0]) (blk_put (cs' := #[.slice none 0 0, .string ⟨#[]⟩, .int .i64 0, .int .i64 0, .int .i64 0, .int .i64 0, .slice none 0 0, .slice none 0 0, .int .i64 0, .int .i64 0, .int .i64 0, .int .i64 0, .int .i64 0, .slice none 0 0, .slice none 0 0]) (blk_put (cs' := #[.slice none 0 0, .string ⟨#[]⟩, .int .i64 0, .int .i64 0, .int .i64 0, .int .i64 0, .slice none 0 0, .slice none 0 0, .int .i64 0, .int .i64 0, .int .i64 0, .int .i64 0, .int .i64 0, .slice none 0 0, .slice none 0 0]) (blk_put (cs' := #[.slice none 0 0, .string ⟨#[]⟩, .int .i64 0, .int .i64 0, .int .i64 0, .int .i64 0, .slice none 0 0, .slice none 0 0, .int .i64 0, .int .i64 0, .int .i64 0, .int .i64 0, .int .i64 0, .slice none 0 0, .slice none 0 0]) (blk_put (cs' := #[.slice none 0 0, .string ⟨#[]⟩, .int .i64 0, .int .i64 0, .int .i64 0, .int .i64 0, .slice none 0 0, .slice none 0 0, .int .i64 0, .int .i64 0, .int .i64 0, .int .i64 0, .int .i64 0, .slice none 0 0, .slice none 0 0]) (blk_put (cs' := #[.slice none 0 0, .string ⟨#[]⟩, .int .i64 0, .int .i64 0, .int .i64 0, .int .i64 0, .slice none 0 0, .slice none 0 0, .int .i64 0, .int .i64 0, .int .i64 0, .int .i64 0, .int .i64 0, .slice none 0 0, .slice none 0 0]) (blk_put (cs' := #[.slice none 0 0, .string ⟨#[]⟩, .int .i64 0, .int .i64 0, .int .i64 0, .int .i64 0, .slice none 0 0, .slice none 0 0, .int .i64 0, .int .i64 0, .int .i64 0, .int .i64 0, .int .i64 0, .slice none 0 0, .slice none 0 0]) (blk_put (cs' := #[.slice none 0 0, .string ⟨#[]⟩, .int .i64 0, .int .i64 0, .int .i64 0, .int .i64 0, .slice none 0 0, .slice none 0 0, .int .i64 0, .int .i64 0, .int .i64 0, .int .i64 0, .int .i64 0, .slice none 0 0, .slice none 0 0]) (blk_put (cs' := #[.slice none 0 0, .string ⟨#[]⟩, .int .i64 0, .int .i64 0, .int .i64 0, .int .i64 0, .slice none 0 0, .slice none 0 0, .int .i64 0, .int .i64 0, .int .i64 0, .int .i64 0, .int .i64 0, .slice none 0 0, .slice none 0 0]) (blk_put (cs' := #[.slice none 0 0, .string ⟨#[]⟩, .int .i64 0, .int .i64 0, .int .i64 0, .int .i64 0, .slice none 0 0, .slice none 0 0, .int .i64 0, .int .i64 0, .int .i64 0, .int .i64 0, .int .i64 0, .slice none 0 0, .slice none 0 0]) (blk_put (cs' := #[.slice none 0 0, .string ⟨#[]⟩, .int .i64 0, .int .i64 0, .int .i64 0, .int .i64 0, .slice none 0 0, .slice none 0 0, .int .i64 0, .int .i64 0, .int .i64 0, .int .i64 0, .int .i64 0, .slice none 0 0, .slice none 0 0]) (blk_put (cs' := #[.slice none 0 0, .string ⟨#[]⟩, .int .i64 0, .int .i64 0, .int .i64 0, .int .i64 0, .slice none 0 0, .slice none 0 0, .int .i64 0, .int .i64 0, .int .i64 0, .int .i64 0, .int .i64 0, .slice none 0 0, .slice none 0 0]) (blk_put (cs' := #[.slice none 0 0, .string ⟨#[]⟩, .int .i64 0, .int .i64 0, .int .i64 0, .int .i64 0, .slice none 0 0, .slice none 0 0, .int .i64 0, .int .i64 0, .int .i64 0, .int .i64 0, .int .i64 0, .slice none 0 0, .slice none 0 0]) (blk_put (cs' := #[.slice none 0 0, .string ⟨#[]⟩, .int .i64 0, .int .i64 0, .int .i64 0, .int .i64 0, .slice none 0 0, .slice none 0 0, .int .i64 0, .int .i64 0, .int .i64 0, .int .i64 0, .int .i64 0, .slice none 0 0, .slice none 0 0]) HZ.out 0 (.slice none 0 0) rfl) 1 (.string ⟨#[]⟩) rfl) 2 (.int .i64 0) rfl) 3 (.int .i64 0) rfl) 4 (.int .i64 0) rfl) 5 (.int .i64 0) rfl) 6 (.slice none 0 0) rfl) 7 (.slice none 0 0) rfl) 8 (.int .i64 0) rfl) 9 (.int .i64 0) rfl) 10 (.int .i64 0) rfl) 11 (.int .i64 0) rfl) 12 (.int .i64 0) rfl) 13 (.slice none 0 0) rfl) 14 (.slice none 0 0) rfl)
    generalize (((((((((((((((w2).setCell ⟨w.heap.size + 1 + 1, 0, none⟩ (.slice none 0 0)).setCell ⟨w.heap.size + 1 + 1, 1, none⟩ (.string ⟨#[]⟩)).setCell ⟨w.heap.size + 1 + 1, 2, none⟩ (.int .i64 0)).setCell ⟨w.heap.size + 1 + 1, 3, none⟩ (.int .i64 0)).setCell ⟨w.heap.size + 1 + 1, 4, none⟩ (.int .i64 0)).setCell ⟨w.heap.size + 1 + 1, 5, none⟩ (.int .i64 0)).setCell ⟨w.heap.size + 1 + 1, 6, none⟩ (.slice none 0 0)).setCell ⟨w.heap.size + 1 + 1, 7, none⟩ (.slice none 0 0)).setCell ⟨w.heap.size + 1 + 1, 8, none⟩ (.int .i64 0)).setCell ⟨w.heap.size + 1 + 1, 9, none⟩ (.int .i64 0)).setCell ⟨w.heap.size + 1 + 1, 10, none⟩ (.int .i64 0)).setCell ⟨w.heap.size + 1 + 1, 11, none⟩ (.int .i64 0)).setCell ⟨w.heap.size + 1 + 1, 12, none⟩ (.int .i64 0)).setCell ⟨w.heap.size + 1 + 1, 13, none⟩ (.slice none 0 0)).setCell ⟨w.heap.size + 1 + 1, 14, none⟩ (.slice none 0 0) = W9 at *
    clear HB
    have HB := HB_
    clear HB_
    clear HZ
    have HZ := HZ_
    clear HZ_
    refine bodyPost_ret (results_cell_tmp rfl _ _ (w.heap.size + 1 + 1) 180 #[.slice none 0 0, .string ⟨#[]⟩, .int .i64 0, .int .i64 0, .int .i64 0, .int .i64 0, .slice none 0 0, .slice none 0 0, .int .i64 0, .int .i64 0, .int .i64 0, .int .i64 0, .int .i64 0, .slice none 0 0, .slice none 0 0] (0, 0) _ rfl HZ.out Tryd.underlying180 rfl (by kernel_rfl)) rfl ⟨Or.inl ⟨HNO.out, rfl⟩, HB.out⟩
  have H2 := Aside0.mk h2
  go_wp2_with fail
  refine (solCheck_calls _ _ _ _ (Kd.C_below HL.out HB.out)).mono ?_
  rintro e w3 ⟨rfl, hb1⟩
  obtain ⟨hB1, hb2⟩ := adv HB.out hb1
  replace HP := Aside0.mk (blk_below HP.out hb2)
  replace HR := Aside0.mk (blk_below HR.out hb2)
  replace HZ := Aside0.mk (blk_below HZ.out hb2)
  replace HB := Aside0.mk hB1
  clear hb1 hB1 hb2
  clear h2
  by_cases h3 : solCheck l = 0
  case neg =>
    have HNO := Aside0.mk (show lookOk l d p r = false by unfold lookOk; rw [decide_eq_false h3, Bool.and_false]; rfl)
    have hz0 : w3.cell? ⟨w.heap.size + 1 + 1, 0, none⟩ = some (.slice none 0 0) := (blk_cell HZ.out 0).trans rfl
    have hzf0 : w3.frozen? ⟨w.heap.size + 1 + 1, 0, none⟩ = false := blk_frozen HZ.out 0
    have hz1 : w3.cell? ⟨w.heap.size + 1 + 1, 1, none⟩ = some (.string ⟨#[]⟩) := (blk_cell HZ.out 1).trans rfl
    have hzf1 : w3.frozen? ⟨w.heap.size + 1 + 1, 1, none⟩ = false := blk_frozen HZ.out 1
    have hz2 : w3.cell? ⟨w.heap.size + 1 + 1, 2, none⟩ = some (.int .i64 0) := (blk_cell HZ.out 2).trans rfl
    have hzf2 : w3.frozen? ⟨w.heap.size + 1 + 1, 2, none⟩ = false := blk_frozen HZ.out 2
    have hz3 : w3.cell? ⟨w.heap.size + 1 + 1, 3, none⟩ = some (.int .i64 0) := (blk_cell HZ.out 3).trans rfl
    have hzf3 : w3.frozen? ⟨w.heap.size + 1 + 1, 3, none⟩ = false := blk_frozen HZ.out 3
    have hz4 : w3.cell? ⟨w.heap.size + 1 + 1, 4, none⟩ = some (.int .i64 0) := (blk_cell HZ.out 4).trans rfl
    have hzf4 : w3.frozen? ⟨w.heap.size + 1 + 1, 4, none⟩ = false := blk_frozen HZ.out 4
    have hz5 : w3.cell? ⟨w.heap.size + 1 + 1, 5, none⟩ = some (.int .i64 0) := (blk_cell HZ.out 5).trans rfl
    have hzf5 : w3.frozen? ⟨w.heap.size + 1 + 1, 5, none⟩ = false := blk_frozen HZ.out 5
    have hz6 : w3.cell? ⟨w.heap.size + 1 + 1, 6, none⟩ = some (.slice none 0 0) := (blk_cell HZ.out 6).trans rfl
    have hzf6 : w3.frozen? ⟨w.heap.size + 1 + 1, 6, none⟩ = false := blk_frozen HZ.out 6
    have hz7 : w3.cell? ⟨w.heap.size + 1 + 1, 7, none⟩ = some (.slice none 0 0) := (blk_cell HZ.out 7).trans rfl
    have hzf7 : w3.frozen? ⟨w.heap.size + 1 + 1, 7, none⟩ = false := blk_frozen HZ.out 7
    have hz8 : w3.cell? ⟨w.heap.size + 1 + 1, 8, none⟩ = some (.int .i64 0) := (blk_cell HZ.out 8).trans rfl
    have hzf8 : w3.frozen? ⟨w.heap.size + 1 + 1, 8, none⟩ = false := blk_frozen HZ.out 8
    have hz9 : w3.cell? ⟨w.heap.size + 1 + 1, 9, none⟩ = some (.int .i64 0) := (blk_cell HZ.out 9).trans rfl
    have hzf9 : w3.frozen? ⟨w.heap.size + 1 + 1, 9, none⟩ = false := blk_frozen HZ.out 9
    have hz10 : w3.cell? ⟨w.heap.size + 1 + 1, 10, none⟩ = some (.int .i64 0) := (blk_cell HZ.out 10).trans rfl
    have hzf10 : w3.frozen? ⟨w.heap.size + 1 + 1, 10, none⟩ = false := blk_frozen HZ.out 10
    have hz11 : w3.cell? ⟨w.heap.size + 1 + 1, 11, none⟩ = some (.int .i64 0) := (blk_cell HZ.out 11).trans rfl
    have hzf11 : w3.frozen? ⟨w.heap.size + 1 + 1, 11, none⟩ = false := blk_frozen HZ.out 11
    have hz12 : w3.cell? ⟨w.heap.size + 1 + 1, 12, none⟩ = some (.int .i64 0) := (blk_cell HZ.out 12).trans rfl
    have hzf12 : w3.frozen? ⟨w.heap.size + 1 + 1, 12, none⟩ = false := blk_frozen HZ.out 12
    have hz13 : w3.cell? ⟨w.heap.size + 1 + 1, 13, none⟩ = some (.slice none 0 0) := (blk_cell HZ.out 13).trans rfl
    have hzf13 : w3.frozen? ⟨w.heap.size + 1 + 1, 13, none⟩ = false := blk_frozen HZ.out 13
    have hz14 : w3.cell? ⟨w.heap.size + 1 + 1, 14, none⟩ = some (.slice none 0 0) := (blk_cell HZ.out 14).trans rfl
    have hzf14 : w3.frozen? ⟨w.heap.size + 1 + 1, 14, none⟩ = false := blk_frozen HZ.out 14
    go_wp2_with fail
    clear hz0 hzf0 hz1 hzf1 hz2 hzf2 hz3 hzf3 hz4 hzf4 hz5 hzf5 hz6 hzf6 hz7 hzf7 hz8 hzf8 hz9 hzf9 hz10 hzf10 hz11 hzf11 hz12 hzf12 hz13 hzf13 hz14 hzf14
    have HB_ := Aside0.mk (below_set (j := 14) (v := .slice none 0 0) (below_set (j := 13) (v := .slice none 0 0) (below_set (j := 12) (v := .int .i64 0) (below_set (j := 11) (v := .int .i64 0) (below_set (j := 10) (v := .int .i64 0) (below_set (j := 9) (v := .int .i64 0) (below_set (j := 8) (v := .int .i64 0) (below_set (j := 7) (v := .slice none 0 0) (below_set (j := 6) (v := .slice none 0 0) (below_set (j := 5) (v := .int .i64 0) (below_set (j := 4) (v := .int .i64 0) (below_set (j := 3) (v := .int .i64 0) (below_set (j := 2) (v := .int .i64 0) (below_set (j := 1) (v := .string ⟨#[]⟩) (below_set (j := 0) (v := .slice none 0 0) HB.out (show w.heap.size ≤ w.heap.size + 1 + 1 by omega)) (show w.heap.size ≤ w.heap.size + 1 + 1 by omega)) (show w.heap.size ≤ w.heap.size + 1 + 1 by omega)) (show w.heap.size ≤ w.heap.size + 1 + 1 by omega)) (show w.heap.size ≤ w.heap.size + 1 + 1 by omega)) (show w.heap.size ≤ w.heap.size + 1 + 1 by omega)) (show w.heap.size ≤ w.heap.size + 1 + 1 by omega)) (show w.heap.size ≤ w.heap.size + 1 + 1 by omega)) (show w.heap.size ≤ w.heap.size + 1 + 1 by omega)) (show w.heap.size ≤ w.heap.size + 1 + 1 by omega)) (show w.heap.size ≤ w.heap.size + 1 + 1 by omega)) (show w.heap.size ≤ w.heap.size + 1 + 1 by omega)) (show w.heap.size ≤ w.heap.size + 1 + 1 by omega)) (show w.heap.size ≤ w.heap.size + 1 + 1 by omega)) (show w.heap.size ≤ w.heap.size + 1 + 1 by omega))
    have HZ_ := Aside0.mk (blk_put (cs' := #[.slice none 0 0, .string ⟨#[]⟩, .int .i64 0, .int .i64 0, .int .i64 0, .int .i64 0, .slice none 0 0, .slice none 0 0, .int .i64 0, .int .i64 0, .int .i64 0, .int .i64 0, .int .i64 0, .slice none 0 0, .slice none 0 0]) (blk_put (cs' := #[.slice none 0 0, .string ⟨#[]⟩, .int .i64 0, .int .i64 0, .int .i64 0, .int .i64 0, .slice none 0 0, .slice none 0 0, .int .i64 0, .int .i64 0, .int .i64 0, .int .i64 0, .int .i64 0, .slice none 0 0, .slice none 0 0]) (blk_put (cs' := #[.slice none 0 0, .string ⟨#[]⟩, .int .i64 0, .int .i64 0, .int .i64 0, .int .i64 0, .slice none 0 0, .slice none 0 0, .int .i64 0, .int .i64 0, .int .i64 0, .int .i64 0, .int .i64 0, .slice none 0 0, .slice none 0 0]) (blk_put (cs' := #[.slice none 0 0, .string ⟨#[]⟩, .int .i64 0, .int .i64 0, .int .i64 0, .int .i64 0, .slice none 0 0, .slice none 0 0, .int .i64 0, .int .i64 0, .int .i64 0, .int .i64 0, .int .i64 0, .slice none 0 0, .slice none 0 0]) (blk_put (cs' := #[.slice none 0 0, .string ⟨#[]⟩, .int .i64 0, .int .i64 0, .int .i64 0, .int .i64 0, .slice none 0 0, .slice none 0 0, .int .i64 0, .int .i64 0, .int .i64 0, .int .i64 0, .int .i64 0, .slice none 0 0, .slice none 0 0]) (blk_put (cs' := #[.slice none 0 0, .string ⟨#[]⟩, .int .i64 0, .int .i64 0, .int .i64 0, .int .i64 0, .slice none 0 0, .slice none 0 0, .int .i64 0, .int .i64 0, .int .i64 0, .int .i64 0, .int .i64 0, .slice none 0 0, .slice none 0 0]) (blk_put (cs' := #[.slice none 0 0, .string ⟨#[]⟩, .int .i64 0, .int .i64 0, .int .i64 0, .int .i64 0, .slice none 0 0, .slice none 0 0, .int .i64 0, .int .i64 0, .int .i64 0, .int .i64 0, .int .i64 0, .slice none 0 0, .slice none 0 0]) (blk_put (cs' := #[.slice none 0 0, .string ⟨#[]⟩, .int .i64 0, .int .i64 0, .int .i64 0, .int .i64 0, .slice none 0 0, .slice none 0 0, .int .i64 0, .int .i64 0, .int .i64 0, .int .i64 0, .int .i64 0, .slice none 0 0, .slice none 0 0]) (blk_put (cs' := #[.slice none 0 0, .string ⟨#[]⟩, .int .i64 0, .int .i64 0, .int .i64 0, .int .i64 0, .slice none 0 0, .slice none 0 0, .int .i64 0, .int .i64 0, .int .i64 0, .int .i64 0, .int .i64 0, .slice none 0 0, .slice none 0 0]) (blk_put (cs' := #[.slice none 0 0, .string ⟨#[]⟩, .int .i64 0, .int .i64 0, .int .i64 0, .int .i64 0, .slice none 0 0, .slice none 0 0, .int .i64 0, .int .i64 0, .int .i64 0, .int .i64 0, .int .i64 0, .slice none 0 0, .slice none 0 0]) (blk_put (cs' := #[.slice none 0 0, .string ⟨#[]⟩, .int .i64 0, .int .i64 0, .int .i64 0, .int .i64 0, .slice none 0 0, .slice none 0 0, .int .i64 0, .int .i64 0, .int .i64 0, .int .i64 0, .int .i64 0, .slice none 0 0, .slice none 0 0]) (blk_put (cs' := #[.slice none 0 0, .string ⟨#[]⟩, .int .i64 0, .int .i64 0, .int .i64 0, .int .i64 0, .slice none 0 0, .slice none 0 0, .int .i64 0, .int .i64 0, .int .i64 0, .int .i64 0, .int .i64 0, .slice none 0 0, .slice none 0 0]) (blk_put (cs' := #[.slice none 0 0, .string ⟨#[]⟩, .int .i64 0, .int .i64 0, .int .i64 0, .int .i64 0, .slice none 0 0, .slice none 0 0, .int .i64 0, .int .i64 0, .int .i64 0, .int .i64 0, .int .i64 0, .slice none 0 0, .slice none 0 0]) (blk_put (cs' := #[.slice none 0 0, .string ⟨#[]⟩, .int .i64 0, .int .i64 0, .int .i64 0, .int .i64 0, .slice none 0 0, .slice none 0 0, .int .i64 0, .int .i64 0, .int .i64 0, .int .i64 0, .int .i64 0, .slice none 0 0, .slice none 0 0]) (blk_put (cs' := #[.slice none 0 0, .string ⟨#[]⟩, .int .i64 0, .int .i64 0, .int .i64 0, .int .i64 0, .slice none 0 0, .slice none 0 0, .int .i64 0, .int .i64 0, .int .i64 0, .int .i64 0, .int .i64 0, .slice none 0 0, .slice none 0 0]) HZ.out 0 (.slice none 0 0) rfl) 1 (.string ⟨#[]⟩) rfl) 2 (.int .i64 0) rfl) 3 (.int .i64 0) rfl) 4 (.int .i64 0) rfl) 5 (.int .i64 0) rfl) 6 (.slice none 0 0) rfl) 7 (.slice none 0 0) rfl) 8 (.int .i64 0) rfl) 9 (.int .i64 0) rfl) 10 (.int .i64 0) rfl) 11 (.int .i64 0) rfl) 12 (.int .i64 0) rfl) 13 (.slice none 0 0) rfl) 14 (.slice none 0 0) rfl)
    generalize (((((((((((((((w3).setCell ⟨w.heap.size + 1 + 1, 0, none⟩ (.slice none 0 0)).setCell ⟨w.heap.size + 1 + 1, 1, none⟩ (.string ⟨#[]⟩)).setCell ⟨w.heap.size + 1 + 1, 2, none⟩ (.int .i64 0)).setCell ⟨w.heap.size + 1 + 1, 3, none⟩ (.int .i64 0)).setCell ⟨w.heap.size + 1 + 1, 4, none⟩ (.int .i64 0)).setCell ⟨w.heap.size + 1 + 1, 5, none⟩ (.int .i64 0)).setCell ⟨w.heap.size + 1 + 1, 6, none⟩ (.slice none 0 0)).setCell ⟨w.heap.size + 1 + 1, 7, none⟩ (.slice none 0 0)).setCell ⟨w.heap.size + 1 + 1, 8, none⟩ (.int .i64 0)).setCell ⟨w.heap.size + 1 + 1, 9, none⟩ (.int .i64 0)).setCell ⟨w.heap.size + 1 + 1, 10, none⟩ (.int .i64 0)).setCell ⟨w.heap.size + 1 + 1, 11, none⟩ (.int .i64 0)).setCell ⟨w.heap.size + 1 + 1, 12, none⟩ (.int .i64 0)).setCell ⟨w.heap.size + 1 + 1, 13, none⟩ (.slice none 0 0)).setCell ⟨w.heap.size + 1 + 1, 14, none⟩ (.slice none 0 0) = W9 at *
    clear HB
    have HB := HB_
    clear HB_
    clear HZ
    have HZ := HZ_
    clear HZ_
    refine bodyPost_ret (results_cell_tmp rfl _ _ (w.heap.size + 1 + 1) 180 #[.slice none 0 0, .string ⟨#[]⟩, .int .i64 0, .int .i64 0, .int .i64 0, .int .i64 0, .slice none 0 0, .slice none 0 0, .int .i64 0, .int .i64 0, .int .i64 0, .int .i64 0, .int .i64 0, .slice none 0 0, .slice none 0 0] (0, 0) _ rfl HZ.out Tryd.underlying180 rfl (by kernel_rfl)) rfl ⟨Or.inl ⟨HNO.out, rfl⟩, HB.out⟩
  have H3 := Aside0.mk h3
  have hr0 : w3.cell? ⟨w.heap.size + 1, 0, none⟩ = some (.int .i64 r.x.a) := (blk_cell HR.out 0).trans rfl
  have hr1 : w3.cell? ⟨w.heap.size + 1, 1, none⟩ = some (.int .i64 r.x.b) := (blk_cell HR.out 1).trans rfl
  have hr2 : w3.cell? ⟨w.heap.size + 1, 2, none⟩ = some (.int .i64 r.y.a) := (blk_cell HR.out 2).trans rfl
  have hr3 : w3.cell? ⟨w.heap.size + 1, 3, none⟩ = some (.int .i64 r.y.b) := (blk_cell HR.out 3).trans rfl
  rcases h4 : across r with _ | _
  case false =>
    have HNO := Aside0.mk (show lookOk l d p r = false by unfold lookOk; rw [h4, Bool.and_false]; rfl)
    go_wp2_with fail
    refine (across_calls _ _ _ _ _).mono ?_
    rintro e w4 ⟨rfl, hb1⟩
    obtain ⟨hB1, hb2⟩ := adv HB.out hb1
    replace HP := Aside0.mk (blk_below HP.out hb2)
    replace HR := Aside0.mk (blk_below HR.out hb2)
    replace HZ := Aside0.mk (blk_below HZ.out hb2)
    replace HB := Aside0.mk hB1
    clear hb1 hB1 hb2
    rw [show across ⟨⟨r.x.a, r.x.b⟩, ⟨r.y.a, r.y.b⟩⟩ = false from h4]
    clear h4 h3 hr0 hr1 hr2 hr3
    have hz0 : w4.cell? ⟨w.heap.size + 1 + 1, 0, none⟩ = some (.slice none 0 0) := (blk_cell HZ.out 0).trans rfl
    have hzf0 : w4.frozen? ⟨w.heap.size + 1 + 1, 0, none⟩ = false := blk_frozen HZ.out 0
    have hz1 : w4.cell? ⟨w.heap.size + 1 + 1, 1, none⟩ = some (.string ⟨#[]⟩) := (blk_cell HZ.out 1).trans rfl
    have hzf1 : w4.frozen? ⟨w.heap.size + 1 + 1, 1, none⟩ = false := blk_frozen HZ.out 1
    have hz2 : w4.cell? ⟨w.heap.size + 1 + 1, 2, none⟩ = some (.int .i64 0) := (blk_cell HZ.out 2).trans rfl
    have hzf2 : w4.frozen? ⟨w.heap.size + 1 + 1, 2, none⟩ = false := blk_frozen HZ.out 2
    have hz3 : w4.cell? ⟨w.heap.size + 1 + 1, 3, none⟩ = some (.int .i64 0) := (blk_cell HZ.out 3).trans rfl
    have hzf3 : w4.frozen? ⟨w.heap.size + 1 + 1, 3, none⟩ = false := blk_frozen HZ.out 3
    have hz4 : w4.cell? ⟨w.heap.size + 1 + 1, 4, none⟩ = some (.int .i64 0) := (blk_cell HZ.out 4).trans rfl
    have hzf4 : w4.frozen? ⟨w.heap.size + 1 + 1, 4, none⟩ = false := blk_frozen HZ.out 4
    have hz5 : w4.cell? ⟨w.heap.size + 1 + 1, 5, none⟩ = some (.int .i64 0) := (blk_cell HZ.out 5).trans rfl
    have hzf5 : w4.frozen? ⟨w.heap.size + 1 + 1, 5, none⟩ = false := blk_frozen HZ.out 5
    have hz6 : w4.cell? ⟨w.heap.size + 1 + 1, 6, none⟩ = some (.slice none 0 0) := (blk_cell HZ.out 6).trans rfl
    have hzf6 : w4.frozen? ⟨w.heap.size + 1 + 1, 6, none⟩ = false := blk_frozen HZ.out 6
    have hz7 : w4.cell? ⟨w.heap.size + 1 + 1, 7, none⟩ = some (.slice none 0 0) := (blk_cell HZ.out 7).trans rfl
    have hzf7 : w4.frozen? ⟨w.heap.size + 1 + 1, 7, none⟩ = false := blk_frozen HZ.out 7
    have hz8 : w4.cell? ⟨w.heap.size + 1 + 1, 8, none⟩ = some (.int .i64 0) := (blk_cell HZ.out 8).trans rfl
    have hzf8 : w4.frozen? ⟨w.heap.size + 1 + 1, 8, none⟩ = false := blk_frozen HZ.out 8
    have hz9 : w4.cell? ⟨w.heap.size + 1 + 1, 9, none⟩ = some (.int .i64 0) := (blk_cell HZ.out 9).trans rfl
    have hzf9 : w4.frozen? ⟨w.heap.size + 1 + 1, 9, none⟩ = false := blk_frozen HZ.out 9
    have hz10 : w4.cell? ⟨w.heap.size + 1 + 1, 10, none⟩ = some (.int .i64 0) := (blk_cell HZ.out 10).trans rfl
    have hzf10 : w4.frozen? ⟨w.heap.size + 1 + 1, 10, none⟩ = false := blk_frozen HZ.out 10
    have hz11 : w4.cell? ⟨w.heap.size + 1 + 1, 11, none⟩ = some (.int .i64 0) := (blk_cell HZ.out 11).trans rfl
    have hzf11 : w4.frozen? ⟨w.heap.size + 1 + 1, 11, none⟩ = false := blk_frozen HZ.out 11
    have hz12 : w4.cell? ⟨w.heap.size + 1 + 1, 12, none⟩ = some (.int .i64 0) := (blk_cell HZ.out 12).trans rfl
    have hzf12 : w4.frozen? ⟨w.heap.size + 1 + 1, 12, none⟩ = false := blk_frozen HZ.out 12
    have hz13 : w4.cell? ⟨w.heap.size + 1 + 1, 13, none⟩ = some (.slice none 0 0) := (blk_cell HZ.out 13).trans rfl
    have hzf13 : w4.frozen? ⟨w.heap.size + 1 + 1, 13, none⟩ = false := blk_frozen HZ.out 13
    have hz14 : w4.cell? ⟨w.heap.size + 1 + 1, 14, none⟩ = some (.slice none 0 0) := (blk_cell HZ.out 14).trans rfl
    have hzf14 : w4.frozen? ⟨w.heap.size + 1 + 1, 14, none⟩ = false := blk_frozen HZ.out 14
    go_wp2_with fail
    clear hz0 hzf0 hz1 hzf1 hz2 hzf2 hz3 hzf3 hz4 hzf4 hz5 hzf5 hz6 hzf6 hz7 hzf7 hz8 hzf8 hz9 hzf9 hz10 hzf10 hz11 hzf11 hz12 hzf12 hz13 hzf13 hz14 hzf14
    have HB_ := Aside0.mk (below_set (j := 14) (v := .slice none 0 0) (below_set (j := 13) (v := .slice none 0 0) (below_set (j := 12) (v := .int .i64 0) (below_set (j := 11) (v := .int .i64 0) (below_set (j := 10) (v := .int .i64 0) (below_set (j := 9) (v := .int .i64 0) (below_set (j := 8) (v := .int .i64 0) (below_set (j := 7) (v := .slice none 0 0) (below_set (j := 6) (v := .slice none 0 0) (below_set (j := 5) (v := .int .i64 0) (below_set (j := 4) (v := .int .i64 0) (below_set (j := 3) (v := .int .i64 0) (below_set (j := 2) (v := .int .i64 0) (below_set (j := 1) (v := .string ⟨#[]⟩) (below_set (j := 0) (v := .slice none 0 0) HB.out (show w.heap.size ≤ w.heap.size + 1 + 1 by omega)) (show w.heap.size ≤ w.heap.size + 1 + 1 by omega)) (show w.heap.size ≤ w.heap.size + 1 + 1 by omega)) (show w.heap.size ≤ w.heap.size + 1 + 1 by omega)) (show w.heap.size ≤ w.heap.size + 1 + 1 by omega)) (show w.heap.size ≤ w.heap.size + 1 + 1 by omega)) (show w.heap.size ≤ w.heap.size + 1 + 1 by omega)) (show w.heap.size ≤ w.heap.size + 1 + 1 by omega)) (show w.heap.size ≤ w.heap.size + 1 + 1 by omega)) (show w.heap.size ≤ w.heap.size + 1 + 1 by omega)) (show w.heap.size ≤ w.heap.size + 1 + 1 by omega)) (show w.heap.size ≤ w.heap.size + 1 + 1 by omega)) (show w.heap.size ≤ w.heap.size + 1 + 1 by omega)) (show w.heap.size ≤ w.heap.size + 1 + 1 by omega)) (show w.heap.size ≤ w.heap.size + 1 + 1 by omega))
    have HZ_ := Aside0.mk (blk_put (cs' := #[.slice none 0 0, .string ⟨#[]⟩, .int .i64 0, .int .i64 0, .int .i64 0, .int .i64 0, .slice none 0 0, .slice none 0 0, .int .i64 0, .int .i64 0, .int .i64 0, .int .i64 0, .int .i64 0, .slice none 0 0, .slice none 0 0]) (blk_put (cs' := #[.slice none 0 0, .string ⟨#[]⟩, .int .i64 0, .int .i64 0, .int .i64 0, .int .i64 0, .slice none 0 0, .slice none 0 0, .int .i64 0, .int .i64 0, .int .i64 0, .int .i64 0, .int .i64 0, .slice none 0 0, .slice none 0 0]) (blk_put (cs' := #[.slice none 0 0, .string ⟨#[]⟩, .int .i64 0, .int .i64 0, .int .i64 0, .int .i64 0, .slice none 0 0, .slice none 0 0, .int .i64 0, .int .i64 0, .int .i64 0, .int .i64 0, .int .i64 0, .slice none 0 0, .slice none 0 0]) (blk_put (cs' := #[.slice none 0 0, .string ⟨#[]⟩, .int .i64 0, .int .i64 0, .int .i64 0, .int .i64 0, .slice none 0 0, .slice none 0 0, .int .i64 0, .int .i64 0, .int .i64 0, .int .i64 0, .int .i64 0, .slice none 0 0, .slice none 0 0]) (blk_put (cs' := #[.slice none 0 0, .string ⟨#[]⟩, .int .i64 0, .int .i64 0, .int .i64 0, .int .i64 0, .slice none 0 0, .slice none 0 0, .int .i64 0, .int .i64 0, .int .i64 0, .int .i64 0, .int .i64 0, .slice none 0 0, .slice none 0 0]) (blk_put (cs' := #[.slice none 0 0, .string ⟨#[]⟩, .int .i64 0, .int .i64 0, .int .i64 0, .int .i64 0, .slice none 0 0, .slice none 0 0, .int .i64 0, .int .i64 0, .int .i64 0, .int .i64 0, .int .i64 0, .slice none 0 0, .slice none 0 0]) (blk_put (cs' := #[.slice none 0 0, .string ⟨#[]⟩, .int .i64 0, .int .i64 0, .int .i64 0, .int .i64 0, .slice none 0 0, .slice none 0 0, .int .i64 0, .int .i64 0, .int .i64 0, .int .i64 0, .int .i64 0, .slice none 0 0, .slice none 0 0]) (blk_put (cs' := #[.slice none 0 0, .string ⟨#[]⟩, .int .i64 0, .int .i64 0, .int .i64 0, .int .i64 0, .slice none 0 0, .slice none 0 0, .int .i64 0, .int .i64 0, .int .i64 0, .int .i64 0, .int .i64 0, .slice none 0 0, .slice none 0 0]) (blk_put (cs' := #[.slice none 0 0, .string ⟨#[]⟩, .int .i64 0, .int .i64 0, .int .i64 0, .int .i64 0, .slice none 0 0, .slice none 0 0, .int .i64 0, .int .i64 0, .int .i64 0, .int .i64 0, .int .i64 0, .slice none 0 0, .slice none 0 0]) (blk_put (cs' := #[.slice none 0 0, .string ⟨#[]⟩, .int .i64 0, .int .i64 0, .int .i64 0, .int .i64 0, .slice none 0 0, .slice none 0 0, .int .i64 0, .int .i64 0, .int .i64 0, .int .i64 0, .int .i64 0, .slice none 0 0, .slice none 0 0]) (blk_put (cs' := #[.slice none 0 0, .string ⟨#[]⟩, .int .i64 0, .int .i64 0, .int .i64 0, .int .i64 0, .slice none 0 0, .slice none 0 0, .int .i64 0, .int .i64 0, .int .i64 0, .int .i64 0, .int .i64 0, .slice none 0 0, .slice none 0 0]) (blk_put (cs' := #[.slice none 0 0, .string ⟨#[]⟩, .int .i64 0, .int .i64 0, .int .i64 0, .int .i64 0, .slice none 0 0, .slice none 0 0, .int .i64 0, .int .i64 0, .int .i64 0, .int .i64 0, .int .i64 0, .slice none 0 0, .slice none 0 0]) (blk_put (cs' := #[.slice none 0 0, .string ⟨#[]⟩, .int .i64 0, .int .i64 0, .int .i64 0, .int .i64 0, .slice none 0 0, .slice none 0 0, .int .i64 0, .int .i64 0, .int .i64 0, .int .i64 0, .int .i64 0, .slice none 0 0, .slice none 0 0]) (blk_put (cs' := #[.slice none 0 0, .string ⟨#[]⟩, .int .i64 0, .int .i64 0, .int .i64 0, .int .i64 0, .slice none 0 0, .slice none 0 0, .int .i64 0, .int .i64 0, .int .i64 0, .int .i64 0, .int .i64 0, .slice none 0 0, .slice none 0 0]) (blk_put (cs' := #[.slice none 0 0, .string ⟨#[]⟩, .int .i64 0, .int .i64 0, .int .i64 0, .int .i64 0, .slice none 0 0, .slice none 0 0, .int .i64 0, .int .i64 0, .int .i64 0, .int .i64 0, .int .i64 0, .slice none 0 0, .slice none 0 0]) HZ.out 0 (.slice none 0 0) rfl) 1 (.string ⟨#[]⟩) rfl) 2 (.int .i64 0) rfl) 3 (.int .i64 0) rfl) 4 (.int .i64 0) rfl) 5 (.int .i64 0) rfl) 6 (.slice none 0 0) rfl) 7 (.slice none 0 0) rfl) 8 (.int .i64 0) rfl) 9 (.int .i64 0) rfl) 10 (.int .i64 0) rfl) 11 (.int .i64 0) rfl) 12 (.int .i64 0) rfl) 13 (.slice none 0 0) rfl) 14 (.slice none 0 0) rfl)
    generalize (((((((((((((((w4).setCell ⟨w.heap.size + 1 + 1, 0, none⟩ (.slice none 0 0)).setCell ⟨w.heap.size + 1 + 1, 1, none⟩ (.string ⟨#[]⟩)).setCell ⟨w.heap.size + 1 + 1, 2, none⟩ (.int .i64 0)).setCell ⟨w.heap.size + 1 + 1, 3, none⟩ (.int .i64 0)).setCell ⟨w.heap.size + 1 + 1, 4, none⟩ (.int .i64 0)).setCell ⟨w.heap.size + 1 + 1, 5, none⟩ (.int .i64 0)).setCell ⟨w.heap.size + 1 + 1, 6, none⟩ (.slice none 0 0)).setCell ⟨w.heap.size + 1 + 1, 7, none⟩ (.slice none 0 0)).setCell ⟨w.heap.size + 1 + 1, 8, none⟩ (.int .i64 0)).setCell ⟨w.heap.size + 1 + 1, 9, none⟩ (.int .i64 0)).setCell ⟨w.heap.size + 1 + 1, 10, none⟩ (.int .i64 0)).setCell ⟨w.heap.size + 1 + 1, 11, none⟩ (.int .i64 0)).setCell ⟨w.heap.size + 1 + 1, 12, none⟩ (.int .i64 0)).setCell ⟨w.heap.size + 1 + 1, 13, none⟩ (.slice none 0 0)).setCell ⟨w.heap.size + 1 + 1, 14, none⟩ (.slice none 0 0) = W9 at *
    clear HB
    have HB := HB_
    clear HB_
    clear HZ
    have HZ := HZ_
    clear HZ_
    refine bodyPost_ret (results_cell_tmp rfl _ _ (w.heap.size + 1 + 1) 180 #[.slice none 0 0, .string ⟨#[]⟩, .int .i64 0, .int .i64 0, .int .i64 0, .int .i64 0, .slice none 0 0, .slice none 0 0, .int .i64 0, .int .i64 0, .int .i64 0, .int .i64 0, .int .i64 0, .slice none 0 0, .slice none 0 0] (0, 0) _ rfl HZ.out Tryd.underlying180 rfl (by kernel_rfl)) rfl ⟨Or.inl ⟨HNO.out, rfl⟩, HB.out⟩
  go_wp2_with fail
  refine (across_calls _ _ _ _ _).mono ?_
  rintro e w4 ⟨rfl, hb1⟩
  obtain ⟨hB1, hb2⟩ := adv HB.out hb1
  replace HP := Aside0.mk (blk_below HP.out hb2)
  replace HR := Aside0.mk (blk_below HR.out hb2)
  replace HZ := Aside0.mk (blk_below HZ.out hb2)
  replace HB := Aside0.mk hB1
  clear hb1 hB1 hb2
  rw [show across ⟨⟨r.x.a, r.x.b⟩, ⟨r.y.a, r.y.b⟩⟩ = true from h4]
  have H4 := Aside0.mk h4
  clear hr0 hr1 hr2 hr3 h3
  have hxx : -600 ≤ r.x.a ∧ r.x.a < r.x.b ∧ r.x.b ≤ 600 ∧ -600 ≤ r.y.a ∧ r.y.a < r.y.b ∧ r.y.b ≤ 600 := by
    simp only [across, spValid, Bool.and_eq_true, decide_eq_true_eq] at h4; omega
  obtain ⟨x1, x2, x3, y1, y2, y3⟩ := hxx
  clear h4
  have hp0 : w4.cell? ⟨w.heap.size, 0, none⟩ = some (.string p.name) := (blk_cell HP.out 0).trans rfl
  have hp1 : w4.cell? ⟨w.heap.size, 1, none⟩ = some (.int .i64 p.thick) := (blk_cell HP.out 1).trans rfl
  have hp2 : w4.cell? ⟨w.heap.size, 2, none⟩ = some (.int .i64 p.width) := (blk_cell HP.out 2).trans rfl
  have hp3 : w4.cell? ⟨w.heap.size, 3, none⟩ = some (.int .i64 p.allow) := (blk_cell HP.out 3).trans rfl
  have hp4 : w4.cell? ⟨w.heap.size, 4, none⟩ = some (.int .i64 p.wane) := (blk_cell HP.out 4).trans rfl
  have hp5 : w4.cell? ⟨w.heap.size, 5, none⟩ = some (.slice A5 p.lengths.length c5) := (blk_cell HP.out 5).trans rfl
  have hp6 : w4.cell? ⟨w.heap.size, 6, none⟩ = some (.slice A6 p.prices.length c6) := (blk_cell HP.out 6).trans rfl
  go_wp2_with fail
  refine (green_calls _ _ _ _ _ _ _ _ _ _ _ _).mono ?_
  rintro e w5 ⟨rfl, hb1⟩
  obtain ⟨hB1, hb2⟩ := adv HB.out hb1
  replace HP := Aside0.mk (blk_below HP.out hb2)
  replace HR := Aside0.mk (blk_below HR.out hb2)
  replace HZ := Aside0.mk (blk_below HZ.out hb2)
  replace HB := Aside0.mk hB1
  clear hb1 hB1 hb2
  clear hp0 hp1 hp2 hp3 hp4 hp5 hp6
  have hr0 : w5.cell? ⟨w.heap.size + 1, 0, none⟩ = some (.int .i64 r.x.a) := (blk_cell HR.out 0).trans rfl
  have hr1 : w5.cell? ⟨w.heap.size + 1, 1, none⟩ = some (.int .i64 r.x.b) := (blk_cell HR.out 1).trans rfl
  have hr2 : w5.cell? ⟨w.heap.size + 1, 2, none⟩ = some (.int .i64 r.y.a) := (blk_cell HR.out 2).trans rfl
  have hr3 : w5.cell? ⟨w.heap.size + 1, 3, none⟩ = some (.int .i64 r.y.b) := (blk_cell HR.out 3).trans rfl
  generalize hgt : greenT p.thick p.width p.allow = gt
  generalize hgw : greenW p.thick p.width p.allow = gw
  have HG := Aside0.mk hgt
  have HW := Aside0.mk hgw
  clear hgt hgw
  generalize hx : r.x.b - r.x.a = sx
  generalize hy : r.y.b - r.y.a = sy
  have HX := Aside0.mk hx
  have HY := Aside0.mk hy
  have hxw : wrap64 (r.x.b - r.x.a) = sx := by rw [← hx]; unfold wrap64; omega
  have hyw : wrap64 (r.y.b - r.y.a) = sy := by rw [← hy]; unfold wrap64; omega
  clear hx hy x1 x2 x3 y1 y2 y3
  have hGd := guard2
  have hsz : sizeOk p r = ((decide (sx = gt) && decide (sy = gw)) || (decide (sx = gw) && decide (sy = gt))) := by unfold sizeOk; rw [HX.out, HY.out, HG.out, HW.out]
  have HS := Aside0.mk hsz
  clear hsz
  by_cases e0 : sizeOk p r = false
  case pos =>
    have HNO := Aside0.mk (show lookOk l d p r = false by unfold lookOk; rw [e0, Bool.and_false])
    rw [HS.out, Bool.or_eq_false_iff] at e0
    obtain ⟨e1, e2⟩ := e0
    have hE1 : ∀ w, (Op.equalIn 10000 190 (.agg #[.int .i64 sx, .int .i64 sy]) (.agg #[.int .i64 gt, .int .i64 gw])).run Tryd.prog w = .ok false w := fun w => by rw [eq2]; exact congrArg (fun b => Result.ok b w) e1
    have hE2 : ∀ w, (Op.equalIn 10000 190 (.agg #[.int .i64 sx, .int .i64 sy]) (.agg #[.int .i64 gw, .int .i64 gt])).run Tryd.prog w = .ok false w := fun w => by rw [eq2]; exact congrArg (fun b => Result.ok b w) e2
    clear e1 e2
    go_upto_region 6 with (fail)
    have HZ1 := Aside0.mk (blk_alloc HZ.out (.cells #[.int .i64 sx, .int .i64 sy] 190))
    have HB1 := Aside0.mk (below_alloc HB.out (.cells #[.int .i64 sx, .int .i64 sy] 190))
    clear HZ HB hE1 hE2 hGd hr0 hr1 hr2 hr3
    have HZ := HZ1
    have HB := HB1
    clear HZ1 HB1
    generalize (w5.alloc (.cells #[.int .i64 sx, .int .i64 sy] 190)) = W8 at *
    have hz0 : W8.cell? ⟨w.heap.size + 1 + 1, 0, none⟩ = some (.slice none 0 0) := (blk_cell HZ.out 0).trans rfl
    have hzf0 : W8.frozen? ⟨w.heap.size + 1 + 1, 0, none⟩ = false := blk_frozen HZ.out 0
    have hz1 : W8.cell? ⟨w.heap.size + 1 + 1, 1, none⟩ = some (.string ⟨#[]⟩) := (blk_cell HZ.out 1).trans rfl
    have hzf1 : W8.frozen? ⟨w.heap.size + 1 + 1, 1, none⟩ = false := blk_frozen HZ.out 1
    have hz2 : W8.cell? ⟨w.heap.size + 1 + 1, 2, none⟩ = some (.int .i64 0) := (blk_cell HZ.out 2).trans rfl
    have hzf2 : W8.frozen? ⟨w.heap.size + 1 + 1, 2, none⟩ = false := blk_frozen HZ.out 2
    have hz3 : W8.cell? ⟨w.heap.size + 1 + 1, 3, none⟩ = some (.int .i64 0) := (blk_cell HZ.out 3).trans rfl
    have hzf3 : W8.frozen? ⟨w.heap.size + 1 + 1, 3, none⟩ = false := blk_frozen HZ.out 3
    have hz4 : W8.cell? ⟨w.heap.size + 1 + 1, 4, none⟩ = some (.int .i64 0) := (blk_cell HZ.out 4).trans rfl
    have hzf4 : W8.frozen? ⟨w.heap.size + 1 + 1, 4, none⟩ = false := blk_frozen HZ.out 4
    have hz5 : W8.cell? ⟨w.heap.size + 1 + 1, 5, none⟩ = some (.int .i64 0) := (blk_cell HZ.out 5).trans rfl
    have hzf5 : W8.frozen? ⟨w.heap.size + 1 + 1, 5, none⟩ = false := blk_frozen HZ.out 5
    have hz6 : W8.cell? ⟨w.heap.size + 1 + 1, 6, none⟩ = some (.slice none 0 0) := (blk_cell HZ.out 6).trans rfl
    have hzf6 : W8.frozen? ⟨w.heap.size + 1 + 1, 6, none⟩ = false := blk_frozen HZ.out 6
    have hz7 : W8.cell? ⟨w.heap.size + 1 + 1, 7, none⟩ = some (.slice none 0 0) := (blk_cell HZ.out 7).trans rfl
    have hzf7 : W8.frozen? ⟨w.heap.size + 1 + 1, 7, none⟩ = false := blk_frozen HZ.out 7
    have hz8 : W8.cell? ⟨w.heap.size + 1 + 1, 8, none⟩ = some (.int .i64 0) := (blk_cell HZ.out 8).trans rfl
    have hzf8 : W8.frozen? ⟨w.heap.size + 1 + 1, 8, none⟩ = false := blk_frozen HZ.out 8
    have hz9 : W8.cell? ⟨w.heap.size + 1 + 1, 9, none⟩ = some (.int .i64 0) := (blk_cell HZ.out 9).trans rfl
    have hzf9 : W8.frozen? ⟨w.heap.size + 1 + 1, 9, none⟩ = false := blk_frozen HZ.out 9
    have hz10 : W8.cell? ⟨w.heap.size + 1 + 1, 10, none⟩ = some (.int .i64 0) := (blk_cell HZ.out 10).trans rfl
    have hzf10 : W8.frozen? ⟨w.heap.size + 1 + 1, 10, none⟩ = false := blk_frozen HZ.out 10
    have hz11 : W8.cell? ⟨w.heap.size + 1 + 1, 11, none⟩ = some (.int .i64 0) := (blk_cell HZ.out 11).trans rfl
    have hzf11 : W8.frozen? ⟨w.heap.size + 1 + 1, 11, none⟩ = false := blk_frozen HZ.out 11
    have hz12 : W8.cell? ⟨w.heap.size + 1 + 1, 12, none⟩ = some (.int .i64 0) := (blk_cell HZ.out 12).trans rfl
    have hzf12 : W8.frozen? ⟨w.heap.size + 1 + 1, 12, none⟩ = false := blk_frozen HZ.out 12
    have hz13 : W8.cell? ⟨w.heap.size + 1 + 1, 13, none⟩ = some (.slice none 0 0) := (blk_cell HZ.out 13).trans rfl
    have hzf13 : W8.frozen? ⟨w.heap.size + 1 + 1, 13, none⟩ = false := blk_frozen HZ.out 13
    have hz14 : W8.cell? ⟨w.heap.size + 1 + 1, 14, none⟩ = some (.slice none 0 0) := (blk_cell HZ.out 14).trans rfl
    have hzf14 : W8.frozen? ⟨w.heap.size + 1 + 1, 14, none⟩ = false := blk_frozen HZ.out 14
    go_wp2_with fail
    clear hz0 hzf0 hz1 hzf1 hz2 hzf2 hz3 hzf3 hz4 hzf4 hz5 hzf5 hz6 hzf6 hz7 hzf7 hz8 hzf8 hz9 hzf9 hz10 hzf10 hz11 hzf11 hz12 hzf12 hz13 hzf13 hz14 hzf14
    have HB_ := Aside0.mk (below_set (j := 14) (v := .slice none 0 0) (below_set (j := 13) (v := .slice none 0 0) (below_set (j := 12) (v := .int .i64 0) (below_set (j := 11) (v := .int .i64 0) (below_set (j := 10) (v := .int .i64 0) (below_set (j := 9) (v := .int .i64 0) (below_set (j := 8) (v := .int .i64 0) (below_set (j := 7) (v := .slice none 0 0) (below_set (j := 6) (v := .slice none 0 0) (below_set (j := 5) (v := .int .i64 0) (below_set (j := 4) (v := .int .i64 0) (below_set (j := 3) (v := .int .i64 0) (below_set (j := 2) (v := .int .i64 0) (below_set (j := 1) (v := .string ⟨#[]⟩) (below_set (j := 0) (v := .slice none 0 0) HB.out (show w.heap.size ≤ w.heap.size + 1 + 1 by omega)) (show w.heap.size ≤ w.heap.size + 1 + 1 by omega)) (show w.heap.size ≤ w.heap.size + 1 + 1 by omega)) (show w.heap.size ≤ w.heap.size + 1 + 1 by omega)) (show w.heap.size ≤ w.heap.size + 1 + 1 by omega)) (show w.heap.size ≤ w.heap.size + 1 + 1 by omega)) (show w.heap.size ≤ w.heap.size + 1 + 1 by omega)) (show w.heap.size ≤ w.heap.size + 1 + 1 by omega)) (show w.heap.size ≤ w.heap.size + 1 + 1 by omega)) (show w.heap.size ≤ w.heap.size + 1 + 1 by omega)) (show w.heap.size ≤ w.heap.size + 1 + 1 by omega)) (show w.heap.size ≤ w.heap.size + 1 + 1 by omega)) (show w.heap.size ≤ w.heap.size + 1 + 1 by omega)) (show w.heap.size ≤ w.heap.size + 1 + 1 by omega)) (show w.heap.size ≤ w.heap.size + 1 + 1 by omega))
    have HZ_ := Aside0.mk (blk_put (cs' := #[.slice none 0 0, .string ⟨#[]⟩, .int .i64 0, .int .i64 0, .int .i64 0, .int .i64 0, .slice none 0 0, .slice none 0 0, .int .i64 0, .int .i64 0, .int .i64 0, .int .i64 0, .int .i64 0, .slice none 0 0, .slice none 0 0]) (blk_put (cs' := #[.slice none 0 0, .string ⟨#[]⟩, .int .i64 0, .int .i64 0, .int .i64 0, .int .i64 0, .slice none 0 0, .slice none 0 0, .int .i64 0, .int .i64 0, .int .i64 0, .int .i64 0, .int .i64 0, .slice none 0 0, .slice none 0 0]) (blk_put (cs' := #[.slice none 0 0, .string ⟨#[]⟩, .int .i64 0, .int .i64 0, .int .i64 0, .int .i64 0, .slice none 0 0, .slice none 0 0, .int .i64 0, .int .i64 0, .int .i64 0, .int .i64 0, .int .i64 0, .slice none 0 0, .slice none 0 0]) (blk_put (cs' := #[.slice none 0 0, .string ⟨#[]⟩, .int .i64 0, .int .i64 0, .int .i64 0, .int .i64 0, .slice none 0 0, .slice none 0 0, .int .i64 0, .int .i64 0, .int .i64 0, .int .i64 0, .int .i64 0, .slice none 0 0, .slice none 0 0]) (blk_put (cs' := #[.slice none 0 0, .string ⟨#[]⟩, .int .i64 0, .int .i64 0, .int .i64 0, .int .i64 0, .slice none 0 0, .slice none 0 0, .int .i64 0, .int .i64 0, .int .i64 0, .int .i64 0, .int .i64 0, .slice none 0 0, .slice none 0 0]) (blk_put (cs' := #[.slice none 0 0, .string ⟨#[]⟩, .int .i64 0, .int .i64 0, .int .i64 0, .int .i64 0, .slice none 0 0, .slice none 0 0, .int .i64 0, .int .i64 0, .int .i64 0, .int .i64 0, .int .i64 0, .slice none 0 0, .slice none 0 0]) (blk_put (cs' := #[.slice none 0 0, .string ⟨#[]⟩, .int .i64 0, .int .i64 0, .int .i64 0, .int .i64 0, .slice none 0 0, .slice none 0 0, .int .i64 0, .int .i64 0, .int .i64 0, .int .i64 0, .int .i64 0, .slice none 0 0, .slice none 0 0]) (blk_put (cs' := #[.slice none 0 0, .string ⟨#[]⟩, .int .i64 0, .int .i64 0, .int .i64 0, .int .i64 0, .slice none 0 0, .slice none 0 0, .int .i64 0, .int .i64 0, .int .i64 0, .int .i64 0, .int .i64 0, .slice none 0 0, .slice none 0 0]) (blk_put (cs' := #[.slice none 0 0, .string ⟨#[]⟩, .int .i64 0, .int .i64 0, .int .i64 0, .int .i64 0, .slice none 0 0, .slice none 0 0, .int .i64 0, .int .i64 0, .int .i64 0, .int .i64 0, .int .i64 0, .slice none 0 0, .slice none 0 0]) (blk_put (cs' := #[.slice none 0 0, .string ⟨#[]⟩, .int .i64 0, .int .i64 0, .int .i64 0, .int .i64 0, .slice none 0 0, .slice none 0 0, .int .i64 0, .int .i64 0, .int .i64 0, .int .i64 0, .int .i64 0, .slice none 0 0, .slice none 0 0]) (blk_put (cs' := #[.slice none 0 0, .string ⟨#[]⟩, .int .i64 0, .int .i64 0, .int .i64 0, .int .i64 0, .slice none 0 0, .slice none 0 0, .int .i64 0, .int .i64 0, .int .i64 0, .int .i64 0, .int .i64 0, .slice none 0 0, .slice none 0 0]) (blk_put (cs' := #[.slice none 0 0, .string ⟨#[]⟩, .int .i64 0, .int .i64 0, .int .i64 0, .int .i64 0, .slice none 0 0, .slice none 0 0, .int .i64 0, .int .i64 0, .int .i64 0, .int .i64 0, .int .i64 0, .slice none 0 0, .slice none 0 0]) (blk_put (cs' := #[.slice none 0 0, .string ⟨#[]⟩, .int .i64 0, .int .i64 0, .int .i64 0, .int .i64 0, .slice none 0 0, .slice none 0 0, .int .i64 0, .int .i64 0, .int .i64 0, .int .i64 0, .int .i64 0, .slice none 0 0, .slice none 0 0]) (blk_put (cs' := #[.slice none 0 0, .string ⟨#[]⟩, .int .i64 0, .int .i64 0, .int .i64 0, .int .i64 0, .slice none 0 0, .slice none 0 0, .int .i64 0, .int .i64 0, .int .i64 0, .int .i64 0, .int .i64 0, .slice none 0 0, .slice none 0 0]) (blk_put (cs' := #[.slice none 0 0, .string ⟨#[]⟩, .int .i64 0, .int .i64 0, .int .i64 0, .int .i64 0, .slice none 0 0, .slice none 0 0, .int .i64 0, .int .i64 0, .int .i64 0, .int .i64 0, .int .i64 0, .slice none 0 0, .slice none 0 0]) HZ.out 0 (.slice none 0 0) rfl) 1 (.string ⟨#[]⟩) rfl) 2 (.int .i64 0) rfl) 3 (.int .i64 0) rfl) 4 (.int .i64 0) rfl) 5 (.int .i64 0) rfl) 6 (.slice none 0 0) rfl) 7 (.slice none 0 0) rfl) 8 (.int .i64 0) rfl) 9 (.int .i64 0) rfl) 10 (.int .i64 0) rfl) 11 (.int .i64 0) rfl) 12 (.int .i64 0) rfl) 13 (.slice none 0 0) rfl) 14 (.slice none 0 0) rfl)
    generalize (((((((((((((((W8).setCell ⟨w.heap.size + 1 + 1, 0, none⟩ (.slice none 0 0)).setCell ⟨w.heap.size + 1 + 1, 1, none⟩ (.string ⟨#[]⟩)).setCell ⟨w.heap.size + 1 + 1, 2, none⟩ (.int .i64 0)).setCell ⟨w.heap.size + 1 + 1, 3, none⟩ (.int .i64 0)).setCell ⟨w.heap.size + 1 + 1, 4, none⟩ (.int .i64 0)).setCell ⟨w.heap.size + 1 + 1, 5, none⟩ (.int .i64 0)).setCell ⟨w.heap.size + 1 + 1, 6, none⟩ (.slice none 0 0)).setCell ⟨w.heap.size + 1 + 1, 7, none⟩ (.slice none 0 0)).setCell ⟨w.heap.size + 1 + 1, 8, none⟩ (.int .i64 0)).setCell ⟨w.heap.size + 1 + 1, 9, none⟩ (.int .i64 0)).setCell ⟨w.heap.size + 1 + 1, 10, none⟩ (.int .i64 0)).setCell ⟨w.heap.size + 1 + 1, 11, none⟩ (.int .i64 0)).setCell ⟨w.heap.size + 1 + 1, 12, none⟩ (.int .i64 0)).setCell ⟨w.heap.size + 1 + 1, 13, none⟩ (.slice none 0 0)).setCell ⟨w.heap.size + 1 + 1, 14, none⟩ (.slice none 0 0) = W9 at *
    clear HB
    have HB := HB_
    clear HB_
    clear HZ
    have HZ := HZ_
    clear HZ_
    refine bodyPost_ret (results_cell_tmp rfl _ _ (w.heap.size + 1 + 1) 180 #[.slice none 0 0, .string ⟨#[]⟩, .int .i64 0, .int .i64 0, .int .i64 0, .int .i64 0, .slice none 0 0, .slice none 0 0, .int .i64 0, .int .i64 0, .int .i64 0, .int .i64 0, .int .i64 0, .slice none 0 0, .slice none 0 0] (0, 0) _ rfl HZ.out Tryd.underlying180 rfl (by kernel_rfl)) rfl ⟨Or.inl ⟨HNO.out, rfl⟩, HB.out⟩
  replace e0 : sizeOk p r = true := by cases h : sizeOk p r with | false => exact absurd h e0 | true => rfl
  have HYES := Aside0.mk (show lookOk l d p r = true by unfold lookOk; rw [H1.out, H2.out, H3.out, H4.out, e0]; rfl)
  have e1 := HS.out.symm.trans e0
  clear e0
  have hE : (∀ w, (Op.equalIn 10000 190 (.agg #[.int .i64 sx, .int .i64 sy]) (.agg #[.int .i64 gt, .int .i64 gw])).run Tryd.prog w = .ok true w) ∨ ((∀ w, (Op.equalIn 10000 190 (.agg #[.int .i64 sx, .int .i64 sy]) (.agg #[.int .i64 gt, .int .i64 gw])).run Tryd.prog w = .ok false w) ∧ (∀ w, (Op.equalIn 10000 190 (.agg #[.int .i64 sx, .int .i64 sy]) (.agg #[.int .i64 gw, .int .i64 gt])).run Tryd.prog w = .ok true w)) := by
    cases e : (decide (sx = gt) && decide (sy = gw)) with
    | true => exact Or.inl fun w => by rw [eq2]; exact congrArg (fun b => Result.ok b w) e
    | false => rw [e, Bool.false_or] at e1; exact Or.inr ⟨fun w => by rw [eq2]; exact congrArg (fun b => Result.ok b w) e, fun w => by rw [eq2]; exact congrArg (fun b => Result.ok b w) e1⟩
  clear e1
  rcases hE with hE1 | ⟨hE1, hE2⟩
  all_goals go_upto_region 7 with (fail)
  all_goals
    have HP1 := Aside0.mk (blk_alloc HP.out (.cells #[.int .i64 sx, .int .i64 sy] 190))
    have HR1 := Aside0.mk (blk_alloc HR.out (.cells #[.int .i64 sx, .int .i64 sy] 190))
    have HZ1 := Aside0.mk (blk_alloc HZ.out (.cells #[.int .i64 sx, .int .i64 sy] 190))
    have HB1 := Aside0.mk (below_alloc HB.out (.cells #[.int .i64 sx, .int .i64 sy] 190))
    clear HP HR HZ HB hr0 hr1 hr2 hr3 hGd hxw hyw HX HY HG HW HS hE1; try clear hE2
    generalize w5.alloc (.cells #[.int .i64 sx, .int .i64 sy] 190) = W8 at *
    exact look_tail A c l A' c' d p A5 c5 A6 c6 r w W8 HL HYES H3 H4 HP1 HR1 HZ1 HB1 _ _ _ _ _ _ _ _ _ _ _ _ _ _ _ _ _ _ _ _ _ _ _ _ _ _ _ _ _ _ _ _ _ _ _ _ _ _ _ _ _ _ _ _ _ _ _ _ _ _ _ _ _ _ _ _ _ _ _ _ _ _ _ _ _ _ _ _ _ _ _ _ _ _ _ _ _ _ (by assumption)
end Go.Proofs.YtngpoonjonojhaaDoor
