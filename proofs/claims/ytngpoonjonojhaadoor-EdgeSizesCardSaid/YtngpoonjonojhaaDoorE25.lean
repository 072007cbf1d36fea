/- Words and walks that the row leans on: WPla, WDpk, PlCut, WCuh. -/
import Derived.Test.YtngpoonjonojhaaDoorE11
import Derived.Test.YtngpoonjonojhaaDoorWEqStruct
import Derived.ChangeKeysEq
import Derived.Test.YtngpoonjonojhaaDoorE09
import Derived.Test.YtngpoonjonojhaaDoorE05
import Derived.Test.YtngpoonjonojhaaDoorE21
set_option linter.all false
/-! Walks: nodes as a list. -/
namespace Go.Proofs.YtngpoonjonojhaaDoor
open Go.RowKit Go.Proofs.YtngpoonjonojhaaDoorW.PrintWords Go.Proofs.YtngpoonjonojhaaDoorW.PrintLast
set_option linter.unusedVariables false
theorem nodes_calls (A : Option Addr) (n c : Nat) (w : World) :
    Calls Tryd.prog 54 #[.slice A n c] w fun e w' => e = .returned (.slice A n c) ∧ Below w.heap.size w w' := by
  go_enter Tryd.func54, Tryd.ntmps54
  go_wp2
  go_ret
  exact ⟨rfl, BB⟩
def plankName : ByteArray := ⟨#[112, 108, 97, 110, 107]⟩
set_option maxHeartbeats 1000000 in
theorem plank_calls (w : World) :
    Calls Tryd.prog 43 #[] w fun e w' => (∃ A5 c5 A6 c6, e = .returned (.agg #[.string plankName, .int .i64 40, .int .i64 100, .int .i64 50, .int .i64 0, .slice A5 1 c5, .slice A6 1 c6]) ∧ 1 ≤ c5 ∧ 1 ≤ c6 ∧ Kd.C (Kd.int .i64) w' A5 1 [2000] ∧ Kd.C (Kd.int .i64) w' A6 1 [70]) ∧ Below w.heap.size w w' := by
  go_enter Tryd.func43, Tryd.ntmps43
  go_wp2
  refine bodyPost_ret (by simp [results, Tryd.results43, go_sem]; rfl) rfl ⟨⟨some ⟨w.heap.size + 1, 0, none⟩, 1, some ⟨w.heap.size + 1 + 1, 0, none⟩, 1, ?_, by omega, by omega, ?_, ?_⟩, BB⟩
  · rfl
  · exact C_one (t := 3) (cs := #[.int .i64 2000]) (by repeat (with_reducible first | (refine blk_newi _ ?_; simp; done) | refine blk_far ?_ (by simp) _ | refine blk_alloc ?_ _)) rfl
  · exact C_one (t := 3) (cs := #[.int .i64 70]) (by repeat (with_reducible first | (refine blk_newi _ ?_; simp; done) | refine blk_far ?_ (by simp) _ | refine blk_alloc ?_ _)) rfl
end Go.Proofs.YtngpoonjonojhaaDoor
/-! Words: rows of choices as blocks; equal choices. -/
namespace Go.Proofs.YtngpoonjonojhaaDoor
open Go.RowKit Go.Proofs.YtngpoonjonojhaaDoorW.PrintWords Go.Proofs.YtngpoonjonojhaaDoorW.PrintLast
set_option linter.unusedVariables false

/-- The body of the loop that begins with a region. -/
def loopIn (n : Nat) : Code → Option Code
  | .loop (.seq (.region k o f) b) => if k = n then some (.seq (.region k o f) b) else loopIn n b
  | .loop (.seq (.seq (.region k o f) b) c) => if k = n then some (.seq (.seq (.region k o f) b) c) else match loopIn n b with
    | some d => some d
    | none => loopIn n c
  | .loop c => loopIn n c
  | .seq a b => match loopIn n a with
    | some c => some c
    | none => loopIn n b
  | .block _ c => loopIn n c
  | .scope c => loopIn n c
  | .cond _ a b => match loopIn n a with
    | some c => some c
    | none => loopIn n b
  | _ => none
/-- A region that begins a sequence, anywhere in a code, and what follows it. -/
def cutIn (n : Nat) : Code → Option (Code × Code)
  | .seq (.region k o f) b => if k = n then some (.region k o f, b) else cutIn n b
  | .seq a b => match cutIn n a with
    | some c => some c
    | none => cutIn n b
  | .loop c => cutIn n c
  | .block _ c => cutIn n c
  | .scope c => cutIn n c
  | .cond _ a b => match cutIn n a with
    | some c => some c
    | none => cutIn n b
  | _ => none
def cellsC (c : Ch) : List Value := [.int .i64 c.piece.size, .int .i64 c.piece.pos, .int .i64 c.value]
/-- The cells of a row of choices. -/
def flatC (l : List Ch) : List Value := l.flatMap cellsC
theorem flatC_len (l : List Ch) : (flatC l).length = l.length * 3 := by
  induction l with
  | nil => rfl
  | cons c l ih => simp [flatC, cellsC] at ih ⊢; omega
theorem flatC_get (l : List Ch) : ∀ (i j : Nat), i < l.length → j < 3 → (flatC l)[i * 3 + j]? = (cellsC (l.getD i zCh))[j]? := by
  induction l with
  | nil => intro i j hi; simp at hi
  | cons c l ih =>
    intro i j hi hj
    show (cellsC c ++ flatC l)[i * 3 + j]? = _
    cases i with
    | zero =>
      rw [Nat.zero_mul, Nat.zero_add, List.getElem?_append_left (by simp [cellsC]; omega)]
      simp
    | succ i =>
      rw [List.getElem?_append_right (by simp [cellsC]; omega)]
      have e := ih i j (by simpa using hi) hj
      rw [show (i + 1) * 3 + j - (cellsC c).length = i * 3 + j by simp [cellsC]; omega, e]
      simp
theorem flatC_set (l : List Ch) (c : Ch) : ∀ (i : Nat), i < l.length → (((flatC l).set (i * 3) (.int .i64 c.piece.size)).set (i * 3 + 1) (.int .i64 c.piece.pos)).set (i * 3 + 2) (.int .i64 c.value) = flatC (l.set i c) := by
  induction l with
  | nil => intro i hi; simp at hi
  | cons b l ih =>
    intro i hi
    cases i with
    | zero => simp [flatC, cellsC]
    | succ i =>
      have e := ih i (by simpa using hi)
      show _ = cellsC b ++ flatC (l.set i c)
      rw [← e]
      show (((cellsC b ++ flatC l).set ((i + 1) * 3) _).set ((i + 1) * 3 + 1) _).set ((i + 1) * 3 + 2) _ = _
      have hl : (cellsC b).length = 3 := rfl
      rw [List.set_append_right _ _ (by rw [hl]; omega), List.set_append_right _ _ (by rw [hl]; omega), List.set_append_right _ _ (by rw [hl]; omega), hl]
      rw [show (i + 1) * 3 - 3 = i * 3 by omega, show (i + 1) * 3 + 1 - 3 = i * 3 + 1 by omega, show (i + 1) * 3 + 2 - 3 = i * 3 + 2 by omega]
/-- Row ch of choices lies in block g. -/
def ChBlk (w : World) (g : Nat) (l : List Ch) : Prop := w.heap[g]? = some (.cells (flatC l).toArray 165 (0, 0))
theorem ch_cell {w : World} {g : Nat} {l : List Ch} (h : ChBlk w g l) (i : Nat) (hi : i < l.length) : w.cell? ⟨g, i * 3, none⟩ = some (.int .i64 (l.getD i zCh).piece.size) ∧ w.cell? ⟨g, i * 3 + 1, none⟩ = some (.int .i64 (l.getD i zCh).piece.pos) ∧ w.cell? ⟨g, i * 3 + 2, none⟩ = some (.int .i64 (l.getD i zCh).value) := by
  have e : ∀ j, j < 3 → w.cell? ⟨g, i * 3 + j, none⟩ = (cellsC (l.getD i zCh))[j]? := fun j hj => by
    rw [blk_cell h]
    simpa using flatC_get l i j hi hj
  exact ⟨e 0 (by omega), e 1 (by omega), e 2 (by omega)⟩
theorem ch_frozen {w : World} {g : Nat} {l : List Ch} (h : ChBlk w g l) (i : Nat) : w.frozen? ⟨g, i, none⟩ = false := blk_frozen h i
theorem ch_put {w : World} {g : Nat} {l : List Ch} (h : ChBlk w g l) (i : Nat) (hi : i < l.length) (c : Ch) : ChBlk (((w.setCell ⟨g, i * 3, none⟩ (.int .i64 c.piece.size)).setCell ⟨g, i * 3 + 1, none⟩ (.int .i64 c.piece.pos)).setCell ⟨g, i * 3 + 2, none⟩ (.int .i64 c.value)) g (l.set i c) := by
  have h1 := blk_put h (i * 3) (.int .i64 c.piece.size) rfl
  have h2 := blk_put h1 (i * 3 + 1) (.int .i64 c.piece.pos) rfl
  have h3 := blk_put h2 (i * 3 + 2) (.int .i64 c.value) rfl
  unfold ChBlk
  rw [h3, ← flatC_set l c i hi]
  simp
theorem ch_below {w w' : World} {g : Nat} {l : List Ch} (h : ChBlk w g l) (hb : Below w.heap.size w w') : ChBlk w' g l := blk_below h hb
theorem ch_far {w : World} {g : Nat} {l : List Ch} (h : ChBlk w g l) {p : Addr} (hp : g ≠ p.block) (u : Value) : ChBlk (w.setCell p u) g l := (Below.heap_setCell w p u g hp).trans h
theorem ch_lt {w : World} {g : Nat} {l : List Ch} (h : ChBlk w g l) : g < w.heap.size := blk_lt h
theorem flatC_zero : ∀ n, flatC (List.replicate n zCh) = List.replicate (n * 3) (.int .i64 0)
  | 0 => rfl
  | n + 1 => by
    rw [List.replicate_succ, show flatC (zCh :: List.replicate n zCh) = cellsC zCh ++ flatC (List.replicate n zCh) from rfl, flatC_zero n, show (n + 1) * 3 = n * 3 + 1 + 1 + 1 by omega, List.replicate_succ, List.replicate_succ, List.replicate_succ]
    rfl
theorem madeC (n : Nat) : madeCells #[.int .i64 0, .int .i64 0, .int .i64 0] (n * 3) = (flatC (List.replicate n zCh)).toArray := by
  rw [flatC_zero]
  apply Array.ext
  · simp [size_madeCells]
  · intro i h1 h2
    have h3 : i % 3 = 0 ∨ i % 3 = 1 ∨ i % 3 = 2 := by omega
    rcases h3 with e | e | e <;> simp [madeCells, e]
theorem infoCh : (Tryd.prog.info? 165).map (fun i => (i.zero, i.size, i.bytes)) = some (some (.agg #[.int .i64 0, .int .i64 0, .int .i64 0]), 3, 24) := by kernel_rfl
theorem make_ch (n : Nat) (hn : n ≤ 100000) (W : World) : (Instr.makeSlice 163 (.int .i64 (n : Int)) (.int .i64 (n : Int))).run Tryd.prog W = .ok (.slice (some ⟨W.heap.size, 0, none⟩) n n) (W.alloc (.cells (flatC (List.replicate n zCh)).toArray 165)) := by
  obtain ⟨i0, hi, hzz⟩ := Option.map_eq_some_iff.1 infoCh
  have hzz' : (i0.zero, i0.size, i0.bytes) = (some (.agg #[.int .i64 0, .int .i64 0, .int .i64 0]), 3, 24) := hzz
  obtain ⟨hz0, hz12⟩ := _root_.Prod.mk.inj hzz'
  obtain ⟨hz1, hz2⟩ := _root_.Prod.mk.inj hz12
  have hr := run_make (P := Tryd.prog) W 163 165 i0 _ Tryd.underlying163 hi hz0 .i64 .i64 (n : Int) (n : Int) (by omega) (by omega) (by rw [hz2]; omega) (by omega)
  rw [hz1, Int.toNat_natCast] at hr
  rw [hr]
  show Result.ok _ (W.alloc (.cells (madeCells #[.int .i64 0, .int .i64 0, .int .i64 0] (n * 3)) _)) = _
  rw [madeC]
theorem undInt : Tryd.prog.underlying 3 = some (.int .i64) := by kernel_rfl
theorem eqInt (x y : Int) (w : World) (d : Nat) : (Op.equalIn (d + 1) 3 (.int .i64 x) (.int .i64 y)).run Tryd.prog w = .ok (x == y) w := run_equalIn_int w d _ _ _ _ _ undInt
theorem two_fields {fs : List Field} {t1 t2 o1 o2 : Nat} (h : (fs.map fun f => (f.name == "_", f.type, f.offset)) = [(false, t1, o1), (false, t2, o2)]) : ∃ f0 f1, fs = [f0, f1] ∧ ((f0.name == "_") = false ∧ f0.type = t1 ∧ f0.offset = o1) ∧ ((f1.name == "_") = false ∧ f1.type = t2 ∧ f1.offset = o2) := by
  match fs with
  | [] => cases h
  | [_] => simp at h
  | [f0, f1] =>
    simp only [List.map_cons, List.map_nil, List.cons.injEq, _root_.Prod.mk.injEq] at h
    exact ⟨f0, f1, rfl, h.1, h.2.1⟩
  | _ :: _ :: _ :: _ => simp at h
theorem eqPc (a b a' b' : Int) (w : World) (d : Nat) : (Op.equalIn (d + 2) 98 (.agg #[.int .i64 a, .int .i64 b]) (.agg #[.int .i64 a', .int .i64 b'])).run Tryd.prog w = .ok (a == a' && b == b') w := by
  have hl : ((Tryd.prog.fieldsOf 98).toList.map fun f => (f.name == "_", f.type, f.offset)) = [(false, 3, 0), (false, 3, 1)] := by kernel_rfl
  obtain ⟨f0, f1, hf, ⟨n0, y0, p0⟩, ⟨n1, y1, p1⟩⟩ := two_fields hl
  have q0 : ∀ (x y : Value), (part 3 #[x, y] 0).run Tryd.prog w = .ok x w := fun x y => by kernel_rfl
  have q1 : ∀ (x y : Value), (part 3 #[x, y] 1).run Tryd.prog w = .ok y w := fun x y => by kernel_rfl
  refine eqA_of (fs := (Tryd.prog.fieldsOf 98)) (by kernel_rfl) (by kernel_rfl) ?_
  rw [hf]
  refine eqf_cons n0 (a := .int .i64 a) (b := .int .i64 a') (by rw [y0, p0]; exact q0 _ _) (by rw [y0, p0]; exact q0 _ _) (by rw [y0]; exact eqInt _ _ _ _) ?_
  exact eqf_last n1 (a := .int .i64 b) (b := .int .i64 b') (by rw [y1, p1]; exact q1 _ _) (by rw [y1, p1]; exact q1 _ _) (by rw [y1]; exact eqInt _ _ _ _)
theorem eqCh (a b c a' b' c' : Int) (w : World) : (Op.equalIn 10000 165 (.agg #[.int .i64 a, .int .i64 b, .int .i64 c]) (.agg #[.int .i64 a', .int .i64 b', .int .i64 c'])).run Tryd.prog w = .ok ((a == a' && b == b') && c == c') w := by
  have hl : ((Tryd.prog.fieldsOf 165).toList.map fun f => (f.name == "_", f.type, f.offset)) = [(false, 98, 0), (false, 3, 2)] := by kernel_rfl
  obtain ⟨f0, f1, hf, ⟨n0, y0, p0⟩, ⟨n1, y1, p1⟩⟩ := two_fields hl
  have q0 : ∀ (x y z : Value), (part 98 #[x, y, z] 0).run Tryd.prog w = .ok (.agg #[x, y]) w := fun x y z => by kernel_rfl
  have q1 : ∀ (x y z : Value), (part 3 #[x, y, z] 2).run Tryd.prog w = .ok z w := fun x y z => by kernel_rfl
  refine eqA_of (d := 9999) (fs := (Tryd.prog.fieldsOf 165)) (by kernel_rfl) (by kernel_rfl) ?_
  rw [hf]
  refine eqf_cons n0 (a := .agg #[.int .i64 a, .int .i64 b]) (b := .agg #[.int .i64 a', .int .i64 b']) (by rw [y0, p0]; exact q0 _ _ _) (by rw [y0, p0]; exact q0 _ _ _) (by rw [y0]; exact eqPc _ _ _ _ _ 9997) ?_
  exact eqf_last n1 (a := .int .i64 c) (b := .int .i64 c') (by rw [y1, p1]; exact q1 _ _ _) (by rw [y1, p1]; exact q1 _ _ _) (by rw [y1]; exact eqInt _ _ _ 9998)
theorem guardCh (o : BinOp) (x y : Operand) (a b : Array Value) (w : World) : (eqGuard o 165 x y (.agg a) (.agg b)).run Tryd.prog w = .ok () w := run_eqGuard_agg w _ _ _ _ _ _ (by kernel_rfl)
theorem guardPc (o : BinOp) (x y : Operand) (a b : Array Value) (w : World) : (eqGuard o 98 x y (.agg a) (.agg b)).run Tryd.prog w = .ok () w := run_eqGuard_agg w _ _ _ _ _ _ (by kernel_rfl)
end Go.Proofs.YtngpoonjonojhaaDoor
/-! Plain laws: cutting lines. -/
namespace Go.Proofs.YtngpoonjonojhaaDoor
def inR (n a b : Int) : Bool := decide (a ≤ n) && decide (n ≤ b)
def sizeErr1 (ss : List Int) (i : Nat) : Int := if inR (rdI ss (i : Nat)) 1 2000 then 0 else 9
def headErr (x : Ln) : Int :=
  if inR x.len 0 2000 && inR x.kerf 0 20 && inR x.pitch 1 2000 then (if 32 < x.sizes.length then 4 else firstErr (sizeErr1 x.sizes) x.sizes.length) else 9
def rowErr1 (x : Ln) (i : Nat) : Int := if ((rd_L2 x.gain (i : Nat)).length : Int) = mxi 0 (x.len - rdI x.sizes (i : Nat) + 1) then 0 else 19
def numErr1 (xs : List Int) (i : Nat) : Int := if inR (rdI xs (i : Nat)) (-1125899906842624) 1125899906842624 then 0 else 9
def numsErr1 (rows : List (List Int)) (i : Nat) : Int := firstErr (numErr1 (rd_L2 rows (i : Nat))) (rd_L2 rows (i : Nat)).length
def lnErr (x : Ln) : Int :=
  if headErr x ≠ 0 then headErr x
  else if x.gain.length ≠ x.sizes.length ∨ (x.chip.length : Int) ≠ x.len ∨ (x.dust.length : Int) ≠ x.len then 19
  else if firstErr (rowErr1 x) x.gain.length ≠ 0 then firstErr (rowErr1 x) x.gain.length
  else firstErr (numsErr1 ([x.chip, x.dust] ++ x.gain)) ([x.chip, x.dust] ++ x.gain).length
def sumTo (xs : List Int) : Nat → Int
  | 0 => 0
  | n + 1 => sumTo xs n + rdI xs (n : Nat)
/-- The sums of the first elements. -/
def sumsOf (xs : List Int) : List Int := (List.range (xs.length + 1)).map (sumTo xs)
end Go.Proofs.YtngpoonjonojhaaDoor
/-! Walks: the head of a cutting line, sums. -/
namespace Go.Proofs.YtngpoonjonojhaaDoor
open Go.RowKit Go.Proofs.YtngpoonjonojhaaDoorW.PrintWords Go.Proofs.YtngpoonjonojhaaDoorW.PrintLast
set_option linter.unusedVariables false

theorem inRange_calls (n a b : Int) (w : World) :
    Calls Tryd.prog 90 #[.int .i64 n, .int .i64 a, .int .i64 b] w fun e w' => e = .returned (.bool (inR n a b)) ∧ Below w.heap.size w w' := by
  go_enter Tryd.func90, Tryd.ntmps90
  go_wp2
  all_goals go_ret
  all_goals exact ⟨rb (Bool.eq_iff_iff.2 (by simp [inR]; try omega)), BB⟩

set_option maxHeartbeats 2000000 in
set_option maxRecDepth 100000 in
theorem head_calls (len kerf pitch : Int) (A1 : Option Addr) (c1 : Nat) (sizes : List Int) (A2 : Option Addr) (n2 c2 : Nat) (A3 : Option Addr) (n3 c3 : Nat) (A4 : Option Addr) (n4 c4 : Nat) (gain : List (List Int)) (chip dust : List Int) (hz : sizes.length ≤ 1000000) (w : World) (h1 : Kd.C (Kd.int .i64) w A1 sizes.length sizes) :
    Calls Tryd.prog 89 #[.agg #[.int .i64 len, .int .i64 kerf, .int .i64 pitch, .slice A1 sizes.length c1, .slice A2 n2 c2, .slice A3 n3 c3, .slice A4 n4 c4]] w fun e w' => e = .returned (.int .i64 (headErr ⟨len, kerf, pitch, sizes, gain, chip, dust⟩)) ∧ Below w.heap.size w w' := by
  have HB := Aside0.mk (Below.refl w.heap.size w)
  have H1 := Aside0.mk h1
  clear h1
  obtain ⟨R, hR⟩ : ∃ R, R = headErr ⟨len, kerf, pitch, sizes, gain, chip, dust⟩ := ⟨_, rfl⟩
  rw [← hR]
  have HR := Aside0.mk (show R = if inR len 0 2000 && inR kerf 0 20 && inR pitch 1 2000 then (if 32 < sizes.length then 4 else firstErr (sizeErr1 sizes) sizes.length) else 9 from hR)
  clear hR
  go_enter Tryd.func89, Tryd.ntmps89
  go_wp2_with fail
  refine (inRange_calls _ _ _ _).mono ?_
  rintro e w1 ⟨rfl, hb1⟩
  obtain ⟨hB1, hb2⟩ := adv HB.out hb1
  have hb : w1.heap[w.heap.size]? = some (.cells #[.int .i64 len, .int .i64 kerf, .int .i64 pitch, .slice A1 sizes.length c1, .slice A2 n2 c2, .slice A3 n3 c3, .slice A4 n4 c4] 64 (0, 0)) := blk_below (by repeat (first | exact blk_newi _ (by simp) | refine blk_drewN ?_ _ | refine blk_drew ?_ | refine blk_alloc ?_ _)) hb1
  have hb_0 : w1.cell? ⟨w.heap.size, 0, none⟩ = some (.int .i64 len) := (blk_cell hb 0).trans rfl
  have hb_1 : w1.cell? ⟨w.heap.size, 1, none⟩ = some (.int .i64 kerf) := (blk_cell hb 1).trans rfl
  have hb_2 : w1.cell? ⟨w.heap.size, 2, none⟩ = some (.int .i64 pitch) := (blk_cell hb 2).trans rfl
  have hb_3 : w1.cell? ⟨w.heap.size, 3, none⟩ = some (.slice A1 sizes.length c1) := (blk_cell hb 3).trans rfl
  have hb_4 : w1.cell? ⟨w.heap.size, 4, none⟩ = some (.slice A2 n2 c2) := (blk_cell hb 4).trans rfl
  have hb_5 : w1.cell? ⟨w.heap.size, 5, none⟩ = some (.slice A3 n3 c3) := (blk_cell hb 5).trans rfl
  have hb_6 : w1.cell? ⟨w.heap.size, 6, none⟩ = some (.slice A4 n4 c4) := (blk_cell hb 6).trans rfl
  replace hb := Aside0.mk hb
  replace HB := Aside0.mk hB1
  clear hb1 hB1 hb2
  clear hb_0 hb_4 hb_5 hb_6
  rcases g1 : inR len 0 2000 with _ | _
  · have F := Aside0.mk (show R = 9 by rw [HR.out, g1]; rfl)
    clear g1
    go_wp2
    go_ret
    exact ⟨ri F.out.symm, HB.out⟩
  go_wp2_with fail
  refine (inRange_calls _ _ _ _).mono ?_
  rintro e w2 ⟨rfl, hb1⟩
  obtain ⟨hB1, hb2⟩ := adv HB.out hb1
  replace hb_2 := pw_cell_below hb2 hb_2
  replace hb_3 := pw_cell_below hb2 hb_3
  replace hb := Aside0.mk (blk_below hb.out hb2)
  replace HB := Aside0.mk hB1
  clear hb1 hB1 hb2
  clear hb_1
  rcases g2 : inR kerf 0 20 with _ | _
  · have F := Aside0.mk (show R = 9 by rw [HR.out, g1, g2]; rfl)
    clear g1 g2
    go_wp2
    go_ret
    exact ⟨ri F.out.symm, HB.out⟩
  go_wp2_with fail
  refine (inRange_calls _ _ _ _).mono ?_
  rintro e w3 ⟨rfl, hb1⟩
  obtain ⟨hB1, hb2⟩ := adv HB.out hb1
  replace hb_3 := pw_cell_below hb2 hb_3
  replace hb := Aside0.mk (blk_below hb.out hb2)
  replace HB := Aside0.mk hB1
  clear hb1 hB1 hb2
  clear hb_2
  rcases g3 : inR pitch 1 2000 with _ | _
  · have F := Aside0.mk (show R = 9 by rw [HR.out, g1, g2, g3]; rfl)
    clear g1 g2 g3
    go_wp2
    go_ret
    exact ⟨ri F.out.symm, HB.out⟩
  have F1 := Aside0.mk (show R = if 32 < sizes.length then 4 else firstErr (sizeErr1 sizes) sizes.length by rw [HR.out, g1, g2, g3]; rfl)
  clear g1 g2 g3 HR
  by_cases h32 : 32 < (sizes.length : Int)
  · have F := Aside0.mk (show R = 4 from F1.out.trans (if_pos (by omega)))
    go_wp2
    go_ret
    exact ⟨ri F.out.symm, HB.out⟩
  have F := Aside0.mk (show R = firstErr (sizeErr1 sizes) sizes.length from F1.out.trans (if_neg (by omega)))
  have h33 : (sizes.length : Int) ≤ 32 := by omega
  clear h32 F1
  go_wp2
  clear hb_3 hb
  go_loopw [28] (fun i wr => ∃ k : Nat, k ≤ sizes.length ∧ i = .int .i64 k ∧ Aside0 (firstErr (sizeErr1 sizes) k = 0) ∧ Aside0 (Below w.heap.size w wr)) (fun i _ => sizes.length - (intOf i).toNat)
  case atStart => exact ⟨0, by omega, rfl, ⟨rfl⟩, HB⟩
  case round =>
    clear HB
    obtain ⟨k, hk, rfl, HA, HB⟩ := hrel
    by_cases hlt : k < sizes.length
    · obtain ⟨ad, rfl, hx⟩ := Kd.at_int (Kd.C_below H1.out HB.out) k (by omega) (by omega)
      simp only [Int.toNat_natCast] at hx
      go_wp2_with fail
      refine (inRange_calls _ _ _ _).mono ?_
      rintro e w4 ⟨rfl, hb1⟩
      have HB1 := Aside0.mk (adv HB.out hb1).1
      clear hb1 hx
      rcases g : inR (rd sizes k) 1 2000 with _ | _
      · have HE := Aside0.mk (show sizeErr1 sizes k = 9 from if_neg (by show ¬ inR (rd sizes k) 1 2000 = true; rw [g]; simp))
        have HF := Aside0.mk (show R = 9 from F.out.trans ((firstErr_found HA.out (by rw [HE.out]; omega) hlt).trans HE.out))
        clear g
        go_wp2
        go_ret
        exact ⟨ri HF.out.symm, HB1.out⟩
      · have HA1 := Aside0.mk (firstErr_step HA.out (show sizeErr1 sizes k = 0 from if_pos g))
        clear g
        go_wp2
        go_roundw
        case rel => exact ⟨k + 1, by omega, by go_num, HA1, HB1⟩
        case measure => simp [intOf]; omega
    · obtain rfl : k = sizes.length := by omega
      go_wp2
      go_ret
      exact ⟨ri (F.out.trans HA.out).symm, HB.out⟩

theorem sumTo_bound {xs : List Int} (h : ∀ i : Nat, i < xs.length → -1125899906842624 ≤ rdI xs i ∧ rdI xs i ≤ 1125899906842624) : ∀ k, k ≤ xs.length → -(1125899906842624 * (k : Int)) ≤ sumTo xs k ∧ sumTo xs k ≤ 1125899906842624 * k
  | 0, _ => by simp [sumTo]
  | k + 1, hk => by
    have a := sumTo_bound h k (by omega)
    have b := h k (by omega)
    simp only [sumTo]
    omega
theorem sums_step (xs : List Int) (k : Nat) (hk : k < xs.length) : (rowTo (sumTo xs) (xs.length + 1) (k + 1)).set (k + 1) (sumTo xs k + rdI xs (k : Nat)) = rowTo (sumTo xs) (xs.length + 1) (k + 2) := rowTo_set (G := sumTo xs) (n := xs.length + 1) (k := k + 1) (by omega)
theorem rowTo_get {G : Nat → Int} {n k j : Nat} (h : j < k) : (rowTo G n k).getD j 0 = G j := by
  unfold rowTo
  rw [List.getD_eq_getElem?_getD, List.getElem?_append_left (by simpa using h)]
  simp [h]

set_option maxHeartbeats 2000000 in
set_option maxRecDepth 100000 in
theorem sums_calls (A : Option Addr) (c : Nat) (xs : List Int) (hz : xs.length ≤ 2000) (hb : ∀ i : Nat, i < xs.length → -1125899906842624 ≤ rdI xs i ∧ rdI xs i ≤ 1125899906842624) (w : World) (h1 : Kd.C (Kd.int .i64) w A xs.length xs) :
    Calls Tryd.prog 83 #[.slice A xs.length c] w fun e w' => (∃ A' c', e = .returned (.slice A' (sumsOf xs).length c') ∧ (sumsOf xs).length ≤ c' ∧ Kd.C (Kd.int .i64) w' A' (sumsOf xs).length (sumsOf xs)) ∧ Below w.heap.size w w' := by
  have HB := Aside0.mk (Below.refl w.heap.size w)
  have H1 := Aside0.mk h1
  have HBD := Aside0.mk hb
  clear h1 hb
  have hmk : ∀ W : World, (Instr.makeSlice 25 (.int .i64 ((xs.length : Int) + 1)) (.int .i64 ((xs.length : Int) + 1))).run Tryd.prog W = .ok (.slice (some ⟨W.heap.size, 0, none⟩) (xs.length + 1) (xs.length + 1)) (W.alloc (.cells (madeCells #[.int .i64 0] (xs.length + 1)) 3)) := print_make (P := Tryd.prog) 25 3 .i64 8 Tryd.underlying25 infoInt (by decide) (xs.length + 1) (by omega)
  go_enter Tryd.func83, Tryd.ntmps83
  go_upto_region 2 with (fail)
  clear hmk
  have HW := Aside0.mk (row_made w w.heap.size (xs.length + 1) (Nat.le_refl _) (by omega) (fun _ => True) trivial)
  have HB0 := Aside0.mk (below_alloc (Below.refl w.heap.size w) (.cells (madeCells #[.int .i64 0] (xs.length + 1)) 3))
  rw [show List.replicate (xs.length + 1) (0 : Int) = rowTo (sumTo xs) (xs.length + 1) (0 + 1) by unfold rowTo; simp [sumTo, List.replicate_succ]] at HW
  generalize w.alloc (.cells (madeCells #[.int .i64 0] (xs.length + 1)) 3) = w1 at *
  go_wp2
  go_loopw [12] (fun i wr => ∃ k : Nat, k ≤ xs.length ∧ i = .int .i64 k ∧ Aside0 (Below w.heap.size w wr) ∧ Aside0 ((Kd.int .i64).R 3 wr w.heap.size (fun _ => True) (.slice (some ⟨w.heap.size, 0, none⟩) (xs.length + 1) (xs.length + 1)) (rowTo (sumTo xs) (xs.length + 1) (k + 1)))) (fun i _ => xs.length - (intOf i).toNat)
  case atStart => exact ⟨0, by omega, rfl, HB0, HW⟩
  case round =>
    clear HB HB0 HW
    obtain ⟨k, hk, rfl, HB, HW⟩ := hrel
    by_cases hlt : k < xs.length
    · obtain ⟨ad, rfl, hx⟩ := Kd.at_int (Kd.C_below H1.out HB.out) k (by omega) (by omega)
      simp only [Int.toNat_natCast] at hx
      have sb := sumTo_bound HBD.out k hk
      have xb := HBD.out k hlt
      have xb1 : -1125899906842624 ≤ rd xs k ∧ rd xs k ≤ 1125899906842624 := xb
      clear xb
      have hy := (row_cell HW.out (rowTo_len (by omega)) k (by omega)).1
      rw [rowTo_get (by omega)] at hy
      have hv := row_cell HW.out (rowTo_len (by omega)) (k + 1) (by omega)
      obtain ⟨hv1, hv2⟩ := hv
      generalize hs : sumTo xs k = s at *
      go_upto_region 6 with (fail)
      have HW1 := Aside0.mk (row_put HW.out (rowTo_len (by omega)) (k + 1) (s + rd xs k))
      have HB1 := Aside0.mk (below_set (j := k + 1) (v := .int .i64 (s + rd xs k)) HB.out (Nat.le_refl _))
      have HW2 := HW1.out
      have e : (rowTo (sumTo xs) (xs.length + 1) (k + 1)).set (k + 1) (s + rd xs k) = rowTo (sumTo xs) (xs.length + 1) (k + 1 + 1) := by rw [← hs]; exact sums_step xs k hlt
      rw [e] at HW2
      have HW3 := Aside0.mk HW2
      clear HW2 e hx hy hv1 hv2 sb xb1 HW HW1 HB
      generalize wr.setCell ⟨w.heap.size, k + 1, none⟩ (.int .i64 (s + rd xs k)) = w2 at *
      go_wp2_with fail
      go_roundw
      case rel => exact ⟨k + 1, by omega, by go_num, HB1, HW3⟩
      case measure => simp [intOf]; omega
    · obtain rfl : k = xs.length := by omega
      have HW1 := HW.out
      rw [rowTo_all] at HW1
      obtain ⟨e1, e2, e3⟩ := Kd.R_reads' HW1
      have E1 := Aside0.mk (show xs.length + 1 = (sumsOf xs).length from e1)
      have E3 := Aside0.mk (show Kd.C (Kd.int .i64) wr (some ⟨w.heap.size, 0, none⟩) (sumsOf xs).length (sumsOf xs) from e3)
      clear HW1 e1 e2 e3 HW
      go_wp2
      go_ret
      exact ⟨⟨some ⟨w.heap.size, 0, none⟩, xs.length + 1, by rw [← E1.out]; rfl, by rw [← E1.out]; exact Nat.le_refl _, E3.out⟩, HB.out⟩
end Go.Proofs.YtngpoonjonojhaaDoor
