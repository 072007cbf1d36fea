/- Words and walks that the row leans on: PlWor, PlEdg, WPri, WMos. -/
import Derived.Test.YtngpoonjonojhaaDoorE08
import Derived.Test.YtngpoonjonojhaaDoorE07
import Derived.Test.YtngpoonjonojhaaDoorE05
set_option linter.all false
/-! Plain laws: what boards are worth. -/
namespace Go.Proofs.YtngpoonjonojhaaDoor
/-- Are the sides of a rectangle the green sizes of a product? -/
def sizeOk (p : Prod) (r : Rect) : Bool :=
  (decide (r.x.b - r.x.a = greenT p.thick p.width p.allow) && decide (r.y.b - r.y.a = greenW p.thick p.width p.allow)) || (decide (r.x.b - r.x.a = greenW p.thick p.width p.allow) && decide (r.y.b - r.y.a = greenT p.thick p.width p.allow))
def lookOk (l : List Slc) (d : List Dft) (p : Prod) (r : Rect) : Bool :=
  decide (dftCheck d = 0) && decide (catCheck [p] = 0) && decide (solCheck l = 0) && across r && sizeOk p r
end Go.Proofs.YtngpoonjonojhaaDoor
/-! Plain laws: the worth of boxes, the line of a strip. -/
namespace Go.Proofs.YtngpoonjonojhaaDoor
/-- What is left of the price n after the first k defects; none: rot. -/
def wthTo (d : List Dft) (b : Box) (fine n : Int) : Nat → Option Int
  | 0 => some n
  | k + 1 => match wthTo d b fine n k with
    | none => none
    | some m => if touches (rd_Dft d k).box b then (if (rd_Dft d k).kind = 3 then none else some (m - fine)) else some m
/-- The worth of a box of a looker. -/
def worthK (d : List Dft) (p : Prod) (r : Rect) (len : Int) (ends wane : List Int) (z : Sp) (fine : Int) : Option Int :=
  if z.a < 0 ∨ z.b ≤ z.a ∨ len < z.b then none
  else match priceOf p.lengths p.prices (z.b - z.a) p.lengths.length with
    | none => none
    | some n => if p.wane < most ends wane z then none else (wthTo d ⟨r.x, r.y, z⟩ fine n d.length).map fun m => mxi 0 m
/-- The better one of a choice so far and a new one. -/
def better (b : Option (Sp × Int)) (z : Sp) (v : Option Int) : Option (Sp × Int) :=
  match v with
  | none => b
  | some v => match b with
    | none => some (z, v)
    | some (s, x) => if x < v then some (z, v) else some (s, x)
def bestIn (W : Sp → Option Int) (ls : List Int) (pos : Int) (b : Option (Sp × Int)) : Nat → Option (Sp × Int)
  | 0 => b
  | j + 1 => better (bestIn W ls pos b j) ⟨pos, pos + rdI ls j⟩ (W ⟨pos, pos + rdI ls j⟩)
def bestTo (W : Sp → Option Int) (ls : List Int) (step : Int) : Nat → Option (Sp × Int)
  | 0 => none
  | k + 1 => bestIn W ls (k * step) (bestTo W ls step k) ls.length
/-- How many positions lie in a length. -/
def stepsIn (len step : Int) : Nat := ((len + step - 1) / step).toNat
/-- The best box of a rectangle. -/
def bestOf (l : List Slc) (d : List Dft) (p : Prod) (r : Rect) (step fine : Int) : Option (Sp × Int) :=
  if lookOk l d p r && (decide (1 ≤ step) && decide (step ≤ 20000) && (decide (0 ≤ fine) && decide (fine ≤ 1000000))) then
    bestTo (fun z => worthK d p r (solLen l) (endsTo l l.length) (wanesTo l r l.length) z fine) p.lengths step (stepsIn (solLen l) step)
  else none

structure Sw where
  kerf : Int
  trim : Int
  pitch : Int
  step : Int
structure Rt where
  chip : Int
  dust : Int
  fine : Int
structure Ln where
  len : Int
  kerf : Int
  pitch : Int
  sizes : List Int
  gain : List (List Int)
  chip : List Int
  dust : List Int
def partOf (r : Rect) (p q : Int) : Rect := ⟨⟨r.x.a + p, r.x.a + q⟩, r.y⟩
def volOf (l : List Slc) (r : Rect) (z : Sp) : Int := solWithin l ⟨r.x, r.y, z⟩
def gainPts (l : List Slc) (r : Rect) (s : Sw) (t : Rt) (z : Sp) (pts : Int) : Int :=
  1000000 * pts + t.dust * (volOf l r ⟨mxi 0 (z.a - s.trim), z.a⟩ + volOf l r ⟨z.b, mni (z.b + s.trim) (solLen l)⟩)
    + t.chip * (volOf l r ⟨0, solLen l⟩ - volOf l r z - (volOf l r ⟨mxi 0 (z.a - s.trim), z.a⟩ + volOf l r ⟨z.b, mni (z.b + s.trim) (solLen l)⟩))
def gainOf (l : List Slc) (d : List Dft) (p : Prod) (rect : Rect) (s : Sw) (t : Rt) (pos width : Int) : Int :=
  if pos % s.pitch ≠ 0 then -1
  else match bestOf l d p (partOf rect pos (pos + width)) s.step t.fine with
    | none => -1
    | some (z, pts) => gainPts l (partOf rect pos (pos + width)) s t z pts

/-- The width of a product of a height. -/
def szOf (p : Prod) (h : Int) : Option Int :=
  if h = greenT p.thick p.width p.allow then some (greenW p.thick p.width p.allow)
  else if h = greenW p.thick p.width p.allow then some (greenT p.thick p.width p.allow) else none
def widthsTo (c : List Prod) (h : Int) : Nat → List Int
  | 0 => []
  | n + 1 => match szOf (rd_Prod c n) h with
    | none => widthsTo c h n
    | some w => widthsTo c h n ++ [w]
def prodsTo (c : List Prod) (h : Int) : Nat → List Int
  | 0 => []
  | n + 1 => match szOf (rd_Prod c n) h with
    | none => prodsTo c h n
    | some _ => prodsTo c h n ++ [(n : Int)]
def widthsOf (c : List Prod) (h : Int) : List Int := if catCheck c = 0 then widthsTo c h c.length else []
def prodsOf (c : List Prod) (h : Int) : List Int := if catCheck c = 0 then prodsTo c h c.length else []

def endsOk (z : Sp) : Bool := decide (-600 ≤ mni z.a z.b) && decide (mxi z.a z.b ≤ 600)
/-- The first error of the arguments of Line. -/
def lineErr (l : List Slc) (d : List Dft) (c : List Prod) (r : Rect) (s : Sw) (t : Rt) : Int :=
  if solCheck l ≠ 0 then solCheck l else if dftCheck d ≠ 0 then dftCheck d else if catCheck c ≠ 0 then catCheck c
  else if sawCheck s.kerf s.trim s.pitch s.step t.chip t.dust t.fine ≠ 0 then sawCheck s.kerf s.trim s.pitch s.step t.chip t.dust t.fine
  else if r.x.b ≤ r.x.a ∨ r.y.b ≤ r.y.a then 19 else if endsOk r.x && endsOk r.y then 0 else 9
def rowOf (l : List Slc) (d : List Dft) (p : Prod) (r : Rect) (s : Sw) (t : Rt) (w : Int) : List Int :=
  (List.range (mxi 0 (r.x.b - r.x.a - w + 1)).toNat).map fun k => gainOf l d p r s t (k : Nat) w
def lineOf (l : List Slc) (d : List Dft) (c : List Prod) (r : Rect) (s : Sw) (t : Rt) : Ln :=
  { len := r.x.b - r.x.a, kerf := s.kerf, pitch := 1, sizes := widthsOf c (r.y.b - r.y.a)
    gain := (List.range (widthsOf c (r.y.b - r.y.a)).length).map fun i => rowOf l d (rd_Prod c (rdI (prodsOf c (r.y.b - r.y.a)) (i : Nat))) r s t (rdI (widthsOf c (r.y.b - r.y.a)) (i : Nat))
    chip := (List.range (r.x.b - r.x.a).toNat).map fun k => t.chip * volOf l (partOf r (k : Nat) (k + 1)) ⟨0, solLen l⟩
    dust := (List.range (r.x.b - r.x.a).toNat).map fun k => t.dust * volOf l (partOf r (k : Nat) (k + 1)) ⟨0, solLen l⟩ }
end Go.Proofs.YtngpoonjonojhaaDoor
/-! Walks. -/
namespace Go.Proofs.YtngpoonjonojhaaDoor
open Go.RowKit Go.Proofs.YtngpoonjonojhaaDoorW.PrintWords Go.Proofs.YtngpoonjonojhaaDoorW.PrintLast
set_option linter.unusedVariables false


theorem price_found {ls ps : List Int} {n p : Int} {k : Nat} (h : priceOf ls ps n (k + 1) = some p) : ∀ {m : Nat}, k < m → priceOf ls ps n m = some p
  | m + 1, hm => by
    by_cases e : k = m
    · rw [← e]; exact h
    · have := price_found h (m := m) (by omega); simp only [priceOf, this]
set_option maxHeartbeats 2000000 in
theorem price_calls (nm : ByteArray) (th wd al wa : Int) (A5 : Option Addr) (c5 : Nat) (ls : List Int) (A6 : Option Addr) (c6 : Nat) (ps : List Int) (n : Int) (hn : ls.length ≤ 1000000) (hw : ls.length = ps.length) (w : World) (hl : Kd.C (Kd.int .i64) w A5 ls.length ls) (hp : Kd.C (Kd.int .i64) w A6 ps.length ps) :
    Calls Tryd.prog 108 #[.agg #[.string nm, .int .i64 th, .int .i64 wd, .int .i64 al, .int .i64 wa, .slice A5 ls.length c5, .slice A6 ps.length c6], .int .i64 n] w fun e w' => e = .returned (.tuple #[.int .i64 ((priceOf ls ps n ls.length).getD 0), .bool (priceOf ls ps n ls.length).isSome]) ∧ Below w.heap.size w w' := by
  have HB := Aside0.mk (Below.refl w.heap.size w)
  have HL := Aside0.mk hl
  have HP := Aside0.mk hp
  have HW := Aside0.mk hw
  clear hl hp hw
  go_enter Tryd.func108, Tryd.ntmps108
  go_wp2
  go_loopw [11] (fun i wr => ∃ k : Nat, k ≤ ls.length ∧ i = .int .i64 k ∧ Aside0 (priceOf ls ps n k = none) ∧ Aside0 (Below w.heap.size w wr) ∧ Aside0 (wr.heap[w.heap.size]? = some (.cells #[.string nm, .int .i64 th, .int .i64 wd, .int .i64 al, .int .i64 wa, .slice A5 ls.length c5, .slice A6 ps.length c6] 43 (0, 0)))) (fun i _ => ls.length - (intOf i).toNat)
  case atStart => exact ⟨0, by omega, rfl, ⟨rfl⟩, ⟨BB⟩, ⟨KK⟩⟩
  case round =>
    clear HB
    obtain ⟨k, hk, rfl, HA, HB, HK⟩ := hrel
    have hz6 : wr.cell? ⟨w.heap.size, 6, none⟩ = some (.slice A6 ps.length c6) := (blk_cell HK.out 6).trans rfl
    by_cases hlt : k < ls.length
    · have hw := HW.out
      obtain ⟨ad, rfl, hx⟩ := Kd.at_int (Kd.C_below HL.out HB.out) k (by omega) (by omega)
      obtain ⟨ad', rfl, hy⟩ := Kd.at_int (Kd.C_below HP.out HB.out) k (by omega) (by omega)
      simp only [Int.toNat_natCast] at hx hy
      have hlt' : k < ps.length := by omega
      clear hw
      have HT := Aside0.mk (show priceOf ls ps n (k + 1) = if rd ls k = n then some (rd ps k) else none by simp only [priceOf, HA.out]; rfl)
      by_cases g : rd ls k = n
      · have HE := Aside0.mk (price_found (HT.out.trans (if_pos g)) hlt)
        have g1 : (rd ls k == n) = true := beq_iff_eq.2 g
        clear g
        go_wp2
        go_ret2
        exact ⟨by rw [HE.out]; rfl, HB.out⟩
      · have HA1 := Aside0.mk (HT.out.trans (if_neg g))
        have g1 : (rd ls k == n) = false := beq_eq_false_iff_ne.2 g
        clear g
        go_wp2
        go_roundw
        case rel => exact ⟨k + 1, by omega, by go_num, HA1, HB, HK⟩
        case measure => simp [intOf]; omega
    · obtain rfl : k = ls.length := by omega
      go_wp2
      go_ret2
      exact ⟨by rw [HA.out]; rfl, HB.out⟩
end Go.Proofs.YtngpoonjonojhaaDoor
/-! Walks. -/
namespace Go.Proofs.YtngpoonjonojhaaDoor
open Go.RowKit Go.Proofs.YtngpoonjonojhaaDoorW.PrintWords Go.Proofs.YtngpoonjonojhaaDoorW.PrintLast
set_option linter.unusedVariables false


set_option maxHeartbeats 2000000 in
theorem most_calls (A : Option Addr) (c : Nat) (ends : List Int) (A' : Option Addr) (c' : Nat) (wane : List Int) (za zb : Int) (hn : ends.length ≤ 1000000) (hw : ends.length = wane.length) (w : World) (hr : Kd.C (Kd.int .i64) w A ends.length ends) (hr' : Kd.C (Kd.int .i64) w A' wane.length wane) :
    Calls Tryd.prog 109 #[.slice A ends.length c, .slice A' wane.length c', .agg #[.int .i64 za, .int .i64 zb]] w fun e w' => e = .returned (.int .i64 (most ends wane ⟨za, zb⟩)) ∧ Below w.heap.size w w' := by
  have HB := Aside0.mk (Below.refl w.heap.size w)
  have HR := Aside0.mk hr
  have HR' := Aside0.mk hr'
  clear hr hr'
  have HW := Aside0.mk hw
  clear hw
  go_enter Tryd.func109, Tryd.ntmps109
  go_wp2
  go_loopw [7, 8, 13] (fun v bg i wr => ∃ k : Nat, k ≤ ends.length ∧ v = .int .i64 (mostTo ends wane ⟨za, zb⟩ k) ∧ bg = .int .i64 (if k = 0 then 0 else rdI ends ((k : Int) - 1)) ∧ i = .int .i64 k ∧ Aside0 (Below w.heap.size w wr) ∧ Aside0 (wr.heap[w.heap.size]? = some (.cells #[.int .i64 za, .int .i64 zb] 33 (0, 0)))) (fun _ _ i _ => ends.length - (intOf i).toNat)
  case atStart => exact ⟨0, by omega, rfl, rfl, rfl, ⟨BB⟩, ⟨KK⟩⟩
  case round =>
    clear HB
    obtain ⟨k, hk, rfl, rfl, rfl, HB, HZ⟩ := hrel
    have hz0 : wr.cell? ⟨w.heap.size, 0, none⟩ = some (.int .i64 za) := (blk_cell HZ.out 0).trans rfl
    have hz1 : wr.cell? ⟨w.heap.size, 1, none⟩ = some (.int .i64 zb) := (blk_cell HZ.out 1).trans rfl
    by_cases hlt : k < ends.length
    · have hw := HW.out
      obtain ⟨ad, rfl, hx⟩ := Kd.at_int (Kd.C_below HR.out HB.out) k (by omega) (by omega)
      obtain ⟨ad', rfl, hy⟩ := Kd.at_int (Kd.C_below HR'.out HB.out) k (by omega) (by omega)
      simp only [Int.toNat_natCast] at hx hy
      have hlt' : k < wane.length := by omega
      clear hw
      obtain ⟨b0, hb0⟩ : ∃ b0, b0 = (if k = 0 then 0 else rdI ends ((k : Int) - 1)) := ⟨_, rfl⟩
      have HT := Aside0.mk (show mostTo ends wane ⟨za, zb⟩ (k + 1) = if b0 < zb ∧ za < rd ends k then mxi (mostTo ends wane ⟨za, zb⟩ k) (rd wane k) else mostTo ends wane ⟨za, zb⟩ k by rw [hb0]; rfl)
      rw [← hb0]
      have HN := Aside0.mk (show (if k + 1 = 0 then 0 else rdI ends (((k + 1 : Nat) : Int) - 1)) = rd ends k by rw [if_neg (by omega)]; congr 1; omega)
      clear hb0
      by_cases g1 : b0 < zb
      · by_cases g2 : za < rd ends k
        · have HT1 := Aside0.mk (HT.out.trans (if_pos ⟨g1, g2⟩))
          by_cases g3 : mostTo ends wane ⟨za, zb⟩ k < rd wane k
          · have HT2 := Aside0.mk (HT1.out.trans (if_pos g3))
            go_wp2
            go_roundw
            case rel => exact ⟨k + 1, by omega, by rw [HT2.out], by rw [HN.out], by go_num, HB, HZ⟩
            case measure => simp [intOf]; omega
          · have HT2 := Aside0.mk (HT1.out.trans (if_neg g3))
            go_wp2
            go_roundw
            case rel => exact ⟨k + 1, by omega, by rw [HT2.out], by rw [HN.out], by go_num, HB, HZ⟩
            case measure => simp [intOf]; omega
        · have HT1 := Aside0.mk (HT.out.trans (if_neg (by omega)))
          go_wp2
          go_roundw
          case rel => exact ⟨k + 1, by omega, by rw [HT1.out], by rw [HN.out], by go_num, HB, HZ⟩
          case measure => simp [intOf]; omega
      · have HT1 := Aside0.mk (HT.out.trans (if_neg (by omega)))
        go_wp2
        go_roundw
        case rel => exact ⟨k + 1, by omega, by rw [HT1.out], by rw [HN.out], by go_num, HB, HZ⟩
        case measure => simp [intOf]; omega
    · obtain rfl : k = ends.length := by omega
      generalize (if ends.length = 0 then (0 : Int) else rdI ends ((ends.length : Int) - 1)) = b0
      go_wp2
      go_ret
      exact ⟨rfl, HB.out⟩
end Go.Proofs.YtngpoonjonojhaaDoor
