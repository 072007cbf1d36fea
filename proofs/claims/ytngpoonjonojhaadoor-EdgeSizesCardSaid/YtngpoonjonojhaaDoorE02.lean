/- How the program's memory reads as these structures. -/
import Derived.Test.YtngpoonjonojhaaDoorProg
import Derived.Below
import Derived.Deep.Draws
import Derived.Deep.AppendLies
import Derived.Maps.AppendAt
import Derived.OwnWalk
import Derived.Laws.BytesArg
import Derived.Laws.MakeOwn
import Derived.Laws.OwnMore
import Derived.Deep.OwnRows
import Derived.Tactics
import Derived.Lib.ConvBytes
import Derived.Laws.Slices
import Derived.WalkKit
import Derived.KernelRfl
import Derived.RowKit3
import Derived.Deep.LoopGhost
import Derived.Deep.QuietTactic
import Derived.BigQuiet
import Derived.WideLaws
import Derived.Deep.DeepCutAuto
import Derived.Deep.CutBlock
import Derived.Deep.RegionHeld3
import Derived.Laws.Rows
import Derived.Lib.AppendStr
import Derived.ArgAppend
import Derived.Laws.IdiomCopy
import Derived.OrdersHeld
import Derived.Laws.BitsLemmas
import Derived.RowKit
import Derived.Test.YtngpoonjonojhaaDoorWWords
import Derived.Test.YtngpoonjonojhaaDoorWLast
import Derived.Outline
import Derived.Test.YtngpoonjonojhaaDoorE01
set_option linter.all false
namespace Go.Proofs.YtngpoonjonojhaaDoor
open Go.RowKit Go.Proofs.YtngpoonjonojhaaDoorW.PrintWords Go.Proofs.YtngpoonjonojhaaDoorW.PrintLast
set_option linter.unusedVariables false
theorem at_L2 {w : World} {A : Option Addr} {n : Nat} {xs : List (List Int)} (h : Kd.C (Kd.slice 3 (Kd.int .i64)) w A n xs) (i : Int) (h0 : 0 ≤ i) (h1 : i < n) : ∃ ad A0 c0, A = some ad ∧ w.cell? (ad.add i.toNat) = some (.slice A0 (rd_L2 xs i).length c0) ∧ (rd_L2 xs i).length ≤ c0 ∧ (Kd.int .i64).C w A0 (rd_L2 xs i).length (rd_L2 xs i) := by
  obtain ⟨ad, c, e, _, hK, hc0⟩ := Kd.C_get h ([] : List Int) i h0 h1
  have hc : ∀ j u, c[j]? = some u → w.cell? (ad.add (i.toNat * 1 + j)) = some u := hc0
  obtain ⟨A0, c0, rfl, l0, g0⟩ := hK
  exact ⟨ad, A0, c0, e, by have hq := hc 0 _ rfl; rwa [Nat.mul_one, Nat.add_zero] at hq, l0, g0⟩

theorem at_L3 {w : World} {A : Option Addr} {n : Nat} {xs : List (List (List Int))} (h : Kd.C (Kd.slice 25 (Kd.slice 3 (Kd.int .i64))) w A n xs) (i : Int) (h0 : 0 ≤ i) (h1 : i < n) : ∃ ad A0 c0, A = some ad ∧ w.cell? (ad.add i.toNat) = some (.slice A0 (rd_L3 xs i).length c0) ∧ (rd_L3 xs i).length ≤ c0 ∧ (Kd.slice 3 (Kd.int .i64)).C w A0 (rd_L3 xs i).length (rd_L3 xs i) := by
  obtain ⟨ad, c, e, _, hK, hc0⟩ := Kd.C_get h ([] : List (List Int)) i h0 h1
  have hc : ∀ j u, c[j]? = some u → w.cell? (ad.add (i.toNat * 1 + j)) = some u := hc0
  obtain ⟨A0, c0, rfl, l0, g0⟩ := hK
  exact ⟨ad, A0, c0, e, by have hq := hc 0 _ rfl; rwa [Nat.mul_one, Nat.add_zero] at hq, l0, g0⟩

/-! #### Sp -/
def kSp : Kd Sp := Kd.iso (Kd.pair (Kd.int .i64) (Kd.int .i64)) (fun x : Sp => (x.a, x.b))
theorem kSp_open {w : World} {x : Sp} {cs : List Value} (h : kSp.K w x cs) : cs = [.int .i64 x.a, .int .i64 x.b] := by
  obtain ⟨_, _, rfl, rfl, rfl⟩ := h
  exact rfl
theorem kSp_openM {w : World} {base : Nat} {ok : Nat → Prop} {x : Sp} {cs : List Value} (h : kSp.M w base ok x cs) : cs = [.int .i64 x.a, .int .i64 x.b] := by
  obtain ⟨_, _, rfl, rfl, rfl⟩ := h
  exact rfl
theorem kSp_mk (w : World) (x : Sp)  : kSp.K w x [.int .i64 x.a, .int .i64 x.b] := ⟨[.int .i64 x.a], [.int .i64 x.b], rfl, rfl, rfl⟩
theorem kSp_mkM (w : World) (base : Nat) (ok : Nat → Prop) (x : Sp)  : kSp.M w base ok x [.int .i64 x.a, .int .i64 x.b] := ⟨[.int .i64 x.a], [.int .i64 x.b], rfl, rfl, rfl⟩
theorem at_Sp {w : World} {A : Option Addr} {n : Nat} {xs : List Sp} (h : Kd.C kSp w A n xs) (i : Int) (h0 : 0 ≤ i) (h1 : i < n) : ∃ ad , A = some ad ∧ w.cell? (ad.add (i.toNat * 2)) = some (.int .i64 (rd_Sp xs i).a) ∧ w.cell? ⟨(ad.add (i.toNat * 2)).block, (ad.add (i.toNat * 2)).off + 1, none⟩ = some (.int .i64 (rd_Sp xs i).b) := by
  obtain ⟨ad, c, e, _, hK, hc0⟩ := Kd.C_get h zSp i h0 h1
  have hc : ∀ j u, c[j]? = some u → w.cell? (ad.add (i.toNat * 2 + j)) = some u := hc0
  obtain rfl := kSp_open hK
  exact ⟨ad, e, hc 0 _ rfl, by rw [← add_field _ _ 1 (by omega)]; exact hc 1 _ rfl⟩

theorem at_L5 {w : World} {A : Option Addr} {n : Nat} {xs : List (List Sp)} (h : Kd.C (Kd.slice 33 kSp) w A n xs) (i : Int) (h0 : 0 ≤ i) (h1 : i < n) : ∃ ad A0 c0, A = some ad ∧ w.cell? (ad.add i.toNat) = some (.slice A0 (rd_L5 xs i).length c0) ∧ (rd_L5 xs i).length ≤ c0 ∧ kSp.C w A0 (rd_L5 xs i).length (rd_L5 xs i) := by
  obtain ⟨ad, c, e, _, hK, hc0⟩ := Kd.C_get h ([] : List Sp) i h0 h1
  have hc : ∀ j u, c[j]? = some u → w.cell? (ad.add (i.toNat * 1 + j)) = some u := hc0
  obtain ⟨A0, c0, rfl, l0, g0⟩ := hK
  exact ⟨ad, A0, c0, e, by have hq := hc 0 _ rfl; rwa [Nat.mul_one, Nat.add_zero] at hq, l0, g0⟩

/-! #### Rect -/
def kRect : Kd Rect := Kd.iso (Kd.pair kSp kSp) (fun x : Rect => (x.x, x.y))
theorem kRect_open {w : World} {x : Rect} {cs : List Value} (h : kRect.K w x cs) : cs = [.int .i64 x.x.a, .int .i64 x.x.b, .int .i64 x.y.a, .int .i64 x.y.b] := by
  obtain ⟨_, _, rfl, s0, s2⟩ := h
  obtain rfl := kSp_open s0
  obtain rfl := kSp_open s2
  exact rfl
theorem kRect_openM {w : World} {base : Nat} {ok : Nat → Prop} {x : Rect} {cs : List Value} (h : kRect.M w base ok x cs) : cs = [.int .i64 x.x.a, .int .i64 x.x.b, .int .i64 x.y.a, .int .i64 x.y.b] := by
  obtain ⟨_, _, rfl, s0, s2⟩ := h
  obtain rfl := kSp_openM s0
  obtain rfl := kSp_openM s2
  exact rfl
theorem kRect_mk (w : World) (x : Rect)  : kRect.K w x [.int .i64 x.x.a, .int .i64 x.x.b, .int .i64 x.y.a, .int .i64 x.y.b] := ⟨[.int .i64 x.x.a, .int .i64 x.x.b], [.int .i64 x.y.a, .int .i64 x.y.b], rfl, (kSp_mk w x.x ), (kSp_mk w x.y )⟩
theorem kRect_mkM (w : World) (base : Nat) (ok : Nat → Prop) (x : Rect)  : kRect.M w base ok x [.int .i64 x.x.a, .int .i64 x.x.b, .int .i64 x.y.a, .int .i64 x.y.b] := ⟨[.int .i64 x.x.a, .int .i64 x.x.b], [.int .i64 x.y.a, .int .i64 x.y.b], rfl, (kSp_mkM w base ok x.x ), (kSp_mkM w base ok x.y )⟩
theorem at_Rect {w : World} {A : Option Addr} {n : Nat} {xs : List Rect} (h : Kd.C kRect w A n xs) (i : Int) (h0 : 0 ≤ i) (h1 : i < n) : ∃ ad , A = some ad ∧ w.cell? (ad.add (i.toNat * 4)) = some (.int .i64 (rd_Rect xs i).x.a) ∧ w.cell? ⟨(ad.add (i.toNat * 4)).block, (ad.add (i.toNat * 4)).off + 1, none⟩ = some (.int .i64 (rd_Rect xs i).x.b) ∧ w.cell? ⟨(ad.add (i.toNat * 4)).block, (ad.add (i.toNat * 4)).off + 2, none⟩ = some (.int .i64 (rd_Rect xs i).y.a) ∧ w.cell? ⟨(ad.add (i.toNat * 4)).block, (ad.add (i.toNat * 4)).off + 3, none⟩ = some (.int .i64 (rd_Rect xs i).y.b) := by
  obtain ⟨ad, c, e, _, hK, hc0⟩ := Kd.C_get h zRect i h0 h1
  have hc : ∀ j u, c[j]? = some u → w.cell? (ad.add (i.toNat * 4 + j)) = some u := hc0
  obtain rfl := kRect_open hK
  exact ⟨ad, e, hc 0 _ rfl, by rw [← add_field _ _ 1 (by omega)]; exact hc 1 _ rfl, by rw [← add_field _ _ 2 (by omega)]; exact hc 2 _ rfl, by rw [← add_field _ _ 3 (by omega)]; exact hc 3 _ rfl⟩

/-! #### Box -/
def kBox : Kd Box := Kd.iso (Kd.pair kSp (Kd.pair kSp kSp)) (fun x : Box => (x.x, x.y, x.z))
theorem kBox_open {w : World} {x : Box} {cs : List Value} (h : kBox.K w x cs) : cs = [.int .i64 x.x.a, .int .i64 x.x.b, .int .i64 x.y.a, .int .i64 x.y.b, .int .i64 x.z.a, .int .i64 x.z.b] := by
  obtain ⟨_, _, rfl, s0, ⟨_, _, rfl, s2, s4⟩⟩ := h
  obtain rfl := kSp_open s0
  obtain rfl := kSp_open s2
  obtain rfl := kSp_open s4
  exact rfl
theorem kBox_openM {w : World} {base : Nat} {ok : Nat → Prop} {x : Box} {cs : List Value} (h : kBox.M w base ok x cs) : cs = [.int .i64 x.x.a, .int .i64 x.x.b, .int .i64 x.y.a, .int .i64 x.y.b, .int .i64 x.z.a, .int .i64 x.z.b] := by
  obtain ⟨_, _, rfl, s0, ⟨_, _, rfl, s2, s4⟩⟩ := h
  obtain rfl := kSp_openM s0
  obtain rfl := kSp_openM s2
  obtain rfl := kSp_openM s4
  exact rfl
theorem kBox_mk (w : World) (x : Box)  : kBox.K w x [.int .i64 x.x.a, .int .i64 x.x.b, .int .i64 x.y.a, .int .i64 x.y.b, .int .i64 x.z.a, .int .i64 x.z.b] := ⟨[.int .i64 x.x.a, .int .i64 x.x.b], [.int .i64 x.y.a, .int .i64 x.y.b, .int .i64 x.z.a, .int .i64 x.z.b], rfl, (kSp_mk w x.x ), ⟨[.int .i64 x.y.a, .int .i64 x.y.b], [.int .i64 x.z.a, .int .i64 x.z.b], rfl, (kSp_mk w x.y ), (kSp_mk w x.z )⟩⟩
theorem kBox_mkM (w : World) (base : Nat) (ok : Nat → Prop) (x : Box)  : kBox.M w base ok x [.int .i64 x.x.a, .int .i64 x.x.b, .int .i64 x.y.a, .int .i64 x.y.b, .int .i64 x.z.a, .int .i64 x.z.b] := ⟨[.int .i64 x.x.a, .int .i64 x.x.b], [.int .i64 x.y.a, .int .i64 x.y.b, .int .i64 x.z.a, .int .i64 x.z.b], rfl, (kSp_mkM w base ok x.x ), ⟨[.int .i64 x.y.a, .int .i64 x.y.b], [.int .i64 x.z.a, .int .i64 x.z.b], rfl, (kSp_mkM w base ok x.y ), (kSp_mkM w base ok x.z )⟩⟩
theorem at_Box {w : World} {A : Option Addr} {n : Nat} {xs : List Box} (h : Kd.C kBox w A n xs) (i : Int) (h0 : 0 ≤ i) (h1 : i < n) : ∃ ad , A = some ad ∧ w.cell? (ad.add (i.toNat * 6)) = some (.int .i64 (rd_Box xs i).x.a) ∧ w.cell? ⟨(ad.add (i.toNat * 6)).block, (ad.add (i.toNat * 6)).off + 1, none⟩ = some (.int .i64 (rd_Box xs i).x.b) ∧ w.cell? ⟨(ad.add (i.toNat * 6)).block, (ad.add (i.toNat * 6)).off + 2, none⟩ = some (.int .i64 (rd_Box xs i).y.a) ∧ w.cell? ⟨(ad.add (i.toNat * 6)).block, (ad.add (i.toNat * 6)).off + 3, none⟩ = some (.int .i64 (rd_Box xs i).y.b) ∧ w.cell? ⟨(ad.add (i.toNat * 6)).block, (ad.add (i.toNat * 6)).off + 4, none⟩ = some (.int .i64 (rd_Box xs i).z.a) ∧ w.cell? ⟨(ad.add (i.toNat * 6)).block, (ad.add (i.toNat * 6)).off + 5, none⟩ = some (.int .i64 (rd_Box xs i).z.b) := by
  obtain ⟨ad, c, e, _, hK, hc0⟩ := Kd.C_get h zBox i h0 h1
  have hc : ∀ j u, c[j]? = some u → w.cell? (ad.add (i.toNat * 6 + j)) = some u := hc0
  obtain rfl := kBox_open hK
  exact ⟨ad, e, hc 0 _ rfl, by rw [← add_field _ _ 1 (by omega)]; exact hc 1 _ rfl, by rw [← add_field _ _ 2 (by omega)]; exact hc 2 _ rfl, by rw [← add_field _ _ 3 (by omega)]; exact hc 3 _ rfl, by rw [← add_field _ _ 4 (by omega)]; exact hc 4 _ rfl, by rw [← add_field _ _ 5 (by omega)]; exact hc 5 _ rfl⟩

/-! #### Sec -/
def kSec : Kd Sec := Kd.iso (Kd.pair (Kd.int .i64) (Kd.slice 33 kSp)) (fun x : Sec => (x.low, x.rows))
theorem kSec_open {w : World} {x : Sec} {cs : List Value} (h : kSec.K w x cs) : ∃ A1 c1, cs = [.int .i64 x.low, .slice A1 x.rows.length c1] ∧ x.rows.length ≤ c1 ∧ kSp.C w A1 x.rows.length x.rows := by
  obtain ⟨_, _, rfl, rfl, ⟨A1, c1, rfl, l1, g1⟩⟩ := h
  exact ⟨A1, c1, rfl, l1, g1⟩
theorem kSec_openM {w : World} {base : Nat} {ok : Nat → Prop} {x : Sec} {cs : List Value} (h : kSec.M w base ok x cs) : ∃ v1, cs = [.int .i64 x.low, v1] ∧ kSp.R 33 w base ok v1 x.rows := by
  obtain ⟨_, _, rfl, rfl, ⟨v1, rfl, g1⟩⟩ := h
  exact ⟨v1, rfl, g1⟩
theorem kSec_mk (w : World) (x : Sec) {A1 : Option Addr} {c1 : Nat} (l1 : x.rows.length ≤ c1) (g1 : kSp.C w A1 x.rows.length x.rows) : kSec.K w x [.int .i64 x.low, .slice A1 x.rows.length c1] := ⟨[.int .i64 x.low], [.slice A1 x.rows.length c1], rfl, rfl, ⟨A1, c1, rfl, l1, g1⟩⟩
theorem kSec_mkM (w : World) (base : Nat) (ok : Nat → Prop) (x : Sec) {v1 : Value} (g1 : kSp.R 33 w base ok v1 x.rows) : kSec.M w base ok x [.int .i64 x.low, v1] := ⟨[.int .i64 x.low], [v1], rfl, rfl, ⟨v1, rfl, g1⟩⟩
theorem at_Sec {w : World} {A : Option Addr} {n : Nat} {xs : List Sec} (h : Kd.C kSec w A n xs) (i : Int) (h0 : 0 ≤ i) (h1 : i < n) : ∃ ad A1 c1, A = some ad ∧ w.cell? (ad.add (i.toNat * 2)) = some (.int .i64 (rd_Sec xs i).low) ∧ w.cell? ⟨(ad.add (i.toNat * 2)).block, (ad.add (i.toNat * 2)).off + 1, none⟩ = some (.slice A1 (rd_Sec xs i).rows.length c1) ∧ (rd_Sec xs i).rows.length ≤ c1 ∧ kSp.C w A1 (rd_Sec xs i).rows.length (rd_Sec xs i).rows := by
  obtain ⟨ad, c, e, _, hK, hc0⟩ := Kd.C_get h zSec i h0 h1
  have hc : ∀ j u, c[j]? = some u → w.cell? (ad.add (i.toNat * 2 + j)) = some u := hc0
  obtain ⟨A1, c1, rfl, l1, g1⟩ := kSec_open hK
  exact ⟨ad, A1, c1, e, hc 0 _ rfl, by rw [← add_field _ _ 1 (by omega)]; exact hc 1 _ rfl, l1, g1⟩

/-! #### Slc -/
def kSlc : Kd Slc := Kd.iso (Kd.pair (Kd.int .i64) kSec) (fun x : Slc => (x.len, x.sec))
theorem kSlc_open {w : World} {x : Slc} {cs : List Value} (h : kSlc.K w x cs) : ∃ A2 c2, cs = [.int .i64 x.len, .int .i64 x.sec.low, .slice A2 x.sec.rows.length c2] ∧ x.sec.rows.length ≤ c2 ∧ kSp.C w A2 x.sec.rows.length x.sec.rows := by
  obtain ⟨_, _, rfl, rfl, s1⟩ := h
  obtain ⟨A2, c2, rfl, l2, g2⟩ := kSec_open s1
  exact ⟨A2, c2, rfl, l2, g2⟩
theorem kSlc_openM {w : World} {base : Nat} {ok : Nat → Prop} {x : Slc} {cs : List Value} (h : kSlc.M w base ok x cs) : ∃ v2, cs = [.int .i64 x.len, .int .i64 x.sec.low, v2] ∧ kSp.R 33 w base ok v2 x.sec.rows := by
  obtain ⟨_, _, rfl, rfl, s1⟩ := h
  obtain ⟨v2, rfl, g2⟩ := kSec_openM s1
  exact ⟨v2, rfl, g2⟩
theorem kSlc_mk (w : World) (x : Slc) {A2 : Option Addr} {c2 : Nat} (l2 : x.sec.rows.length ≤ c2) (g2 : kSp.C w A2 x.sec.rows.length x.sec.rows) : kSlc.K w x [.int .i64 x.len, .int .i64 x.sec.low, .slice A2 x.sec.rows.length c2] := ⟨[.int .i64 x.len], [.int .i64 x.sec.low, .slice A2 x.sec.rows.length c2], rfl, rfl, (kSec_mk w x.sec l2 g2)⟩
theorem kSlc_mkM (w : World) (base : Nat) (ok : Nat → Prop) (x : Slc) {v2 : Value} (g2 : kSp.R 33 w base ok v2 x.sec.rows) : kSlc.M w base ok x [.int .i64 x.len, .int .i64 x.sec.low, v2] := ⟨[.int .i64 x.len], [.int .i64 x.sec.low, v2], rfl, rfl, (kSec_mkM w base ok x.sec g2)⟩
theorem at_Slc {w : World} {A : Option Addr} {n : Nat} {xs : List Slc} (h : Kd.C kSlc w A n xs) (i : Int) (h0 : 0 ≤ i) (h1 : i < n) : ∃ ad A2 c2, A = some ad ∧ w.cell? (ad.add (i.toNat * 3)) = some (.int .i64 (rd_Slc xs i).len) ∧ w.cell? ⟨(ad.add (i.toNat * 3)).block, (ad.add (i.toNat * 3)).off + 1, none⟩ = some (.int .i64 (rd_Slc xs i).sec.low) ∧ w.cell? ⟨(ad.add (i.toNat * 3)).block, (ad.add (i.toNat * 3)).off + 2, none⟩ = some (.slice A2 (rd_Slc xs i).sec.rows.length c2) ∧ (rd_Slc xs i).sec.rows.length ≤ c2 ∧ kSp.C w A2 (rd_Slc xs i).sec.rows.length (rd_Slc xs i).sec.rows := by
  obtain ⟨ad, c, e, _, hK, hc0⟩ := Kd.C_get h zSlc i h0 h1
  have hc : ∀ j u, c[j]? = some u → w.cell? (ad.add (i.toNat * 3 + j)) = some u := hc0
  obtain ⟨A2, c2, rfl, l2, g2⟩ := kSlc_open hK
  exact ⟨ad, A2, c2, e, hc 0 _ rfl, by rw [← add_field _ _ 1 (by omega)]; exact hc 1 _ rfl, by rw [← add_field _ _ 2 (by omega)]; exact hc 2 _ rfl, l2, g2⟩

theorem at_L10 {w : World} {A : Option Addr} {n : Nat} {xs : List (List Slc)} (h : Kd.C (Kd.slice 54 kSlc) w A n xs) (i : Int) (h0 : 0 ≤ i) (h1 : i < n) : ∃ ad A0 c0, A = some ad ∧ w.cell? (ad.add i.toNat) = some (.slice A0 (rd_L10 xs i).length c0) ∧ (rd_L10 xs i).length ≤ c0 ∧ kSlc.C w A0 (rd_L10 xs i).length (rd_L10 xs i) := by
  obtain ⟨ad, c, e, _, hK, hc0⟩ := Kd.C_get h ([] : List Slc) i h0 h1
  have hc : ∀ j u, c[j]? = some u → w.cell? (ad.add (i.toNat * 1 + j)) = some u := hc0
  obtain ⟨A0, c0, rfl, l0, g0⟩ := hK
  exact ⟨ad, A0, c0, e, by have hq := hc 0 _ rfl; rwa [Nat.mul_one, Nat.add_zero] at hq, l0, g0⟩

/-! #### Dft -/
def kDft : Kd Dft := Kd.iso (Kd.pair (Kd.int .i64) kBox) (fun x : Dft => (x.kind, x.box))
theorem kDft_open {w : World} {x : Dft} {cs : List Value} (h : kDft.K w x cs) : cs = [.int .i64 x.kind, .int .i64 x.box.x.a, .int .i64 x.box.x.b, .int .i64 x.box.y.a, .int .i64 x.box.y.b, .int .i64 x.box.z.a, .int .i64 x.box.z.b] := by
  obtain ⟨_, _, rfl, rfl, s1⟩ := h
  obtain rfl := kBox_open s1
  exact rfl
theorem kDft_openM {w : World} {base : Nat} {ok : Nat → Prop} {x : Dft} {cs : List Value} (h : kDft.M w base ok x cs) : cs = [.int .i64 x.kind, .int .i64 x.box.x.a, .int .i64 x.box.x.b, .int .i64 x.box.y.a, .int .i64 x.box.y.b, .int .i64 x.box.z.a, .int .i64 x.box.z.b] := by
  obtain ⟨_, _, rfl, rfl, s1⟩ := h
  obtain rfl := kBox_openM s1
  exact rfl
theorem kDft_mk (w : World) (x : Dft)  : kDft.K w x [.int .i64 x.kind, .int .i64 x.box.x.a, .int .i64 x.box.x.b, .int .i64 x.box.y.a, .int .i64 x.box.y.b, .int .i64 x.box.z.a, .int .i64 x.box.z.b] := ⟨[.int .i64 x.kind], [.int .i64 x.box.x.a, .int .i64 x.box.x.b, .int .i64 x.box.y.a, .int .i64 x.box.y.b, .int .i64 x.box.z.a, .int .i64 x.box.z.b], rfl, rfl, (kBox_mk w x.box )⟩
theorem kDft_mkM (w : World) (base : Nat) (ok : Nat → Prop) (x : Dft)  : kDft.M w base ok x [.int .i64 x.kind, .int .i64 x.box.x.a, .int .i64 x.box.x.b, .int .i64 x.box.y.a, .int .i64 x.box.y.b, .int .i64 x.box.z.a, .int .i64 x.box.z.b] := ⟨[.int .i64 x.kind], [.int .i64 x.box.x.a, .int .i64 x.box.x.b, .int .i64 x.box.y.a, .int .i64 x.box.y.b, .int .i64 x.box.z.a, .int .i64 x.box.z.b], rfl, rfl, (kBox_mkM w base ok x.box )⟩
theorem at_Dft {w : World} {A : Option Addr} {n : Nat} {xs : List Dft} (h : Kd.C kDft w A n xs) (i : Int) (h0 : 0 ≤ i) (h1 : i < n) : ∃ ad , A = some ad ∧ w.cell? (ad.add (i.toNat * 7)) = some (.int .i64 (rd_Dft xs i).kind) ∧ w.cell? ⟨(ad.add (i.toNat * 7)).block, (ad.add (i.toNat * 7)).off + 1, none⟩ = some (.int .i64 (rd_Dft xs i).box.x.a) ∧ w.cell? ⟨(ad.add (i.toNat * 7)).block, (ad.add (i.toNat * 7)).off + 2, none⟩ = some (.int .i64 (rd_Dft xs i).box.x.b) ∧ w.cell? ⟨(ad.add (i.toNat * 7)).block, (ad.add (i.toNat * 7)).off + 3, none⟩ = some (.int .i64 (rd_Dft xs i).box.y.a) ∧ w.cell? ⟨(ad.add (i.toNat * 7)).block, (ad.add (i.toNat * 7)).off + 4, none⟩ = some (.int .i64 (rd_Dft xs i).box.y.b) ∧ w.cell? ⟨(ad.add (i.toNat * 7)).block, (ad.add (i.toNat * 7)).off + 5, none⟩ = some (.int .i64 (rd_Dft xs i).box.z.a) ∧ w.cell? ⟨(ad.add (i.toNat * 7)).block, (ad.add (i.toNat * 7)).off + 6, none⟩ = some (.int .i64 (rd_Dft xs i).box.z.b) := by
  obtain ⟨ad, c, e, _, hK, hc0⟩ := Kd.C_get h zDft i h0 h1
  have hc : ∀ j u, c[j]? = some u → w.cell? (ad.add (i.toNat * 7 + j)) = some u := hc0
  obtain rfl := kDft_open hK
  exact ⟨ad, e, hc 0 _ rfl, by rw [← add_field _ _ 1 (by omega)]; exact hc 1 _ rfl, by rw [← add_field _ _ 2 (by omega)]; exact hc 2 _ rfl, by rw [← add_field _ _ 3 (by omega)]; exact hc 3 _ rfl, by rw [← add_field _ _ 4 (by omega)]; exact hc 4 _ rfl, by rw [← add_field _ _ 5 (by omega)]; exact hc 5 _ rfl, by rw [← add_field _ _ 6 (by omega)]; exact hc 6 _ rfl⟩

theorem at_L12 {w : World} {A : Option Addr} {n : Nat} {xs : List (List Dft)} (h : Kd.C (Kd.slice 59 kDft) w A n xs) (i : Int) (h0 : 0 ≤ i) (h1 : i < n) : ∃ ad A0 c0, A = some ad ∧ w.cell? (ad.add i.toNat) = some (.slice A0 (rd_L12 xs i).length c0) ∧ (rd_L12 xs i).length ≤ c0 ∧ kDft.C w A0 (rd_L12 xs i).length (rd_L12 xs i) := by
  obtain ⟨ad, c, e, _, hK, hc0⟩ := Kd.C_get h ([] : List Dft) i h0 h1
  have hc : ∀ j u, c[j]? = some u → w.cell? (ad.add (i.toNat * 1 + j)) = some u := hc0
  obtain ⟨A0, c0, rfl, l0, g0⟩ := hK
  exact ⟨ad, A0, c0, e, by have hq := hc 0 _ rfl; rwa [Nat.mul_one, Nat.add_zero] at hq, l0, g0⟩

/-! #### Prod -/
def kProd : Kd Prod := Kd.iso (Kd.pair Kd.string (Kd.pair (Kd.int .i64) (Kd.pair (Kd.int .i64) (Kd.pair (Kd.int .i64) (Kd.pair (Kd.int .i64) (Kd.pair (Kd.slice 3 (Kd.int .i64)) (Kd.slice 3 (Kd.int .i64)))))))) (fun x : Prod => (x.name, x.thick, x.width, x.allow, x.wane, x.lengths, x.prices))
theorem kProd_open {w : World} {x : Prod} {cs : List Value} (h : kProd.K w x cs) : ∃ A5 c5 A6 c6, cs = [.string x.name, .int .i64 x.thick, .int .i64 x.width, .int .i64 x.allow, .int .i64 x.wane, .slice A5 x.lengths.length c5, .slice A6 x.prices.length c6] ∧ x.lengths.length ≤ c5 ∧ (Kd.int .i64).C w A5 x.lengths.length x.lengths ∧ x.prices.length ≤ c6 ∧ (Kd.int .i64).C w A6 x.prices.length x.prices := by
  obtain ⟨_, _, rfl, rfl, ⟨_, _, rfl, rfl, ⟨_, _, rfl, rfl, ⟨_, _, rfl, rfl, ⟨_, _, rfl, rfl, ⟨_, _, rfl, ⟨A5, c5, rfl, l5, g5⟩, ⟨A6, c6, rfl, l6, g6⟩⟩⟩⟩⟩⟩⟩ := h
  exact ⟨A5, c5, A6, c6, rfl, l5, g5, l6, g6⟩
theorem kProd_openM {w : World} {base : Nat} {ok : Nat → Prop} {x : Prod} {cs : List Value} (h : kProd.M w base ok x cs) : ∃ v5 v6, cs = [.string x.name, .int .i64 x.thick, .int .i64 x.width, .int .i64 x.allow, .int .i64 x.wane, v5, v6] ∧ (Kd.int .i64).R 3 w base ok v5 x.lengths ∧ (Kd.int .i64).R 3 w base ok v6 x.prices := by
  obtain ⟨_, _, rfl, rfl, ⟨_, _, rfl, rfl, ⟨_, _, rfl, rfl, ⟨_, _, rfl, rfl, ⟨_, _, rfl, rfl, ⟨_, _, rfl, ⟨v5, rfl, g5⟩, ⟨v6, rfl, g6⟩⟩⟩⟩⟩⟩⟩ := h
  exact ⟨v5, v6, rfl, g5, g6⟩
theorem kProd_mk (w : World) (x : Prod) {A5 : Option Addr} {c5 : Nat} (l5 : x.lengths.length ≤ c5) (g5 : (Kd.int .i64).C w A5 x.lengths.length x.lengths) {A6 : Option Addr} {c6 : Nat} (l6 : x.prices.length ≤ c6) (g6 : (Kd.int .i64).C w A6 x.prices.length x.prices) : kProd.K w x [.string x.name, .int .i64 x.thick, .int .i64 x.width, .int .i64 x.allow, .int .i64 x.wane, .slice A5 x.lengths.length c5, .slice A6 x.prices.length c6] := ⟨[.string x.name], [.int .i64 x.thick, .int .i64 x.width, .int .i64 x.allow, .int .i64 x.wane, .slice A5 x.lengths.length c5, .slice A6 x.prices.length c6], rfl, rfl, ⟨[.int .i64 x.thick], [.int .i64 x.width, .int .i64 x.allow, .int .i64 x.wane, .slice A5 x.lengths.length c5, .slice A6 x.prices.length c6], rfl, rfl, ⟨[.int .i64 x.width], [.int .i64 x.allow, .int .i64 x.wane, .slice A5 x.lengths.length c5, .slice A6 x.prices.length c6], rfl, rfl, ⟨[.int .i64 x.allow], [.int .i64 x.wane, .slice A5 x.lengths.length c5, .slice A6 x.prices.length c6], rfl, rfl, ⟨[.int .i64 x.wane], [.slice A5 x.lengths.length c5, .slice A6 x.prices.length c6], rfl, rfl, ⟨[.slice A5 x.lengths.length c5], [.slice A6 x.prices.length c6], rfl, ⟨A5, c5, rfl, l5, g5⟩, ⟨A6, c6, rfl, l6, g6⟩⟩⟩⟩⟩⟩⟩
theorem kProd_mkM (w : World) (base : Nat) (ok : Nat → Prop) (x : Prod) {v5 : Value} (g5 : (Kd.int .i64).R 3 w base ok v5 x.lengths) {v6 : Value} (g6 : (Kd.int .i64).R 3 w base ok v6 x.prices) : kProd.M w base ok x [.string x.name, .int .i64 x.thick, .int .i64 x.width, .int .i64 x.allow, .int .i64 x.wane, v5, v6] := ⟨[.string x.name], [.int .i64 x.thick, .int .i64 x.width, .int .i64 x.allow, .int .i64 x.wane, v5, v6], rfl, rfl, ⟨[.int .i64 x.thick], [.int .i64 x.width, .int .i64 x.allow, .int .i64 x.wane, v5, v6], rfl, rfl, ⟨[.int .i64 x.width], [.int .i64 x.allow, .int .i64 x.wane, v5, v6], rfl, rfl, ⟨[.int .i64 x.allow], [.int .i64 x.wane, v5, v6], rfl, rfl, ⟨[.int .i64 x.wane], [v5, v6], rfl, rfl, ⟨[v5], [v6], rfl, ⟨v5, rfl, g5⟩, ⟨v6, rfl, g6⟩⟩⟩⟩⟩⟩⟩
theorem at_Prod {w : World} {A : Option Addr} {n : Nat} {xs : List Prod} (h : Kd.C kProd w A n xs) (i : Int) (h0 : 0 ≤ i) (h1 : i < n) : ∃ ad A5 c5 A6 c6, A = some ad ∧ w.cell? (ad.add (i.toNat * 7)) = some (.string (rd_Prod xs i).name) ∧ w.cell? ⟨(ad.add (i.toNat * 7)).block, (ad.add (i.toNat * 7)).off + 1, none⟩ = some (.int .i64 (rd_Prod xs i).thick) ∧ w.cell? ⟨(ad.add (i.toNat * 7)).block, (ad.add (i.toNat * 7)).off + 2, none⟩ = some (.int .i64 (rd_Prod xs i).width) ∧ w.cell? ⟨(ad.add (i.toNat * 7)).block, (ad.add (i.toNat * 7)).off + 3, none⟩ = some (.int .i64 (rd_Prod xs i).allow) ∧ w.cell? ⟨(ad.add (i.toNat * 7)).block, (ad.add (i.toNat * 7)).off + 4, none⟩ = some (.int .i64 (rd_Prod xs i).wane) ∧ w.cell? ⟨(ad.add (i.toNat * 7)).block, (ad.add (i.toNat * 7)).off + 5, none⟩ = some (.slice A5 (rd_Prod xs i).lengths.length c5) ∧ w.cell? ⟨(ad.add (i.toNat * 7)).block, (ad.add (i.toNat * 7)).off + 6, none⟩ = some (.slice A6 (rd_Prod xs i).prices.length c6) ∧ (rd_Prod xs i).lengths.length ≤ c5 ∧ (Kd.int .i64).C w A5 (rd_Prod xs i).lengths.length (rd_Prod xs i).lengths ∧ (rd_Prod xs i).prices.length ≤ c6 ∧ (Kd.int .i64).C w A6 (rd_Prod xs i).prices.length (rd_Prod xs i).prices := by
  obtain ⟨ad, c, e, _, hK, hc0⟩ := Kd.C_get h zProd i h0 h1
  have hc : ∀ j u, c[j]? = some u → w.cell? (ad.add (i.toNat * 7 + j)) = some u := hc0
  obtain ⟨A5, c5, A6, c6, rfl, l5, g5, l6, g6⟩ := kProd_open hK
  exact ⟨ad, A5, c5, A6, c6, e, hc 0 _ rfl, by rw [← add_field _ _ 1 (by omega)]; exact hc 1 _ rfl, by rw [← add_field _ _ 2 (by omega)]; exact hc 2 _ rfl, by rw [← add_field _ _ 3 (by omega)]; exact hc 3 _ rfl, by rw [← add_field _ _ 4 (by omega)]; exact hc 4 _ rfl, by rw [← add_field _ _ 5 (by omega)]; exact hc 5 _ rfl, by rw [← add_field _ _ 6 (by omega)]; exact hc 6 _ rfl, l5, g5, l6, g6⟩

theorem at_L14 {w : World} {A : Option Addr} {n : Nat} {xs : List (List Prod)} (h : Kd.C (Kd.slice 43 kProd) w A n xs) (i : Int) (h0 : 0 ≤ i) (h1 : i < n) : ∃ ad A0 c0, A = some ad ∧ w.cell? (ad.add i.toNat) = some (.slice A0 (rd_L14 xs i).length c0) ∧ (rd_L14 xs i).length ≤ c0 ∧ kProd.C w A0 (rd_L14 xs i).length (rd_L14 xs i) := by
  obtain ⟨ad, c, e, _, hK, hc0⟩ := Kd.C_get h ([] : List Prod) i h0 h1
  have hc : ∀ j u, c[j]? = some u → w.cell? (ad.add (i.toNat * 1 + j)) = some u := hc0
  obtain ⟨A0, c0, rfl, l0, g0⟩ := hK
  exact ⟨ad, A0, c0, e, by have hq := hc 0 _ rfl; rwa [Nat.mul_one, Nat.add_zero] at hq, l0, g0⟩

/-! #### Prt -/
def kPrt : Kd Prt := Kd.iso (Kd.pair kSp kSec) (fun x : Prt => (x.z, x.sec))
theorem kPrt_open {w : World} {x : Prt} {cs : List Value} (h : kPrt.K w x cs) : ∃ A3 c3, cs = [.int .i64 x.z.a, .int .i64 x.z.b, .int .i64 x.sec.low, .slice A3 x.sec.rows.length c3] ∧ x.sec.rows.length ≤ c3 ∧ kSp.C w A3 x.sec.rows.length x.sec.rows := by
  obtain ⟨_, _, rfl, s0, s2⟩ := h
  obtain rfl := kSp_open s0
  obtain ⟨A3, c3, rfl, l3, g3⟩ := kSec_open s2
  exact ⟨A3, c3, rfl, l3, g3⟩
theorem kPrt_openM {w : World} {base : Nat} {ok : Nat → Prop} {x : Prt} {cs : List Value} (h : kPrt.M w base ok x cs) : ∃ v3, cs = [.int .i64 x.z.a, .int .i64 x.z.b, .int .i64 x.sec.low, v3] ∧ kSp.R 33 w base ok v3 x.sec.rows := by
  obtain ⟨_, _, rfl, s0, s2⟩ := h
  obtain rfl := kSp_openM s0
  obtain ⟨v3, rfl, g3⟩ := kSec_openM s2
  exact ⟨v3, rfl, g3⟩
theorem kPrt_mk (w : World) (x : Prt) {A3 : Option Addr} {c3 : Nat} (l3 : x.sec.rows.length ≤ c3) (g3 : kSp.C w A3 x.sec.rows.length x.sec.rows) : kPrt.K w x [.int .i64 x.z.a, .int .i64 x.z.b, .int .i64 x.sec.low, .slice A3 x.sec.rows.length c3] := ⟨[.int .i64 x.z.a, .int .i64 x.z.b], [.int .i64 x.sec.low, .slice A3 x.sec.rows.length c3], rfl, (kSp_mk w x.z ), (kSec_mk w x.sec l3 g3)⟩
theorem kPrt_mkM (w : World) (base : Nat) (ok : Nat → Prop) (x : Prt) {v3 : Value} (g3 : kSp.R 33 w base ok v3 x.sec.rows) : kPrt.M w base ok x [.int .i64 x.z.a, .int .i64 x.z.b, .int .i64 x.sec.low, v3] := ⟨[.int .i64 x.z.a, .int .i64 x.z.b], [.int .i64 x.sec.low, v3], rfl, (kSp_mkM w base ok x.z ), (kSec_mkM w base ok x.sec g3)⟩
theorem at_Prt {w : World} {A : Option Addr} {n : Nat} {xs : List Prt} (h : Kd.C kPrt w A n xs) (i : Int) (h0 : 0 ≤ i) (h1 : i < n) : ∃ ad A3 c3, A = some ad ∧ w.cell? (ad.add (i.toNat * 4)) = some (.int .i64 (rd_Prt xs i).z.a) ∧ w.cell? ⟨(ad.add (i.toNat * 4)).block, (ad.add (i.toNat * 4)).off + 1, none⟩ = some (.int .i64 (rd_Prt xs i).z.b) ∧ w.cell? ⟨(ad.add (i.toNat * 4)).block, (ad.add (i.toNat * 4)).off + 2, none⟩ = some (.int .i64 (rd_Prt xs i).sec.low) ∧ w.cell? ⟨(ad.add (i.toNat * 4)).block, (ad.add (i.toNat * 4)).off + 3, none⟩ = some (.slice A3 (rd_Prt xs i).sec.rows.length c3) ∧ (rd_Prt xs i).sec.rows.length ≤ c3 ∧ kSp.C w A3 (rd_Prt xs i).sec.rows.length (rd_Prt xs i).sec.rows := by
  obtain ⟨ad, c, e, _, hK, hc0⟩ := Kd.C_get h zPrt i h0 h1
  have hc : ∀ j u, c[j]? = some u → w.cell? (ad.add (i.toNat * 4 + j)) = some u := hc0
  obtain ⟨A3, c3, rfl, l3, g3⟩ := kPrt_open hK
  exact ⟨ad, A3, c3, e, hc 0 _ rfl, by rw [← add_field _ _ 1 (by omega)]; exact hc 1 _ rfl, by rw [← add_field _ _ 2 (by omega)]; exact hc 2 _ rfl, by rw [← add_field _ _ 3 (by omega)]; exact hc 3 _ rfl, l3, g3⟩

theorem at_L16 {w : World} {A : Option Addr} {n : Nat} {xs : List (List Prt)} (h : Kd.C (Kd.slice 92 kPrt) w A n xs) (i : Int) (h0 : 0 ≤ i) (h1 : i < n) : ∃ ad A0 c0, A = some ad ∧ w.cell? (ad.add i.toNat) = some (.slice A0 (rd_L16 xs i).length c0) ∧ (rd_L16 xs i).length ≤ c0 ∧ kPrt.C w A0 (rd_L16 xs i).length (rd_L16 xs i) := by
  obtain ⟨ad, c, e, _, hK, hc0⟩ := Kd.C_get h ([] : List Prt) i h0 h1
  have hc : ∀ j u, c[j]? = some u → w.cell? (ad.add (i.toNat * 1 + j)) = some u := hc0
  obtain ⟨A0, c0, rfl, l0, g0⟩ := hK
  exact ⟨ad, A0, c0, e, by have hq := hc 0 _ rfl; rwa [Nat.mul_one, Nat.add_zero] at hq, l0, g0⟩

/-! #### Nd -/
def kNd : Kd Nd := Kd.iso (Kd.pair (Kd.int .i64) (Kd.int .i64)) (fun x : Nd => (x.kind, x.pos))
theorem kNd_open {w : World} {x : Nd} {cs : List Value} (h : kNd.K w x cs) : cs = [.int .i64 x.kind, .int .i64 x.pos] := by
  obtain ⟨_, _, rfl, rfl, rfl⟩ := h
  exact rfl
theorem kNd_openM {w : World} {base : Nat} {ok : Nat → Prop} {x : Nd} {cs : List Value} (h : kNd.M w base ok x cs) : cs = [.int .i64 x.kind, .int .i64 x.pos] := by
  obtain ⟨_, _, rfl, rfl, rfl⟩ := h
  exact rfl
theorem kNd_mk (w : World) (x : Nd)  : kNd.K w x [.int .i64 x.kind, .int .i64 x.pos] := ⟨[.int .i64 x.kind], [.int .i64 x.pos], rfl, rfl, rfl⟩
theorem kNd_mkM (w : World) (base : Nat) (ok : Nat → Prop) (x : Nd)  : kNd.M w base ok x [.int .i64 x.kind, .int .i64 x.pos] := ⟨[.int .i64 x.kind], [.int .i64 x.pos], rfl, rfl, rfl⟩
theorem at_Nd {w : World} {A : Option Addr} {n : Nat} {xs : List Nd} (h : Kd.C kNd w A n xs) (i : Int) (h0 : 0 ≤ i) (h1 : i < n) : ∃ ad , A = some ad ∧ w.cell? (ad.add (i.toNat * 2)) = some (.int .i64 (rd_Nd xs i).kind) ∧ w.cell? ⟨(ad.add (i.toNat * 2)).block, (ad.add (i.toNat * 2)).off + 1, none⟩ = some (.int .i64 (rd_Nd xs i).pos) := by
  obtain ⟨ad, c, e, _, hK, hc0⟩ := Kd.C_get h zNd i h0 h1
  have hc : ∀ j u, c[j]? = some u → w.cell? (ad.add (i.toNat * 2 + j)) = some u := hc0
  obtain rfl := kNd_open hK
  exact ⟨ad, e, hc 0 _ rfl, by rw [← add_field _ _ 1 (by omega)]; exact hc 1 _ rfl⟩

theorem at_L18 {w : World} {A : Option Addr} {n : Nat} {xs : List (List Nd)} (h : Kd.C (Kd.slice 80 kNd) w A n xs) (i : Int) (h0 : 0 ≤ i) (h1 : i < n) : ∃ ad A0 c0, A = some ad ∧ w.cell? (ad.add i.toNat) = some (.slice A0 (rd_L18 xs i).length c0) ∧ (rd_L18 xs i).length ≤ c0 ∧ kNd.C w A0 (rd_L18 xs i).length (rd_L18 xs i) := by
  obtain ⟨ad, c, e, _, hK, hc0⟩ := Kd.C_get h ([] : List Nd) i h0 h1
  have hc : ∀ j u, c[j]? = some u → w.cell? (ad.add (i.toNat * 1 + j)) = some u := hc0
  obtain ⟨A0, c0, rfl, l0, g0⟩ := hK
  exact ⟨ad, A0, c0, e, by have hq := hc 0 _ rfl; rwa [Nat.mul_one, Nat.add_zero] at hq, l0, g0⟩

theorem at_L19 {w : World} {A : Option Addr} {n : Nat} {xs : List (List (List Nd))} (h : Kd.C (Kd.slice 45 (Kd.slice 80 kNd)) w A n xs) (i : Int) (h0 : 0 ≤ i) (h1 : i < n) : ∃ ad A0 c0, A = some ad ∧ w.cell? (ad.add i.toNat) = some (.slice A0 (rd_L19 xs i).length c0) ∧ (rd_L19 xs i).length ≤ c0 ∧ (Kd.slice 80 kNd).C w A0 (rd_L19 xs i).length (rd_L19 xs i) := by
  obtain ⟨ad, c, e, _, hK, hc0⟩ := Kd.C_get h ([] : List (List Nd)) i h0 h1
  have hc : ∀ j u, c[j]? = some u → w.cell? (ad.add (i.toNat * 1 + j)) = some u := hc0
  obtain ⟨A0, c0, rfl, l0, g0⟩ := hK
  exact ⟨ad, A0, c0, e, by have hq := hc 0 _ rfl; rwa [Nat.mul_one, Nat.add_zero] at hq, l0, g0⟩

/-! #### Pc -/
def kPc : Kd Pc := Kd.iso (Kd.pair (Kd.int .i64) (Kd.int .i64)) (fun x : Pc => (x.size, x.pos))
theorem kPc_open {w : World} {x : Pc} {cs : List Value} (h : kPc.K w x cs) : cs = [.int .i64 x.size, .int .i64 x.pos] := by
  obtain ⟨_, _, rfl, rfl, rfl⟩ := h
  exact rfl
theorem kPc_openM {w : World} {base : Nat} {ok : Nat → Prop} {x : Pc} {cs : List Value} (h : kPc.M w base ok x cs) : cs = [.int .i64 x.size, .int .i64 x.pos] := by
  obtain ⟨_, _, rfl, rfl, rfl⟩ := h
  exact rfl
theorem kPc_mk (w : World) (x : Pc)  : kPc.K w x [.int .i64 x.size, .int .i64 x.pos] := ⟨[.int .i64 x.size], [.int .i64 x.pos], rfl, rfl, rfl⟩
theorem kPc_mkM (w : World) (base : Nat) (ok : Nat → Prop) (x : Pc)  : kPc.M w base ok x [.int .i64 x.size, .int .i64 x.pos] := ⟨[.int .i64 x.size], [.int .i64 x.pos], rfl, rfl, rfl⟩
theorem at_Pc {w : World} {A : Option Addr} {n : Nat} {xs : List Pc} (h : Kd.C kPc w A n xs) (i : Int) (h0 : 0 ≤ i) (h1 : i < n) : ∃ ad , A = some ad ∧ w.cell? (ad.add (i.toNat * 2)) = some (.int .i64 (rd_Pc xs i).size) ∧ w.cell? ⟨(ad.add (i.toNat * 2)).block, (ad.add (i.toNat * 2)).off + 1, none⟩ = some (.int .i64 (rd_Pc xs i).pos) := by
  obtain ⟨ad, c, e, _, hK, hc0⟩ := Kd.C_get h zPc i h0 h1
  have hc : ∀ j u, c[j]? = some u → w.cell? (ad.add (i.toNat * 2 + j)) = some u := hc0
  obtain rfl := kPc_open hK
  exact ⟨ad, e, hc 0 _ rfl, by rw [← add_field _ _ 1 (by omega)]; exact hc 1 _ rfl⟩

theorem at_L21 {w : World} {A : Option Addr} {n : Nat} {xs : List (List Pc)} (h : Kd.C (Kd.slice 98 kPc) w A n xs) (i : Int) (h0 : 0 ≤ i) (h1 : i < n) : ∃ ad A0 c0, A = some ad ∧ w.cell? (ad.add i.toNat) = some (.slice A0 (rd_L21 xs i).length c0) ∧ (rd_L21 xs i).length ≤ c0 ∧ kPc.C w A0 (rd_L21 xs i).length (rd_L21 xs i) := by
  obtain ⟨ad, c, e, _, hK, hc0⟩ := Kd.C_get h ([] : List Pc) i h0 h1
  have hc : ∀ j u, c[j]? = some u → w.cell? (ad.add (i.toNat * 1 + j)) = some u := hc0
  obtain ⟨A0, c0, rfl, l0, g0⟩ := hK
  exact ⟨ad, A0, c0, e, by have hq := hc 0 _ rfl; rwa [Nat.mul_one, Nat.add_zero] at hq, l0, g0⟩

/-! #### Ch -/
def kCh : Kd Ch := Kd.iso (Kd.pair kPc (Kd.int .i64)) (fun x : Ch => (x.piece, x.value))
theorem kCh_open {w : World} {x : Ch} {cs : List Value} (h : kCh.K w x cs) : cs = [.int .i64 x.piece.size, .int .i64 x.piece.pos, .int .i64 x.value] := by
  obtain ⟨_, _, rfl, s0, rfl⟩ := h
  obtain rfl := kPc_open s0
  exact rfl
theorem kCh_openM {w : World} {base : Nat} {ok : Nat → Prop} {x : Ch} {cs : List Value} (h : kCh.M w base ok x cs) : cs = [.int .i64 x.piece.size, .int .i64 x.piece.pos, .int .i64 x.value] := by
  obtain ⟨_, _, rfl, s0, rfl⟩ := h
  obtain rfl := kPc_openM s0
  exact rfl
theorem kCh_mk (w : World) (x : Ch)  : kCh.K w x [.int .i64 x.piece.size, .int .i64 x.piece.pos, .int .i64 x.value] := ⟨[.int .i64 x.piece.size, .int .i64 x.piece.pos], [.int .i64 x.value], rfl, (kPc_mk w x.piece ), rfl⟩
theorem kCh_mkM (w : World) (base : Nat) (ok : Nat → Prop) (x : Ch)  : kCh.M w base ok x [.int .i64 x.piece.size, .int .i64 x.piece.pos, .int .i64 x.value] := ⟨[.int .i64 x.piece.size, .int .i64 x.piece.pos], [.int .i64 x.value], rfl, (kPc_mkM w base ok x.piece ), rfl⟩
theorem at_Ch {w : World} {A : Option Addr} {n : Nat} {xs : List Ch} (h : Kd.C kCh w A n xs) (i : Int) (h0 : 0 ≤ i) (h1 : i < n) : ∃ ad , A = some ad ∧ w.cell? (ad.add (i.toNat * 3)) = some (.int .i64 (rd_Ch xs i).piece.size) ∧ w.cell? ⟨(ad.add (i.toNat * 3)).block, (ad.add (i.toNat * 3)).off + 1, none⟩ = some (.int .i64 (rd_Ch xs i).piece.pos) ∧ w.cell? ⟨(ad.add (i.toNat * 3)).block, (ad.add (i.toNat * 3)).off + 2, none⟩ = some (.int .i64 (rd_Ch xs i).value) := by
  obtain ⟨ad, c, e, _, hK, hc0⟩ := Kd.C_get h zCh i h0 h1
  have hc : ∀ j u, c[j]? = some u → w.cell? (ad.add (i.toNat * 3 + j)) = some u := hc0
  obtain rfl := kCh_open hK
  exact ⟨ad, e, hc 0 _ rfl, by rw [← add_field _ _ 1 (by omega)]; exact hc 1 _ rfl, by rw [← add_field _ _ 2 (by omega)]; exact hc 2 _ rfl⟩

theorem at_L23 {w : World} {A : Option Addr} {n : Nat} {xs : List (List Ch)} (h : Kd.C (Kd.slice 165 kCh) w A n xs) (i : Int) (h0 : 0 ≤ i) (h1 : i < n) : ∃ ad A0 c0, A = some ad ∧ w.cell? (ad.add i.toNat) = some (.slice A0 (rd_L23 xs i).length c0) ∧ (rd_L23 xs i).length ≤ c0 ∧ kCh.C w A0 (rd_L23 xs i).length (rd_L23 xs i) := by
  obtain ⟨ad, c, e, _, hK, hc0⟩ := Kd.C_get h ([] : List Ch) i h0 h1
  have hc : ∀ j u, c[j]? = some u → w.cell? (ad.add (i.toNat * 1 + j)) = some u := hc0
  obtain ⟨A0, c0, rfl, l0, g0⟩ := hK
  exact ⟨ad, A0, c0, e, by have hq := hc 0 _ rfl; rwa [Nat.mul_one, Nat.add_zero] at hq, l0, g0⟩


end Go.Proofs.YtngpoonjonojhaaDoor
