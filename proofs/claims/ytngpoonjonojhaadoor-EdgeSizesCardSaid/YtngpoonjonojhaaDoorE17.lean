/- Walks: the value of a board at a position: the last part. -/
import Derived.Test.YtngpoonjonojhaaDoorE16
import Derived.Deep.RegionHeld3
import Derived.IntWalk
set_option linter.all false
namespace Go.Proofs.YtngpoonjonojhaaDoor
open Go.RowKit Go.Proofs.YtngpoonjonojhaaDoorW.PrintWords Go.Proofs.YtngpoonjonojhaaDoorW.PrintLast
set_option linter.unusedVariables false
theorem vols_two (l : List Slc) (r : Rect) (y z : Sp) : volsTo l r [y, z] 2 = volOf l r y + volOf l r z := by
  show 0 + volOf l r y + volOf l r z = _
  omega
theorem vols_one (l : List Slc) (r : Rect) (z : Sp) : volsTo l r [z] 1 = volOf l r z := by
  show 0 + volOf l r z = _
  omega
theorem mul_in {a b A B : Int} (a1 : 0 ≤ a) (a2 : a ≤ A) (b1 : -B ≤ b) (b2 : b ≤ B) : -(A * B) ≤ a * b ∧ a * b ≤ A * B := by
  have hB : 0 ≤ B := by omega
  have h1 : a * b ≤ a * B := Int.mul_le_mul_of_nonneg_left b2 a1
  have h2 : a * B ≤ A * B := Int.mul_le_mul_of_nonneg_right a2 hB
  have h3 : a * (-B) ≤ a * b := Int.mul_le_mul_of_nonneg_left b1 a1
  rw [Int.mul_neg] at h3
  omega
theorem lay {T G : Prop} (h : T) (k : T → G) : G := k h
noncomputable def gainX : Code := ((Tryd.f61.body.bind (cutAt 9)).map (·.1)).getD .skip
noncomputable def gainY : Code := ((Tryd.f61.body.bind (cutAt 9)).map (·.2)).getD .skip
set_option maxHeartbeats 4000000 in
set_option maxRecDepth 100000 in
theorem gain_tail (A : Option Addr) (c : Nat) (l : List Slc) (A' : Option Addr) (n' c' : Nat) (xa xb ya yb kerf trim pitch step chip dust fine ra rb sa sb fr za zb bk v : Int) (gs gr gz gf gb : Nat)
    (t1 : 0 ≤ chip) (t2 : chip ≤ 1000) (t3 : 0 ≤ dust) (t4 : dust ≤ 1000) (v1 : 0 ≤ v) (v2 : v ≤ 1000000) (w W8 : World) (HL : Aside0 (Kd.C kSlc w A l.length l))
    (HS : Aside0 (W8.heap[gs]? = some (.cells #[.slice A l.length c, .slice A' n' c', .int .i64 xa, .int .i64 xb, .int .i64 ya, .int .i64 yb, .int .i64 kerf, .int .i64 trim, .int .i64 pitch, .int .i64 step, .int .i64 chip, .int .i64 dust, .int .i64 fine, .int .i64 (solLen l)] 137 (0, 0)))) (HR : Aside0 (W8.heap[gr]? = some (.cells #[.int .i64 ra, .int .i64 rb, .int .i64 sa, .int .i64 sb] 35 (0, 0)))) (HZ : Aside0 (W8.heap[gz]? = some (.cells #[.int .i64 za, .int .i64 zb] 33 (0, 0)))) (HF : Aside0 (W8.heap[gf]? = some (.cells #[.int .i64 fr, .int .i64 za] 33 (0, 0)))) (HG : Aside0 (W8.heap[gb]? = some (.cells #[.int .i64 zb, .int .i64 bk] 33 (0, 0)))) (HB : Aside0 (Below w.heap.size w W8))
    (Rr : Int) (hRr : Rr = 1000000 * v + dust * (volOf l ⟨⟨ra, rb⟩, ⟨sa, sb⟩⟩ ⟨fr, za⟩ + volOf l ⟨⟨ra, rb⟩, ⟨sa, sb⟩⟩ ⟨zb, bk⟩) + chip * (volOf l ⟨⟨ra, rb⟩, ⟨sa, sb⟩⟩ ⟨0, solLen l⟩ - volOf l ⟨⟨ra, rb⟩, ⟨sa, sb⟩⟩ ⟨za, zb⟩ - (volOf l ⟨⟨ra, rb⟩, ⟨sa, sb⟩⟩ ⟨fr, za⟩ + volOf l ⟨⟨ra, rb⟩, ⟨sa, sb⟩⟩ ⟨zb, bk⟩))) (u0 u1 u2 u3 u5 u6 u7 u8 u12 u15 u16 u17 u18 u19 u20 u21 u22 u23 u24 u25 u26 u27 u28 u29 u30 u31 u32 u33 u34 u35 u36 u37 u38 u39 u40 u41 u42 u43 u44 u45 u46 u47 u48 u49 u50 u51 u52 u53 u54 u55 u56 u57 u58 u59 u60 u61 u62 u63 u64 u65 u66 u67 u68 u69 u70 u71 u72 u73 u74 u75 u76 u77 u78 u79 u80 u81 u82 u83 u84 u85 u86 u87 u88 u89 u90 u91 u92 u93 u94 u95 u96 u97 u98 u99 u100 u101 u102 u103 u104 : Value)
    (K : Act → World → Prop) (hK : ∀ a w', Code.wp Tryd.prog gainY (bodyPost Tryd.prog Tryd.f61 (fun e w' => e = .returned (.int .i64 Rr) ∧ Below w.heap.size w w')) a w' → K a w') :
    Code.wp Tryd.prog gainX (Exit.then K (bodyPost Tryd.prog Tryd.f61 (fun e w' => e = .returned (.int .i64 Rr) ∧ Below w.heap.size w w'))) { tmps := #[u0, u1, u2, u3, .pointer (some ⟨gs, 0, none⟩), u5, u6, u7, u8, .pointer (some ⟨gr, 0, none⟩), .pointer (some ⟨gz, 0, none⟩), .int .i64 v, u12, .pointer (some ⟨gf, 0, none⟩), .pointer (some ⟨gb, 0, none⟩), u15, u16, u17, u18, u19, u20, u21, u22, u23, u24, u25, u26, u27, u28, u29, u30, u31, u32, u33, u34, u35, u36, u37, u38, u39, u40, u41, u42, u43, u44, u45, u46, u47, u48, u49, u50, u51, u52, u53, u54, u55, u56, u57, u58, u59, u60, u61, u62, u63, u64, u65, u66, u67, u68, u69, u70, u71, u72, u73, u74, u75, u76, u77, u78, u79, u80, u81, u82, u83, u84, u85, u86, u87, u88, u89, u90, u91, u92, u93, u94, u95, u96, u97, u98, u99, u100, u101, u102, u103, u104], defers := [] } W8 := by
  conv => arg 2; whnf
  have ey := (rfl : gainY = gainY)
  conv at ey => rhs; whnf
  rw [ey] at hK
  clear ey
  subst hRr
  obtain ⟨D, hD⟩ : ∃ D, D = (volOf l ⟨⟨ra, rb⟩, ⟨sa, sb⟩⟩ ⟨fr, za⟩ + volOf l ⟨⟨ra, rb⟩, ⟨sa, sb⟩⟩ ⟨zb, bk⟩) := ⟨_, rfl⟩
  obtain ⟨V1, hV1⟩ : ∃ V1, V1 = volOf l ⟨⟨ra, rb⟩, ⟨sa, sb⟩⟩ ⟨0, solLen l⟩ := ⟨_, rfl⟩
  obtain ⟨V2, hV2⟩ : ∃ V2, V2 = volOf l ⟨⟨ra, rb⟩, ⟨sa, sb⟩⟩ ⟨za, zb⟩ := ⟨_, rfl⟩
  rw [← hD, ← hV1, ← hV2] at hK ⊢
  have B1 := volOf_bound l ⟨⟨ra, rb⟩, ⟨sa, sb⟩⟩ ⟨fr, za⟩
  have B2 := volOf_bound l ⟨⟨ra, rb⟩, ⟨sa, sb⟩⟩ ⟨zb, bk⟩
  have B3 := volOf_bound l ⟨⟨ra, rb⟩, ⟨sa, sb⟩⟩ ⟨0, solLen l⟩
  have B4 := volOf_bound l ⟨⟨ra, rb⟩, ⟨sa, sb⟩⟩ ⟨za, zb⟩
  rw [← hV1] at B3
  rw [← hV2] at B4
  have B5 : 0 ≤ D ∧ D ≤ 1400000000000 := by rw [hD]; omega
  obtain ⟨b5, b6⟩ := B5
  obtain ⟨b1, b2⟩ := B3
  obtain ⟨b3, b4⟩ := B4
  have M1 := mul_in t3 t4 (show -1400000000000 ≤ D by omega) b6
  have M2 := mul_in t1 t2 (show -3000000000000 ≤ V1 - V2 - D by omega) (show V1 - V2 - D ≤ 3000000000000 by omega)
  obtain ⟨m1, m2⟩ := M1
  obtain ⟨m3, m4⟩ := M2
  clear B1 B2
  have HD := Aside0.mk hD
  have HV1 := Aside0.mk hV1
  have HV2 := Aside0.mk hV2
  clear hD hV1 hV2
  have hs0 : W8.cell? ⟨gs, 0, none⟩ = some (.slice A l.length c) := (blk_cell HS.out 0).trans rfl
  have hs1 : W8.cell? ⟨gs, 1, none⟩ = some (.slice A' n' c') := (blk_cell HS.out 1).trans rfl
  have hs2 : W8.cell? ⟨gs, 2, none⟩ = some (.int .i64 xa) := (blk_cell HS.out 2).trans rfl
  have hs3 : W8.cell? ⟨gs, 3, none⟩ = some (.int .i64 xb) := (blk_cell HS.out 3).trans rfl
  have hs4 : W8.cell? ⟨gs, 4, none⟩ = some (.int .i64 ya) := (blk_cell HS.out 4).trans rfl
  have hs5 : W8.cell? ⟨gs, 5, none⟩ = some (.int .i64 yb) := (blk_cell HS.out 5).trans rfl
  have hs6 : W8.cell? ⟨gs, 6, none⟩ = some (.int .i64 kerf) := (blk_cell HS.out 6).trans rfl
  have hs7 : W8.cell? ⟨gs, 7, none⟩ = some (.int .i64 trim) := (blk_cell HS.out 7).trans rfl
  have hs8 : W8.cell? ⟨gs, 8, none⟩ = some (.int .i64 pitch) := (blk_cell HS.out 8).trans rfl
  have hs9 : W8.cell? ⟨gs, 9, none⟩ = some (.int .i64 step) := (blk_cell HS.out 9).trans rfl
  have hs10 : W8.cell? ⟨gs, 10, none⟩ = some (.int .i64 chip) := (blk_cell HS.out 10).trans rfl
  have hs11 : W8.cell? ⟨gs, 11, none⟩ = some (.int .i64 dust) := (blk_cell HS.out 11).trans rfl
  have hs12 : W8.cell? ⟨gs, 12, none⟩ = some (.int .i64 fine) := (blk_cell HS.out 12).trans rfl
  have hs13 : W8.cell? ⟨gs, 13, none⟩ = some (.int .i64 (solLen l)) := (blk_cell HS.out 13).trans rfl
  have hr0 : W8.cell? ⟨gr, 0, none⟩ = some (.int .i64 ra) := (blk_cell HR.out 0).trans rfl
  have hr1 : W8.cell? ⟨gr, 1, none⟩ = some (.int .i64 rb) := (blk_cell HR.out 1).trans rfl
  have hr2 : W8.cell? ⟨gr, 2, none⟩ = some (.int .i64 sa) := (blk_cell HR.out 2).trans rfl
  have hr3 : W8.cell? ⟨gr, 3, none⟩ = some (.int .i64 sb) := (blk_cell HR.out 3).trans rfl
  have hf0 : W8.cell? ⟨gf, 0, none⟩ = some (.int .i64 fr) := (blk_cell HF.out 0).trans rfl
  have hf1 : W8.cell? ⟨gf, 1, none⟩ = some (.int .i64 za) := (blk_cell HF.out 1).trans rfl
  have hg0 : W8.cell? ⟨gb, 0, none⟩ = some (.int .i64 zb) := (blk_cell HG.out 0).trans rfl
  have hg1 : W8.cell? ⟨gb, 1, none⟩ = some (.int .i64 bk) := (blk_cell HG.out 1).trans rfl
  go_wp2_with fail
  refine (svol_calls _ _ l _ _ _ _ _ _ _ _ _ _ _ _ _ _ _ _ _ _ _ _ _ [⟨fr, za⟩, ⟨zb, bk⟩] (by simp) _ ?c1 ?c2).mono ?_
  case c1 => exact Kd.C_below HL.out (by have h := HB.out; exact BB)
  case c2 => exact C_two (c1 := [.int .i64 fr, .int .i64 za]) (c2 := [.int .i64 zb, .int .i64 bk]) (by repeat (first | exact blk_newi _ (by simp) | refine blk_drewN ?_ _ | refine blk_drew ?_ | refine blk_alloc ?_ _)) (kSp_mk _ ⟨fr, za⟩) (kSp_mk _ ⟨zb, bk⟩)
  rintro e w1 ⟨he, hb1⟩
  have he' : e = .returned (.int .i64 D) := he.trans (by rw [HD.out]; exact congrArg (fun q => Ending.returned (.int .i64 q)) (vols_two l ⟨⟨ra, rb⟩, ⟨sa, sb⟩⟩ ⟨fr, za⟩ ⟨zb, bk⟩))
  subst he'
  have hb2 := (adv (Below.refl _ W8) hb1).1
  have HS1 := Aside0.mk (blk_below HS.out hb2)
  have HR1 := Aside0.mk (blk_below HR.out hb2)
  have HZ1 := Aside0.mk (blk_below HZ.out hb2)
  have HB1 := Aside0.mk (below_then HB.out HB.out.size hb2)
  clear he hb1 hb2 HS HR HZ HF HG HB hs0 hs1 hs2 hs3 hs4 hs5 hs6 hs7 hs8 hs9 hs10 hs11 hs12 hs13 hr0 hr1 hr2 hr3 hf0 hf1 hg0 hg1
  have hs0 : w1.cell? ⟨gs, 0, none⟩ = some (.slice A l.length c) := (blk_cell HS1.out 0).trans rfl
  have hs1 : w1.cell? ⟨gs, 1, none⟩ = some (.slice A' n' c') := (blk_cell HS1.out 1).trans rfl
  have hs2 : w1.cell? ⟨gs, 2, none⟩ = some (.int .i64 xa) := (blk_cell HS1.out 2).trans rfl
  have hs3 : w1.cell? ⟨gs, 3, none⟩ = some (.int .i64 xb) := (blk_cell HS1.out 3).trans rfl
  have hs4 : w1.cell? ⟨gs, 4, none⟩ = some (.int .i64 ya) := (blk_cell HS1.out 4).trans rfl
  have hs5 : w1.cell? ⟨gs, 5, none⟩ = some (.int .i64 yb) := (blk_cell HS1.out 5).trans rfl
  have hs6 : w1.cell? ⟨gs, 6, none⟩ = some (.int .i64 kerf) := (blk_cell HS1.out 6).trans rfl
  have hs7 : w1.cell? ⟨gs, 7, none⟩ = some (.int .i64 trim) := (blk_cell HS1.out 7).trans rfl
  have hs8 : w1.cell? ⟨gs, 8, none⟩ = some (.int .i64 pitch) := (blk_cell HS1.out 8).trans rfl
  have hs9 : w1.cell? ⟨gs, 9, none⟩ = some (.int .i64 step) := (blk_cell HS1.out 9).trans rfl
  have hs10 : w1.cell? ⟨gs, 10, none⟩ = some (.int .i64 chip) := (blk_cell HS1.out 10).trans rfl
  have hs11 : w1.cell? ⟨gs, 11, none⟩ = some (.int .i64 dust) := (blk_cell HS1.out 11).trans rfl
  have hs12 : w1.cell? ⟨gs, 12, none⟩ = some (.int .i64 fine) := (blk_cell HS1.out 12).trans rfl
  have hs13 : w1.cell? ⟨gs, 13, none⟩ = some (.int .i64 (solLen l)) := (blk_cell HS1.out 13).trans rfl
  have hr0 : w1.cell? ⟨gr, 0, none⟩ = some (.int .i64 ra) := (blk_cell HR1.out 0).trans rfl
  have hr1 : w1.cell? ⟨gr, 1, none⟩ = some (.int .i64 rb) := (blk_cell HR1.out 1).trans rfl
  have hr2 : w1.cell? ⟨gr, 2, none⟩ = some (.int .i64 sa) := (blk_cell HR1.out 2).trans rfl
  have hr3 : w1.cell? ⟨gr, 3, none⟩ = some (.int .i64 sb) := (blk_cell HR1.out 3).trans rfl
  have hz0 : w1.cell? ⟨gz, 0, none⟩ = some (.int .i64 za) := (blk_cell HZ1.out 0).trans rfl
  have hz1 : w1.cell? ⟨gz, 1, none⟩ = some (.int .i64 zb) := (blk_cell HZ1.out 1).trans rfl
  go_upto_region 10 with (fail)
  have KP : Aside0 (∀ X, Below w1.heap.size w1 X → Below w1.heap.size w1 X ∧ X.cell? ⟨gs, 0, none⟩ = some (.slice A l.length c) ∧ X.cell? ⟨gs, 1, none⟩ = some (.slice A' n' c') ∧ X.cell? ⟨gs, 2, none⟩ = some (.int .i64 xa) ∧ X.cell? ⟨gs, 3, none⟩ = some (.int .i64 xb) ∧ X.cell? ⟨gs, 4, none⟩ = some (.int .i64 ya) ∧ X.cell? ⟨gs, 5, none⟩ = some (.int .i64 yb) ∧ X.cell? ⟨gs, 6, none⟩ = some (.int .i64 kerf) ∧ X.cell? ⟨gs, 7, none⟩ = some (.int .i64 trim) ∧ X.cell? ⟨gs, 8, none⟩ = some (.int .i64 pitch) ∧ X.cell? ⟨gs, 9, none⟩ = some (.int .i64 step) ∧ X.cell? ⟨gs, 10, none⟩ = some (.int .i64 chip) ∧ X.cell? ⟨gs, 11, none⟩ = some (.int .i64 dust) ∧ X.cell? ⟨gs, 12, none⟩ = some (.int .i64 fine) ∧ X.cell? ⟨gs, 13, none⟩ = some (.int .i64 (solLen l)) ∧ X.cell? ⟨gr, 0, none⟩ = some (.int .i64 ra) ∧ X.cell? ⟨gr, 1, none⟩ = some (.int .i64 rb) ∧ X.cell? ⟨gr, 2, none⟩ = some (.int .i64 sa) ∧ X.cell? ⟨gr, 3, none⟩ = some (.int .i64 sb) ∧ X.cell? ⟨gz, 0, none⟩ = some (.int .i64 za) ∧ X.cell? ⟨gz, 1, none⟩ = some (.int .i64 zb)) := ⟨fun X h => ⟨h, pw_cell_below h hs0, pw_cell_below h hs1, pw_cell_below h hs2, pw_cell_below h hs3, pw_cell_below h hs4, pw_cell_below h hs5, pw_cell_below h hs6, pw_cell_below h hs7, pw_cell_below h hs8, pw_cell_below h hs9, pw_cell_below h hs10, pw_cell_below h hs11, pw_cell_below h hs12, pw_cell_below h hs13, pw_cell_below h hr0, pw_cell_below h hr1, pw_cell_below h hr2, pw_cell_below h hr3, pw_cell_below h hz0, pw_cell_below h hz1⟩⟩
  clear HS1 HR1 HZ1
  go_region_held3 (fun X => Below w1.heap.size w1 X ∧ X.cell? ⟨gs, 0, none⟩ = some (.slice A l.length c) ∧ X.cell? ⟨gs, 1, none⟩ = some (.slice A' n' c') ∧ X.cell? ⟨gs, 2, none⟩ = some (.int .i64 xa) ∧ X.cell? ⟨gs, 3, none⟩ = some (.int .i64 xb) ∧ X.cell? ⟨gs, 4, none⟩ = some (.int .i64 ya) ∧ X.cell? ⟨gs, 5, none⟩ = some (.int .i64 yb) ∧ X.cell? ⟨gs, 6, none⟩ = some (.int .i64 kerf) ∧ X.cell? ⟨gs, 7, none⟩ = some (.int .i64 trim) ∧ X.cell? ⟨gs, 8, none⟩ = some (.int .i64 pitch) ∧ X.cell? ⟨gs, 9, none⟩ = some (.int .i64 step) ∧ X.cell? ⟨gs, 10, none⟩ = some (.int .i64 chip) ∧ X.cell? ⟨gs, 11, none⟩ = some (.int .i64 dust) ∧ X.cell? ⟨gs, 12, none⟩ = some (.int .i64 fine) ∧ X.cell? ⟨gs, 13, none⟩ = some (.int .i64 (solLen l)) ∧ X.cell? ⟨gr, 0, none⟩ = some (.int .i64 ra) ∧ X.cell? ⟨gr, 1, none⟩ = some (.int .i64 rb) ∧ X.cell? ⟨gr, 2, none⟩ = some (.int .i64 sa) ∧ X.cell? ⟨gr, 3, none⟩ = some (.int .i64 sb) ∧ X.cell? ⟨gz, 0, none⟩ = some (.int .i64 za) ∧ X.cell? ⟨gz, 1, none⟩ = some (.int .i64 zb))
    ((refine KP.out _ ?_; (repeat (with_reducible first | assumption | exact Below.refl _ _ | apply below_alloc | apply below_drew))))
    (first
      | (go_at_call 62; refine (svol_calls _ _ l _ _ _ _ _ _ _ _ _ _ _ _ _ _ _ _ _ _ _ _ _ [⟨0, solLen l⟩] (by simp) _ ?c1 ?c2).mono ?_; (case c2 => first | (refine C_one (t := 33) (cs := #[.int .i64 0, .int .i64 (solLen l)]) ?_ (kSp_mk _ ⟨0, solLen l⟩); (repeat (with_reducible first | (refine blk_newi _ ?_; simp; done) | refine blk_drewN ?_ _ | refine blk_drew ?_ | refine blk_alloc ?_ _)); done) | (refine C_one (t := 33) (cs := #[.int .i64 0, .int .i64 (solLen l)]) ?_ (kSp_mk _ ⟨0, solLen l⟩); have h := PX0.out; (repeat (with_reducible first | exact h | (refine blk_newi _ ?_; simp; done) | refine blk_drewN ?_ _ | refine blk_drew ?_ | refine blk_alloc ?_ _)); done) | (refine C_one (t := 33) (cs := #[.int .i64 0, .int .i64 (solLen l)]) ?_ (kSp_mk _ ⟨0, solLen l⟩); have h := PX1.out; (repeat (with_reducible first | exact h | (refine blk_newi _ ?_; simp; done) | refine blk_drewN ?_ _ | refine blk_drew ?_ | refine blk_alloc ?_ _)); done)); (case c1 => (go_split_ands; exact Kd.C_below HL.out (below_then HB1.out HB1.out.size (by repeat (with_reducible first | assumption | exact Below.refl _ _ | apply below_alloc | apply below_drew))))); rintro e w2 ⟨he, hb1⟩; have he' : e = .returned (.int .i64 V1) := he.trans (by rw [HV1.out]; exact congrArg (fun q => Ending.returned (.int .i64 q)) (vols_one l ⟨⟨ra, rb⟩, ⟨sa, sb⟩⟩ ⟨0, solLen l⟩)); subst he'; have hSn : Below w1.heap.size w1 w2 := (by refine below_then ?hx (Below.size ?hx) hb1; case hx => (repeat (with_reducible first | assumption | exact Below.refl _ _ | apply below_alloc | apply below_drew))); (first | (refine lay (T := Aside0 (w2.heap[w1.heap.size]? = some (.cells #[.int .i64 0, .int .i64 (solLen l)] 33 (0, 0)))) ?lp ?_; (case lp => (refine ⟨blk_below ?_ hb1⟩; (repeat (with_reducible first | (refine blk_newi _ ?_; simp; done) | refine blk_drewN ?_ _ | refine blk_drew ?_ | refine blk_alloc ?_ _)); done)); intro PX0) | (refine lay (T := Aside0 (w2.heap[w1.heap.size]? = some (.cells #[.int .i64 za, .int .i64 zb] 33 (0, 0)))) ?lp ?_; (case lp => (refine ⟨blk_below ?_ hb1⟩; (repeat (with_reducible first | (refine blk_newi _ ?_; simp; done) | refine blk_drewN ?_ _ | refine blk_drew ?_ | refine blk_alloc ?_ _)); done)); intro PX0) | skip); (first | (refine lay (T := Aside0 (w2.heap[w1.heap.size + 1]? = some (.cells #[.int .i64 0, .int .i64 (solLen l)] 33 (0, 0)))) ?lp ?_; (case lp => (refine ⟨blk_below ?_ hb1⟩; (repeat (with_reducible first | (refine blk_newi _ ?_; simp; done) | refine blk_drewN ?_ _ | refine blk_drew ?_ | refine blk_alloc ?_ _)); done)); intro PX1) | (refine lay (T := Aside0 (w2.heap[w1.heap.size + 1]? = some (.cells #[.int .i64 za, .int .i64 zb] 33 (0, 0)))) ?lp ?_; (case lp => (refine ⟨blk_below ?_ hb1⟩; (repeat (with_reducible first | (refine blk_newi _ ?_; simp; done) | refine blk_drewN ?_ _ | refine blk_drew ?_ | refine blk_alloc ?_ _)); done)); intro PX1) | skip); have hS := hSn; clear he hb1 hSn)
      | (go_at_call 62; refine (svol_calls _ _ l _ _ _ _ _ _ _ _ _ _ _ _ _ _ _ _ _ _ _ _ _ [⟨za, zb⟩] (by simp) _ ?c1 ?c2).mono ?_; (case c2 => first | (refine C_one (t := 33) (cs := #[.int .i64 za, .int .i64 zb]) ?_ (kSp_mk _ ⟨za, zb⟩); (repeat (with_reducible first | (refine blk_newi _ ?_; simp; done) | refine blk_drewN ?_ _ | refine blk_drew ?_ | refine blk_alloc ?_ _)); done) | (refine C_one (t := 33) (cs := #[.int .i64 za, .int .i64 zb]) ?_ (kSp_mk _ ⟨za, zb⟩); have h := PX0.out; (repeat (with_reducible first | exact h | (refine blk_newi _ ?_; simp; done) | refine blk_drewN ?_ _ | refine blk_drew ?_ | refine blk_alloc ?_ _)); done) | (refine C_one (t := 33) (cs := #[.int .i64 za, .int .i64 zb]) ?_ (kSp_mk _ ⟨za, zb⟩); have h := PX1.out; (repeat (with_reducible first | exact h | (refine blk_newi _ ?_; simp; done) | refine blk_drewN ?_ _ | refine blk_drew ?_ | refine blk_alloc ?_ _)); done)); (case c1 => (go_split_ands; exact Kd.C_below HL.out (below_then HB1.out HB1.out.size (by repeat (with_reducible first | assumption | exact Below.refl _ _ | apply below_alloc | apply below_drew))))); rintro e w2 ⟨he, hb1⟩; have he' : e = .returned (.int .i64 V2) := he.trans (by rw [HV2.out]; exact congrArg (fun q => Ending.returned (.int .i64 q)) (vols_one l ⟨⟨ra, rb⟩, ⟨sa, sb⟩⟩ ⟨za, zb⟩)); subst he'; have hSn : Below w1.heap.size w1 w2 := (by refine below_then ?hx (Below.size ?hx) hb1; case hx => (repeat (with_reducible first | assumption | exact Below.refl _ _ | apply below_alloc | apply below_drew))); (first | (refine lay (T := Aside0 (w2.heap[w1.heap.size]? = some (.cells #[.int .i64 0, .int .i64 (solLen l)] 33 (0, 0)))) ?lp ?_; (case lp => (refine ⟨blk_below ?_ hb1⟩; (repeat (with_reducible first | (refine blk_newi _ ?_; simp; done) | refine blk_drewN ?_ _ | refine blk_drew ?_ | refine blk_alloc ?_ _)); done)); intro PX0) | (refine lay (T := Aside0 (w2.heap[w1.heap.size]? = some (.cells #[.int .i64 za, .int .i64 zb] 33 (0, 0)))) ?lp ?_; (case lp => (refine ⟨blk_below ?_ hb1⟩; (repeat (with_reducible first | (refine blk_newi _ ?_; simp; done) | refine blk_drewN ?_ _ | refine blk_drew ?_ | refine blk_alloc ?_ _)); done)); intro PX0) | skip); (first | (refine lay (T := Aside0 (w2.heap[w1.heap.size + 1]? = some (.cells #[.int .i64 0, .int .i64 (solLen l)] 33 (0, 0)))) ?lp ?_; (case lp => (refine ⟨blk_below ?_ hb1⟩; (repeat (with_reducible first | (refine blk_newi _ ?_; simp; done) | refine blk_drewN ?_ _ | refine blk_drew ?_ | refine blk_alloc ?_ _)); done)); intro PX1) | (refine lay (T := Aside0 (w2.heap[w1.heap.size + 1]? = some (.cells #[.int .i64 za, .int .i64 zb] 33 (0, 0)))) ?lp ?_; (case lp => (refine ⟨blk_below ?_ hb1⟩; (repeat (with_reducible first | (refine blk_newi _ ?_; simp; done) | refine blk_drewN ?_ _ | refine blk_drew ?_ | refine blk_alloc ?_ _)); done)); intro PX1) | skip); have hS := hSn; clear he hb1 hSn))
  all_goals (
    have HB5 := Aside0.mk (below_then HB1.out HB1.out.size hS)
    go_split_ands
    go_wp2_with fail
    go_ret
    exact ⟨rfl, HB5.out⟩)
end Go.Proofs.YtngpoonjonojhaaDoor
