/- Words and walks that the row leans on: WLi2, WFr. -/
import Derived.Test.YtngpoonjonojhaaDoorE21
import Derived.Test.YtngpoonjonojhaaDoorE11
set_option linter.all false
/-! Walks: the chips and the dust of a line. -/
namespace Go.Proofs.YtngpoonjonojhaaDoor
open Go.RowKit Go.Proofs.YtngpoonjonojhaaDoorW.PrintWords Go.Proofs.YtngpoonjonojhaaDoorW.PrintLast
set_option linter.unusedVariables false
noncomputable def chipsBody : Code := (Tryd.f32.body.bind (loopAt 20)).getD .skip
theorem range_snoc (f : Nat → Int) (k : Nat) : (List.range (k + 1)).map f = (List.range k).map f ++ [f k] := by rw [List.range_succ, List.map_append]; rfl
set_option maxHeartbeats 8000000 in
set_option maxRecDepth 100000 in
theorem chips_loop (A : Option Addr) (c : Nat) (l : List Slc) (A' : Option Addr) (n' c' : Nat) (xa xb ya yb kerf trim pitch step chip dust fine len kf : Int) (vS vG : Value) (gt gx go : Nat)
    (x1 : -600 ≤ xa) (x2 : xa ≤ 600) (t1 : 0 ≤ chip) (t2 : chip ≤ 1000) (t3 : 0 ≤ dust) (t4 : dust ≤ 1000) (l1 : 1 ≤ len) (l2 : len ≤ 1200) (w w1 : World) (hgo : w.heap.size ≤ go) (hgx : gx ≠ go) (hgt : gt ≠ go) (hgo1 : go < w1.heap.size)
    (HL : Aside0 (Kd.C kSlc w A l.length l)) (HB : Aside0 (Below w.heap.size w w1)) (HX : Aside0 (w1.heap[gx]? = some (.cells #[.slice A l.length c, .slice A' n' c', .int .i64 xa, .int .i64 xb, .int .i64 ya, .int .i64 yb, .int .i64 kerf, .int .i64 trim, .int .i64 pitch, .int .i64 step, .int .i64 chip, .int .i64 dust, .int .i64 fine, .int .i64 (solLen l)] 137 (0, 0)))) (HR : Aside0 (w1.heap[gt]? = some (.cells #[.int .i64 chip, .int .i64 dust, .int .i64 fine] 39 (0, 0)))) (HO : Aside0 (w1.heap[go]? = some (.cells #[.int .i64 len, .int .i64 kf, .int .i64 1, vS, vG, .slice none 0 0, .slice none 0 0] 64 (0, 0))))
    (u0 u1 u2 u3 u4 u5 u6 u7 u8 u9 u10 u12 u13 u14 u17 u18 u19 u20 u21 u22 u23 u24 u25 u26 u27 u28 u29 u30 u31 u32 u33 u34 u35 u36 u37 u38 u39 u40 u41 u42 u43 u44 u45 u46 u47 u48 u49 u50 u51 u52 u53 u54 u55 u56 u57 u58 u59 u60 u61 u62 u63 u64 u65 u66 u67 u68 u69 u70 u71 u72 u73 u74 u75 u76 u77 u78 u79 u80 u81 u82 u83 u84 u85 u86 u87 u88 u89 u90 u91 u92 u93 u94 u95 u96 u97 u98 u99 u100 u101 u102 u103 u104 u105 u106 u107 u108 u111 u112 u113 u114 u115 u116 u117 u118 u119 u120 u121 u122 u123 u124 u125 u126 u127 u128 u129 u130 u131 u132 u133 u134 u135 u136 u137 u138 u139 u140 u141 u142 u143 : Value) (Q0 : Exit → Act → World → Prop)
    (hexit : ∀ (x22 x23 x110 x111 x112 x113 x114 x115 x116 x117 x118 x119 x120 x121 x122 x123 x124 x125 x126 x127 x128 x129 x130 x131 x132 x133 x134 x135 x136 x137 x138 x139 x140 x141 x142 : Value) (vc vd : Value) (w' : World), KeepBut w1 w' go none → Below w.heap.size w w' → w'.heap[go]? = some (.cells #[.int .i64 len, .int .i64 kf, .int .i64 1, vS, vG, vc, vd] 64 (0, 0)) → (Kd.int .i64).R 3 w' w.heap.size (fun q => w1.heap.size ≤ q ∧ some q ≠ (vd : Value).ownBlock) (vc) ((List.range len.toNat).map fun j => chip * volOf l (partOf ⟨⟨xa, xb⟩, ⟨ya, yb⟩⟩ ((j : Nat)) ((j : Nat) + 1)) ⟨0, solLen l⟩) → (Kd.int .i64).R 3 w' w.heap.size (fun q => w1.heap.size ≤ q ∧ some q ≠ (vc : Value).ownBlock) (vd) ((List.range len.toNat).map fun j => dust * volOf l (partOf ⟨⟨xa, xb⟩, ⟨ya, yb⟩⟩ ((j : Nat)) ((j : Nat) + 1)) ⟨0, solLen l⟩) → Q0 (.exit 4) { tmps := (u0 :: u1 :: u2 :: u3 :: u4 :: u5 :: u6 :: u7 :: u8 :: u9 :: u10 :: .pointer (some ⟨gt, 0, none⟩) :: u12 :: u13 :: u14 :: .pointer (some ⟨gx, 0, none⟩) :: .pointer (some ⟨go, 0, none⟩) :: u17 :: u18 :: u19 :: u20 :: u21 :: x22 :: x23 :: u24 :: u25 :: u26 :: u27 :: u28 :: u29 :: u30 :: u31 :: u32 :: u33 :: u34 :: u35 :: u36 :: u37 :: u38 :: u39 :: u40 :: u41 :: u42 :: u43 :: u44 :: u45 :: u46 :: u47 :: u48 :: u49 :: u50 :: u51 :: u52 :: u53 :: u54 :: u55 :: u56 :: u57 :: u58 :: u59 :: u60 :: u61 :: u62 :: u63 :: u64 :: u65 :: u66 :: u67 :: u68 :: u69 :: u70 :: u71 :: u72 :: u73 :: u74 :: u75 :: u76 :: u77 :: u78 :: u79 :: u80 :: u81 :: u82 :: u83 :: u84 :: u85 :: u86 :: u87 :: u88 :: u89 :: u90 :: u91 :: u92 :: u93 :: u94 :: u95 :: u96 :: u97 :: u98 :: u99 :: u100 :: u101 :: u102 :: u103 :: u104 :: u105 :: u106 :: u107 :: u108 :: .int .i64 len :: x110 :: x111 :: x112 :: x113 :: x114 :: x115 :: x116 :: x117 :: x118 :: x119 :: x120 :: x121 :: x122 :: x123 :: x124 :: x125 :: x126 :: x127 :: x128 :: x129 :: x130 :: x131 :: x132 :: x133 :: x134 :: x135 :: x136 :: x137 :: x138 :: x139 :: x140 :: x141 :: x142 :: u143 :: []).toArray, defers := [] } w') :
    Code.wp Tryd.prog (Code.loop chipsBody) Q0 { tmps := (u0 :: u1 :: u2 :: u3 :: u4 :: u5 :: u6 :: u7 :: u8 :: u9 :: u10 :: .pointer (some ⟨gt, 0, none⟩) :: u12 :: u13 :: u14 :: .pointer (some ⟨gx, 0, none⟩) :: .pointer (some ⟨go, 0, none⟩) :: u17 :: u18 :: u19 :: u20 :: u21 :: u22 :: u23 :: u24 :: u25 :: u26 :: u27 :: u28 :: u29 :: u30 :: u31 :: u32 :: u33 :: u34 :: u35 :: u36 :: u37 :: u38 :: u39 :: u40 :: u41 :: u42 :: u43 :: u44 :: u45 :: u46 :: u47 :: u48 :: u49 :: u50 :: u51 :: u52 :: u53 :: u54 :: u55 :: u56 :: u57 :: u58 :: u59 :: u60 :: u61 :: u62 :: u63 :: u64 :: u65 :: u66 :: u67 :: u68 :: u69 :: u70 :: u71 :: u72 :: u73 :: u74 :: u75 :: u76 :: u77 :: u78 :: u79 :: u80 :: u81 :: u82 :: u83 :: u84 :: u85 :: u86 :: u87 :: u88 :: u89 :: u90 :: u91 :: u92 :: u93 :: u94 :: u95 :: u96 :: u97 :: u98 :: u99 :: u100 :: u101 :: u102 :: u103 :: u104 :: u105 :: u106 :: u107 :: u108 :: .int .i64 len :: .int .i64 0 :: u111 :: u112 :: u113 :: u114 :: u115 :: u116 :: u117 :: u118 :: u119 :: u120 :: u121 :: u122 :: u123 :: u124 :: u125 :: u126 :: u127 :: u128 :: u129 :: u130 :: u131 :: u132 :: u133 :: u134 :: u135 :: u136 :: u137 :: u138 :: u139 :: u140 :: u141 :: u142 :: u143 :: []).toArray, defers := [] } w1 := by
  conv => arg 2; arg 1; whnf
  have HEX := Aside0.mk hexit
  clear hexit
  go_loopw [110] (fun i wr => ∃ (k : Nat) (vc vd : Value), (k : Int) ≤ len ∧ i = .int .i64 (k : Nat) ∧ Aside0 (KeepBut w1 wr go none) ∧ Aside0 (Below w.heap.size w wr) ∧ Aside0 (wr.heap[go]? = some (.cells #[.int .i64 len, .int .i64 kf, .int .i64 1, vS, vG, vc, vd] 64 (0, 0))) ∧ Aside0 ((Kd.int .i64).R 3 wr w.heap.size (fun q => w1.heap.size ≤ q ∧ some q ≠ (vd : Value).ownBlock) (vc) ((List.range k).map fun j => chip * volOf l (partOf ⟨⟨xa, xb⟩, ⟨ya, yb⟩⟩ ((j : Nat)) ((j : Nat) + 1)) ⟨0, solLen l⟩)) ∧ Aside0 ((Kd.int .i64).R 3 wr w.heap.size (fun q => w1.heap.size ≤ q ∧ some q ≠ (vc : Value).ownBlock) (vd) ((List.range k).map fun j => dust * volOf l (partOf ⟨⟨xa, xb⟩, ⟨ya, yb⟩⟩ ((j : Nat)) ((j : Nat) + 1)) ⟨0, solLen l⟩))) (fun i _ => (len - intOf i).toNat)
  case atStart => exact ⟨0, .slice none 0 0, .slice none 0 0, by omega, rfl, ⟨KeepBut.refl _ _ _⟩, HB, HO, ⟨Kd.R_nil _ _ _ _ _⟩, ⟨Kd.R_nil _ _ _ _ _⟩⟩
  case round =>
    clear HB HO
    obtain ⟨k, vc, vd, hk, rfl, HK, HB, HO, HC, HD⟩ := hrel
    by_cases hlt : (k : Int) < len
    · have HXr := Aside0.mk (KeepBut.blk HK.out HX.out hgx (by simp))
      have hs0 : wr.cell? ⟨gx, 0, none⟩ = some (.slice A l.length c) := (blk_cell HXr.out 0).trans rfl
      have hs1 : wr.cell? ⟨gx, 1, none⟩ = some (.slice A' n' c') := (blk_cell HXr.out 1).trans rfl
      have hs2 : wr.cell? ⟨gx, 2, none⟩ = some (.int .i64 xa) := (blk_cell HXr.out 2).trans rfl
      have hs3 : wr.cell? ⟨gx, 3, none⟩ = some (.int .i64 xb) := (blk_cell HXr.out 3).trans rfl
      have hs4 : wr.cell? ⟨gx, 4, none⟩ = some (.int .i64 ya) := (blk_cell HXr.out 4).trans rfl
      have hs5 : wr.cell? ⟨gx, 5, none⟩ = some (.int .i64 yb) := (blk_cell HXr.out 5).trans rfl
      have hs6 : wr.cell? ⟨gx, 6, none⟩ = some (.int .i64 kerf) := (blk_cell HXr.out 6).trans rfl
      have hs7 : wr.cell? ⟨gx, 7, none⟩ = some (.int .i64 trim) := (blk_cell HXr.out 7).trans rfl
      have hs8 : wr.cell? ⟨gx, 8, none⟩ = some (.int .i64 pitch) := (blk_cell HXr.out 8).trans rfl
      have hs9 : wr.cell? ⟨gx, 9, none⟩ = some (.int .i64 step) := (blk_cell HXr.out 9).trans rfl
      have hs10 : wr.cell? ⟨gx, 10, none⟩ = some (.int .i64 chip) := (blk_cell HXr.out 10).trans rfl
      have hs11 : wr.cell? ⟨gx, 11, none⟩ = some (.int .i64 dust) := (blk_cell HXr.out 11).trans rfl
      have hs12 : wr.cell? ⟨gx, 12, none⟩ = some (.int .i64 fine) := (blk_cell HXr.out 12).trans rfl
      have hs13 : wr.cell? ⟨gx, 13, none⟩ = some (.int .i64 (solLen l)) := (blk_cell HXr.out 13).trans rfl
      obtain ⟨V, hV⟩ : ∃ V, V = volOf l (partOf ⟨⟨xa, xb⟩, ⟨ya, yb⟩⟩ ((k : Nat)) ((k : Nat) + 1)) ⟨0, solLen l⟩ := ⟨_, rfl⟩
      have HV := Aside0.mk hV
      have vb := volOf_bound l (partOf ⟨⟨xa, xb⟩, ⟨ya, yb⟩⟩ (k : Nat) ((k : Nat) + 1)) ⟨0, solLen l⟩
      rw [← hV] at vb
      obtain ⟨vb1, vb2⟩ := vb
      clear hV
      have KP : Aside0 (∀ X, Below wr.heap.size wr X → Below wr.heap.size wr X ∧ X.cell? ⟨gx, 0, none⟩ = some (.slice A l.length c) ∧ X.cell? ⟨gx, 1, none⟩ = some (.slice A' n' c') ∧ X.cell? ⟨gx, 2, none⟩ = some (.int .i64 xa) ∧ X.cell? ⟨gx, 3, none⟩ = some (.int .i64 xb) ∧ X.cell? ⟨gx, 4, none⟩ = some (.int .i64 ya) ∧ X.cell? ⟨gx, 5, none⟩ = some (.int .i64 yb) ∧ X.cell? ⟨gx, 6, none⟩ = some (.int .i64 kerf) ∧ X.cell? ⟨gx, 7, none⟩ = some (.int .i64 trim) ∧ X.cell? ⟨gx, 8, none⟩ = some (.int .i64 pitch) ∧ X.cell? ⟨gx, 9, none⟩ = some (.int .i64 step) ∧ X.cell? ⟨gx, 10, none⟩ = some (.int .i64 chip) ∧ X.cell? ⟨gx, 11, none⟩ = some (.int .i64 dust) ∧ X.cell? ⟨gx, 12, none⟩ = some (.int .i64 fine) ∧ X.cell? ⟨gx, 13, none⟩ = some (.int .i64 (solLen l))) := ⟨fun X h => ⟨h, pw_cell_below h hs0, pw_cell_below h hs1, pw_cell_below h hs2, pw_cell_below h hs3, pw_cell_below h hs4, pw_cell_below h hs5, pw_cell_below h hs6, pw_cell_below h hs7, pw_cell_below h hs8, pw_cell_below h hs9, pw_cell_below h hs10, pw_cell_below h hs11, pw_cell_below h hs12, pw_cell_below h hs13⟩⟩
      have i1 : IntKind.i64.wrap ((k : Int) + 1) = (k : Int) + 1 := IntWalk.i64_in _ (by omega)
      go_upto_region 22 with (fail)
      clear hs0 hs1 hs2 hs3 hs4 hs5 hs6 hs7 hs8 hs9 hs10 hs11 hs12 hs13
      go_region_held3 (fun X => Below wr.heap.size wr X ∧ X.cell? ⟨gx, 0, none⟩ = some (.slice A l.length c) ∧ X.cell? ⟨gx, 1, none⟩ = some (.slice A' n' c') ∧ X.cell? ⟨gx, 2, none⟩ = some (.int .i64 xa) ∧ X.cell? ⟨gx, 3, none⟩ = some (.int .i64 xb) ∧ X.cell? ⟨gx, 4, none⟩ = some (.int .i64 ya) ∧ X.cell? ⟨gx, 5, none⟩ = some (.int .i64 yb) ∧ X.cell? ⟨gx, 6, none⟩ = some (.int .i64 kerf) ∧ X.cell? ⟨gx, 7, none⟩ = some (.int .i64 trim) ∧ X.cell? ⟨gx, 8, none⟩ = some (.int .i64 pitch) ∧ X.cell? ⟨gx, 9, none⟩ = some (.int .i64 step) ∧ X.cell? ⟨gx, 10, none⟩ = some (.int .i64 chip) ∧ X.cell? ⟨gx, 11, none⟩ = some (.int .i64 dust) ∧ X.cell? ⟨gx, 12, none⟩ = some (.int .i64 fine) ∧ X.cell? ⟨gx, 13, none⟩ = some (.int .i64 (solLen l)))
        ((refine KP.out _ ?_; (repeat (with_reducible first | assumption | exact Below.refl _ _ | apply below_alloc | apply below_drew))))
        (first
          | (go_at_call 63; refine (part_calls _ _ _ _ _ _ _ _ _ _ _ _ _ _ _ _ rfl rfl x1 x2 ?p1 ?p2 ?p3 ?p4 _).mono ?_; (case p1 => omega); (case p2 => omega); (case p3 => omega); (case p4 => omega); rintro e w2 ⟨rfl, hb1⟩; have hS : Below wr.heap.size wr w2 := (by refine below_then ?hx (Below.size ?hx) hb1; case hx => (repeat (with_reducible first | assumption | exact Below.refl _ _ | apply below_alloc | apply below_drew))); (first | (refine lay (T := Aside0 (w2.heap[wr.heap.size]? = some (.cells #[.int .i64 0, .int .i64 (solLen l)] 33 (0, 0)))) ?lp ?_; (case lp => (refine ⟨blk_below ?_ hb1⟩; (repeat (with_reducible first | (refine blk_newi _ ?_; simp; done) | refine blk_drewN ?_ _ | refine blk_drew ?_ | refine blk_alloc ?_ _)); done)); intro PX0) | skip); clear hb1)
          | (go_at_call 62; refine (svol_calls _ _ l _ _ _ _ _ _ _ _ _ _ _ _ _ _ _ _ _ _ _ _ _ [⟨0, solLen l⟩] (by simp) _ ?c1 ?c2).mono ?_; (case c2 => first | (refine C_one (t := 33) (cs := #[.int .i64 0, .int .i64 (solLen l)]) ?_ (kSp_mk _ ⟨0, solLen l⟩); (repeat (with_reducible first | (refine blk_newi _ ?_; simp; done) | refine blk_drewN ?_ _ | refine blk_drew ?_ | refine blk_alloc ?_ _)); done) | (refine C_one (t := 33) (cs := #[.int .i64 0, .int .i64 (solLen l)]) ?_ (kSp_mk _ ⟨0, solLen l⟩); have h := PX0.out; (repeat (with_reducible first | exact h | (refine blk_newi _ ?_; simp; done) | refine blk_drewN ?_ _ | refine blk_drew ?_ | refine blk_alloc ?_ _)); done)); (case c1 => (go_split_ands; refine Kd.C_below HL.out (below_then HB.out HB.out.size ?_); (repeat (with_reducible first | assumption | exact Below.refl _ _ | apply below_alloc | apply below_drew)))); rintro e w3 ⟨he, hb1⟩; have he' : e = .returned (.int .i64 V) := he.trans (by rw [HV.out]; exact congrArg (fun q => Ending.returned (.int .i64 q)) (vols_one l _ ⟨0, solLen l⟩)); subst he'; have hS3 : Below wr.heap.size wr w3 := (by refine below_then ?hx (Below.size ?hx) hb1; case hx => (repeat (with_reducible first | assumption | exact Below.refl _ _ | apply below_alloc | apply below_drew))); clear he hb1))
      all_goals (
        have HB3 := Aside0.mk (below_then HB.out HB.out.size hS3)
        have HK3 := Aside0.mk (HK.out.trans (KeepBut.of_below hS3 go none) (.inl rfl))
        have HO3 := Aside0.mk (blk_below HO.out hS3)
        have HC3 := Aside0.mk (Kd.R_below HC.out hS3)
        have HD3 := Aside0.mk (Kd.R_below HD.out hS3)
        have HR3 := Aside0.mk (KeepBut.blk HK3.out HR.out hgt (by simp))
        clear hS3 i1
        go_split_ands
        have HCE := Aside0.mk (show ((List.range (k + 1)).map fun j => chip * volOf l (partOf ⟨⟨xa, xb⟩, ⟨ya, yb⟩⟩ ((j : Nat)) ((j : Nat) + 1)) ⟨0, solLen l⟩) = ((List.range k).map fun j => chip * volOf l (partOf ⟨⟨xa, xb⟩, ⟨ya, yb⟩⟩ ((j : Nat)) ((j : Nat) + 1)) ⟨0, solLen l⟩) ++ [chip * V] by rw [range_snoc, HV.out])
        have HDE := Aside0.mk (show ((List.range (k + 1)).map fun j => dust * volOf l (partOf ⟨⟨xa, xb⟩, ⟨ya, yb⟩⟩ ((j : Nat)) ((j : Nat) + 1)) ⟨0, solLen l⟩) = ((List.range k).map fun j => dust * volOf l (partOf ⟨⟨xa, xb⟩, ⟨ya, yb⟩⟩ ((j : Nat)) ((j : Nat) + 1)) ⟨0, solLen l⟩) ++ [dust * V] by rw [range_snoc, HV.out])
        have mc := mul_in t1 t2 (show -700000000000 ≤ V by omega) vb2
        have md := mul_in t3 t4 (show -700000000000 ≤ V by omega) vb2
        obtain ⟨mc1, mc2⟩ := mc
        obtain ⟨md1, md2⟩ := md
        have hLC := Aside0.mk (show (((List.range k).map fun j => chip * volOf l (partOf ⟨⟨xa, xb⟩, ⟨ya, yb⟩⟩ ((j : Nat)) ((j : Nat) + 1)) ⟨0, solLen l⟩).length + 1) * 8 ≤ 140737488355328 by simp; omega)
        have hLD := Aside0.mk (show (((List.range k).map fun j => dust * volOf l (partOf ⟨⟨xa, xb⟩, ⟨ya, yb⟩⟩ ((j : Nat)) ((j : Nat) + 1)) ⟨0, solLen l⟩).length + 1) * 8 ≤ 140737488355328 by simp; omega)
        have ho5 : w3.cell? ⟨go, 5, none⟩ = some (vc) := (blk_cell HO3.out 5).trans rfl
        have hof5 : w3.frozen? ⟨go, 5, none⟩ = false := blk_frozen HO3.out 5
        have ho6 : w3.cell? ⟨go, 6, none⟩ = some (vd) := (blk_cell HO3.out 6).trans rfl
        have hof6 : w3.frozen? ⟨go, 6, none⟩ = false := blk_frozen HO3.out 6
        have hr0 : w3.cell? ⟨gt, 0, none⟩ = some (.int .i64 chip) := (blk_cell HR3.out 0).trans rfl
        have hr1 : w3.cell? ⟨gt, 1, none⟩ = some (.int .i64 dust) := (blk_cell HR3.out 1).trans rfl
        clear HXr HO HC HD HB HK
        have T1 : Aside0 (∀ (ops : Array Oper) (Q : Exit → Act → World → Prop) (o : Oper) (rest : List Oper) (a : Act), o.guard = none → o.op = .call { callee := .builtin .append, args := #[.tmp 125, .tmp 130], argTypes := #[25, 25] } → a.eval (.tmp 125) = vc → a.eval (.tmp 130) = .slice (some ⟨w3.heap.size, 0, none⟩) 1 1 → (∀ v1 w4, (Kd.int .i64).R 3 w4 w.heap.size (fun q => w1.heap.size ≤ q ∧ some q ≠ vd.ownBlock) v1 (((List.range k).map fun j => chip * volOf l (partOf ⟨⟨xa, xb⟩, ⟨ya, yb⟩⟩ ((j : Nat)) ((j : Nat) + 1)) ⟨0, solLen l⟩) ++ [chip * V]) → Below w.heap.size w w4 → w3.grownBy w4 vc.ownBlock → (v1.ownBlock = vc.ownBlock ∨ ∃ b, v1.ownBlock = some b ∧ w3.heap.size ≤ b) → wpList Tryd.prog ops Q rest (a.put o.dst v1) w4) → wpList Tryd.prog ops Q (o :: rest) a (w3.alloc (.cells #[.int .i64 (chip * V)] 3))) := by
          refine ⟨fun ops Q o rest a hg ho h1 h2 h => ?_⟩
          exact Kd.R_append (Kd.int .i64) (w0 := w) w.heap.size hg (.tmp 125) (.tmp 130) 25 3 (.int .i64 0) 8 ho Tryd.underlying25 infoInt rfl (by decide) (by decide) vc ((List.range k).map fun j => chip * volOf l (partOf ⟨⟨xa, xb⟩, ⟨ya, yb⟩⟩ ((j : Nat)) ((j : Nat) + 1)) ⟨0, solLen l⟩) (chip * V) [.int .i64 (chip * V)] (fun q => w1.heap.size ≤ q ∧ some q ≠ vd.ownBlock) (fun _ => False) h1 h2 rfl (fun q hq => hq.elim) (fun q hq => ⟨Nat.le_trans HK3.out.1 hq, fun e => by have := Kd.R_lt HD3.out q e.symm; omega⟩) HC3.out HB3.out HB3.out.size hLC.out h
        go_upto_region 24 with (first
          | (at_builtin
             refine T1.out _ _ _ _ _ rfl rfl rfl rfl ?_
             intro v1 w4 ho hb hg hat
             obtain ⟨A1, na, c1, rfl⟩ : ∃ A1 nn c1, v1 = .slice A1 nn c1 := (by obtain ⟨A1, c1, e⟩ := Kd.R_slice ho; exact ⟨A1, _, c1, e⟩)
             have HK4 := Aside0.mk (HK3.out.trans (KeepBut.of_grown hg go) (by cases hv : vc.ownBlock with | none => exact Or.inl rfl | some q => exact Or.inr ⟨q, rfl, (HC3.out.1 q hv).1⟩))
             have HO4 := Aside0.mk (blk_grown HO3.out hg (fun e => by have := (HC3.out.1 go e.symm).1; omega))
             have HC4 := Aside0.mk ho
             have HD4 := Aside0.mk (Kd.R_after (ok := fun q => w1.heap.size ≤ q) HD3.out hg hat)
             have HB4 := Aside0.mk hb
             have ho5 := (blk_cell HO4.out 5).trans rfl
             have hof5 := blk_frozen HO4.out 5
             clear ho hb hg hat T1))
        clear ho5 hof5 ho6 hof6 hr0 hr1
        have HC5 := Aside0.mk (Kd.R_far (p := ⟨go, 5, none⟩) HC4.out (fun q hq => by show q ≠ go; omega) (.slice A1 na c1))
        have HD5 := Aside0.mk (Kd.R_far (p := ⟨go, 5, none⟩) HD4.out (fun q hq => by show q ≠ go; omega) (.slice A1 na c1))
        have HK5 := Aside0.mk (HK4.out.set_ 5 (.slice A1 na c1))
        clear HC4 HD4 HK4 HC3 HD3 HK3 HO3 HB3 HR3
        have HB4_ := Aside0.mk (below_set (j := 5) (v := .slice A1 na c1) HB4.out hgo)
        have HO4_ := Aside0.mk (blk_put (cs' := #[.int .i64 len, .int .i64 kf, .int .i64 1, vS, vG, .slice A1 na c1, vd]) HO4.out 5 (.slice A1 na c1) rfl)
        generalize (w4).setCell ⟨go, 5, none⟩ (.slice A1 na c1) = w5 at *
        clear HB4
        have HB4 := HB4_
        clear HB4_
        clear HO4
        have HO4 := HO4_
        clear HO4_
        have HR5 := Aside0.mk (KeepBut.blk HK5.out HR.out hgt (by simp))
        have ho6 : w5.cell? ⟨go, 6, none⟩ = some (vd) := (blk_cell HO4.out 6).trans rfl
        have hof6 : w5.frozen? ⟨go, 6, none⟩ = false := blk_frozen HO4.out 6
        have hr1 : w5.cell? ⟨gt, 1, none⟩ = some (.int .i64 dust) := (blk_cell HR5.out 1).trans rfl
        have T2 : Aside0 (∀ (ops : Array Oper) (Q : Exit → Act → World → Prop) (o : Oper) (rest : List Oper) (a : Act), o.guard = none → o.op = .call { callee := .builtin .append, args := #[.tmp 134, .tmp 139], argTypes := #[25, 25] } → a.eval (.tmp 134) = vd → a.eval (.tmp 139) = .slice (some ⟨w5.heap.size, 0, none⟩) 1 1 → (∀ v1 w6, (Kd.int .i64).R 3 w6 w.heap.size (fun q => w1.heap.size ≤ q ∧ some q ≠ (Value.slice A1 na c1).ownBlock) v1 (((List.range k).map fun j => dust * volOf l (partOf ⟨⟨xa, xb⟩, ⟨ya, yb⟩⟩ ((j : Nat)) ((j : Nat) + 1)) ⟨0, solLen l⟩) ++ [dust * V]) → Below w.heap.size w w6 → w5.grownBy w6 vd.ownBlock → (v1.ownBlock = vd.ownBlock ∨ ∃ b, v1.ownBlock = some b ∧ w5.heap.size ≤ b) → wpList Tryd.prog ops Q rest (a.put o.dst v1) w6) → wpList Tryd.prog ops Q (o :: rest) a (w5.alloc (.cells #[.int .i64 (dust * V)] 3))) := by
          refine ⟨fun ops Q o rest a hg ho h1 h2 h => ?_⟩
          exact Kd.R_append (Kd.int .i64) (w0 := w) w.heap.size hg (.tmp 134) (.tmp 139) 25 3 (.int .i64 0) 8 ho Tryd.underlying25 infoInt rfl (by decide) (by decide) vd ((List.range k).map fun j => dust * volOf l (partOf ⟨⟨xa, xb⟩, ⟨ya, yb⟩⟩ ((j : Nat)) ((j : Nat) + 1)) ⟨0, solLen l⟩) (dust * V) [.int .i64 (dust * V)] (fun q => w1.heap.size ≤ q ∧ some q ≠ (Value.slice A1 na c1).ownBlock) (fun _ => False) h1 h2 rfl (fun q hq => hq.elim) (fun q hq => ⟨Nat.le_trans HK5.out.1 hq, fun e => by have := Kd.R_lt HC5.out q e.symm; omega⟩) HD5.out HB4.out HB4.out.size hLD.out h
        go_wp2_with (first
          | (at_builtin
             refine T2.out _ _ _ _ _ rfl rfl rfl rfl ?_
             intro v1 w6 ho hb hg hat
             obtain ⟨A2, nb, c2, rfl⟩ : ∃ A1 nn c1, v1 = .slice A1 nn c1 := (by obtain ⟨A1, c1, e⟩ := Kd.R_slice ho; exact ⟨A1, _, c1, e⟩)
             have HK6 := Aside0.mk (HK5.out.trans (KeepBut.of_grown hg go) (by cases hv : vd.ownBlock with | none => exact Or.inl rfl | some q => exact Or.inr ⟨q, rfl, (HD5.out.1 q hv).1⟩))
             have HO6 := Aside0.mk (blk_grown HO4.out hg (fun e => by have := (HD5.out.1 go e.symm).1; omega))
             have HD6 := Aside0.mk ho
             have HC6 := Aside0.mk (Kd.R_after (ok := fun q => w1.heap.size ≤ q) HC5.out hg hat)
             have HB6 := Aside0.mk hb
             have ho6 := (blk_cell HO6.out 6).trans rfl
             have hof6 := blk_frozen HO6.out 6
             clear ho hb hg hat T2))
        have HC7 := Aside0.mk (Kd.R_far (p := ⟨go, 6, none⟩) HC6.out (fun q hq => by show q ≠ go; omega) (.slice A2 nb c2))
        have HD7 := Aside0.mk (Kd.R_far (p := ⟨go, 6, none⟩) HD6.out (fun q hq => by show q ≠ go; omega) (.slice A2 nb c2))
        have HK7 := Aside0.mk (HK6.out.set_ 6 (.slice A2 nb c2))
        clear ho6 hof6 HC6 HD6 HK6 HC5 HD5 HK5 HO4 HB4
        have HB6_ := Aside0.mk (below_set (j := 6) (v := .slice A2 nb c2) HB6.out hgo)
        have HO6_ := Aside0.mk (blk_put (cs' := #[.int .i64 len, .int .i64 kf, .int .i64 1, vS, vG, .slice A1 na c1, .slice A2 nb c2]) HO6.out 6 (.slice A2 nb c2) rfl)
        generalize (w6).setCell ⟨go, 6, none⟩ (.slice A2 nb c2) = w7 at *
        clear HB6
        have HB6 := HB6_
        clear HB6_
        clear HO6
        have HO6 := HO6_
        clear HO6_
        rw [← HCE.out] at HC7
        rw [← HDE.out] at HD7
        go_roundw
        case rel => exact ⟨k + 1, _, _, by omega, by go_num, HK7, HB6, HO6, HC7, HD7⟩
        case measure => simp [intOf]; omega)
    · obtain rfl : (k : Int) = len := by omega
      go_wp2_with fail
      exact HEX.out _ _ _ _ _ _ _ _ _ _ _ _ _ _ _ _ _ _ _ _ _ _ _ _ _ _ _ _ _ _ _ _ _ _ _ vc vd _ HK.out HB.out HO.out (by have h := HC.out; simpa using h) (by have h := HD.out; simpa using h)
end Go.Proofs.YtngpoonjonojhaaDoor
/-! Words: what stands from a block on. -/
namespace Go.Proofs.YtngpoonjonojhaaDoor
open Go.RowKit Go.Proofs.YtngpoonjonojhaaDoorW.PrintWords Go.Proofs.YtngpoonjonojhaaDoorW.PrintLast
set_option linter.unusedVariables false
/-- The blocks from b on stand. -/
def Fr (b : Nat) (w W : World) : Prop := ∀ k, b ≤ k → k < w.heap.size → W.heap[k]? = w.heap[k]?
theorem Fr.refl (b : Nat) (w : World) : Fr b w w := fun _ _ _ => rfl
theorem Fr.of_below {b : Nat} {w W : World} (h : Below w.heap.size w W) : Fr b w W := fun k _ hk => h.block k hk
theorem Fr.set_ {b : Nat} {w W : World} (h : Fr b w W) {g : Nat} (hg : g < b) (j : Nat) (v : Value) : Fr b w (W.setCell ⟨g, j, none⟩ v) := fun k h1 h2 => (Below.heap_setCell W ⟨g, j, none⟩ v k (show k ≠ g by omega)).trans (h k h1 h2)
theorem Fr.mono {b b' : Nat} {w W : World} (h : Fr b w W) (hb : b ≤ b') : Fr b' w W := fun k h1 h2 => h k (by omega) h2
theorem R_fr {α : Type} {d : Kd α} {e base : Nat} {ok : Nat → Prop} {w W : World} {v : Value} {xs : List α} (h : d.R e w base ok v xs) (hf : Fr base w W) : d.R e W base ok v xs := Kd.R_mono (Kd.R_step (Kd.R_bound h) (fun k ho hlt => hf k ho.2.1 hlt)) (fun k hk => hk.1)
theorem own_fr {α : Type} {R : α → List Value → Prop} {e size base : Nat} {w W : World} {v : Value} {ps : List α} (h : OwnRow R e size w base v ps) (hf : Fr base w W) : OwnRow R e size W base v ps := by
  obtain ⟨inner, ho, hr⟩ := h
  refine ⟨inner, own_move ho (fun k hk => ?_), hr⟩
  obtain ⟨cells, hc⟩ := own_typed ho k hk
  exact hf k (own_base ho k hk) (blk_lt hc)
end Go.Proofs.YtngpoonjonojhaaDoor
