/- Walks: the gains of a line. -/
import Derived.Test.YtngpoonjonojhaaDoorE20
import Derived.Deep.CutBlock
import Derived.Deep.DeepCutAuto
set_option linter.all false
namespace Go.Proofs.YtngpoonjonojhaaDoor
open Go.RowKit Go.Proofs.YtngpoonjonojhaaDoorW.PrintWords Go.Proofs.YtngpoonjonojhaaDoorW.PrintLast
set_option linter.unusedVariables false
def rowLen (len w : Int) : Nat := (mxi 0 (len - w + 1)).toNat
/-- The first k rows of gains. -/
def gainsTo (l : List Slc) (d : List Dft) (ps : List Prod) (sizes prods : List Int) (len : Int) (r : Rect) (s : Sw) (t : Rt) : Nat → List (List Int)
  | 0 => []
  | k + 1 => gainsTo l d ps sizes prods len r s t k ++ [(List.range (rowLen len (rdI sizes k))).map fun j => gainOf l d (rd_Prod ps (rdI prods k)) r s t (j : Nat) (rdI sizes k)]
theorem gainsTo_len (l : List Slc) (d : List Dft) (ps : List Prod) (sizes prods : List Int) (len : Int) (r : Rect) (s : Sw) (t : Rt) : ∀ k, (gainsTo l d ps sizes prods len r s t k).length = k
  | 0 => rfl
  | k + 1 => by simp [gainsTo, gainsTo_len l d ps sizes prods len r s t k]
theorem row_made (W : World) (base m : Nat) (hb : base ≤ W.heap.size) (hm : m ≤ 1000000) (ok : Nat → Prop) (hok : ok W.heap.size) : (Kd.int .i64).R 3 (W.alloc (.cells (madeCells #[.int .i64 0] m) 3)) base ok (.slice (some ⟨W.heap.size, 0, none⟩) m m) (List.replicate m 0) :=
  Kd.R_of_own (by simpa using own_made_of (enc := Value.int .i64) (d := (0 : Int)) W base 3 m hb (by omega)) (fun k hk => by simp [Value.ownBlock] at hk; subst hk; exact hok)
theorem infoRow : (Tryd.prog.info? 25).map (fun i => (i.zero, i.size, i.bytes)) = some (some (.slice none 0 0), 1, 24) := by kernel_rfl
noncomputable def gainsBody : Code := (Tryd.f32.body.bind (loopAt 9)).getD .skip
set_option maxHeartbeats 8000000 in
set_option maxRecDepth 100000 in
theorem gains_loop (A : Option Addr) (c : Nat) (l : List Slc) (A' : Option Addr) (c' : Nat) (d : List Dft) (Aq : Option Addr) (cq : Nat) (ps : List Prod) (Ap : Option Addr) (cp : Nat) (prods : List Int) (As : Option Addr) (cs : Nat) (sizes : List Int) (xa xb ya yb kerf trim pitch step chip dust fine len kf : Int) (gx go : Nat)
    (x1 : -600 ≤ xa) (x2 : xa ≤ 600) (m1 : 0 ≤ trim) (m2 : trim ≤ 20) (m3 : 1 ≤ pitch) (t1 : 0 ≤ chip) (t2 : chip ≤ 1000) (t3 : 0 ≤ dust) (t4 : dust ≤ 1000) (l1 : 1 ≤ len) (l2 : len ≤ 1200)
    (HSL : Aside0 (sizes.length = prods.length)) (HSZ : Aside0 (∀ i : Nat, i < sizes.length → 0 ≤ rdI sizes i ∧ rdI sizes i ≤ 2000)) (HPZ : Aside0 (∀ i : Nat, i < prods.length → 0 ≤ rdI prods i ∧ rdI prods i < ps.length)) (hsl : sizes.length ≤ 16) (w w1 : World) (hgo : w.heap.size ≤ go) (hgx : gx ≠ go) (hgo1 : go < w1.heap.size)
    (HL : Aside0 (Kd.C kSlc w A l.length l)) (HD : Aside0 (Kd.C kDft w A' d.length d)) (HQ : Aside0 (Kd.C kProd w Aq ps.length ps)) (HN : Aside0 (∀ i, i < ps.length → (rd_Prod ps i).name.size ≤ 9223372036854775807))
    (HB : Aside0 (Below w.heap.size w w1)) (HX : Aside0 (w1.heap[gx]? = some (.cells #[.slice A l.length c, .slice A' d.length c', .int .i64 xa, .int .i64 xb, .int .i64 ya, .int .i64 yb, .int .i64 kerf, .int .i64 trim, .int .i64 pitch, .int .i64 step, .int .i64 chip, .int .i64 dust, .int .i64 fine, .int .i64 (solLen l)] 137 (0, 0)))) (HO : Aside0 (w1.heap[go]? = some (.cells #[.int .i64 len, .int .i64 kf, .int .i64 1, .slice As sizes.length cs, .slice none 0 0, .slice none 0 0, .slice none 0 0] 64 (0, 0)))) (HP : Aside0 (∀ W', KeepBut w1 W' go none → Kd.C (Kd.int .i64) W' Ap prods.length prods)) (HS : Aside0 (∀ W', KeepBut w1 W' go none → Kd.C (Kd.int .i64) W' As sizes.length sizes))
    (u0 u1 u3 u4 u5 u6 u7 u8 u9 u10 u11 u12 u13 u14 u18 u19 u20 u21 u22 u23 u24 u25 u26 u27 u28 u29 u30 u31 u32 u33 u34 u35 u36 u37 u38 u39 u40 u41 u42 u43 u44 u45 u46 u47 u48 u49 u50 u51 u52 u53 u54 u55 u56 u57 u58 u59 u60 u61 u62 u63 u64 u65 u66 u70 u71 u72 u73 u74 u75 u76 u77 u78 u79 u80 u81 u82 u83 u84 u85 u86 u87 u88 u89 u90 u91 u92 u93 u94 u95 u96 u97 u98 u99 u100 u101 u102 u103 u104 u105 u106 u107 u108 u109 u110 u111 u112 u113 u114 u115 u116 u117 u118 u119 u120 u121 u122 u123 u124 u125 u126 u127 u128 u129 u130 u131 u132 u133 u134 u135 u136 u137 u138 u139 u140 u141 u142 u143 : Value) (Q0 : Exit → Act → World → Prop)
    (hexit : ∀ (x18 x19 x20 x21 x69 x70 x71 x72 x73 x74 x75 x76 x77 x78 x79 x80 x81 x82 x83 x84 x85 x86 x87 x88 x89 x90 x91 x92 x93 x94 x95 x96 x97 x98 x99 x100 x101 x102 x103 x104 x105 x106 x107 : Value) (vg : Value) (w' : World), KeepBut w1 w' go none → Below w.heap.size w w' → w'.heap[go]? = some (.cells #[.int .i64 len, .int .i64 kf, .int .i64 1, .slice As sizes.length cs, vg, .slice none 0 0, .slice none 0 0] 64 (0, 0)) → (Kd.slice 3 (Kd.int .i64)).R 25 w' w.heap.size (fun k => w1.heap.size ≤ k) vg (gainsTo l d ps sizes prods len ⟨⟨xa, xb⟩, ⟨ya, yb⟩⟩ ⟨kerf, trim, pitch, step⟩ ⟨chip, dust, fine⟩ sizes.length) → Q0 (.exit 0) { tmps := (u0 :: u1 :: .slice Aq ps.length cq :: u3 :: u4 :: u5 :: u6 :: u7 :: u8 :: u9 :: u10 :: u11 :: u12 :: u13 :: u14 :: .pointer (some ⟨gx, 0, none⟩) :: .pointer (some ⟨go, 0, none⟩) :: .slice Ap prods.length cp :: x18 :: x19 :: x20 :: x21 :: u22 :: u23 :: u24 :: u25 :: u26 :: u27 :: u28 :: u29 :: u30 :: u31 :: u32 :: u33 :: u34 :: u35 :: u36 :: u37 :: u38 :: u39 :: u40 :: u41 :: u42 :: u43 :: u44 :: u45 :: u46 :: u47 :: u48 :: u49 :: u50 :: u51 :: u52 :: u53 :: u54 :: u55 :: u56 :: u57 :: u58 :: u59 :: u60 :: u61 :: u62 :: u63 :: u64 :: u65 :: u66 :: .slice As sizes.length cs :: .int .i64 (sizes.length : Nat) :: x69 :: x70 :: x71 :: x72 :: x73 :: x74 :: x75 :: x76 :: x77 :: x78 :: x79 :: x80 :: x81 :: x82 :: x83 :: x84 :: x85 :: x86 :: x87 :: x88 :: x89 :: x90 :: x91 :: x92 :: x93 :: x94 :: x95 :: x96 :: x97 :: x98 :: x99 :: x100 :: x101 :: x102 :: x103 :: x104 :: x105 :: x106 :: x107 :: u108 :: u109 :: u110 :: u111 :: u112 :: u113 :: u114 :: u115 :: u116 :: u117 :: u118 :: u119 :: u120 :: u121 :: u122 :: u123 :: u124 :: u125 :: u126 :: u127 :: u128 :: u129 :: u130 :: u131 :: u132 :: u133 :: u134 :: u135 :: u136 :: u137 :: u138 :: u139 :: u140 :: u141 :: u142 :: u143 :: []).toArray, defers := [] } w') :
    Code.wp Tryd.prog (Code.loop gainsBody) Q0 { tmps := (u0 :: u1 :: .slice Aq ps.length cq :: u3 :: u4 :: u5 :: u6 :: u7 :: u8 :: u9 :: u10 :: u11 :: u12 :: u13 :: u14 :: .pointer (some ⟨gx, 0, none⟩) :: .pointer (some ⟨go, 0, none⟩) :: .slice Ap prods.length cp :: u18 :: u19 :: u20 :: u21 :: u22 :: u23 :: u24 :: u25 :: u26 :: u27 :: u28 :: u29 :: u30 :: u31 :: u32 :: u33 :: u34 :: u35 :: u36 :: u37 :: u38 :: u39 :: u40 :: u41 :: u42 :: u43 :: u44 :: u45 :: u46 :: u47 :: u48 :: u49 :: u50 :: u51 :: u52 :: u53 :: u54 :: u55 :: u56 :: u57 :: u58 :: u59 :: u60 :: u61 :: u62 :: u63 :: u64 :: u65 :: u66 :: .slice As sizes.length cs :: .int .i64 (sizes.length : Nat) :: .int .i64 0 :: u70 :: u71 :: u72 :: u73 :: u74 :: u75 :: u76 :: u77 :: u78 :: u79 :: u80 :: u81 :: u82 :: u83 :: u84 :: u85 :: u86 :: u87 :: u88 :: u89 :: u90 :: u91 :: u92 :: u93 :: u94 :: u95 :: u96 :: u97 :: u98 :: u99 :: u100 :: u101 :: u102 :: u103 :: u104 :: u105 :: u106 :: u107 :: u108 :: u109 :: u110 :: u111 :: u112 :: u113 :: u114 :: u115 :: u116 :: u117 :: u118 :: u119 :: u120 :: u121 :: u122 :: u123 :: u124 :: u125 :: u126 :: u127 :: u128 :: u129 :: u130 :: u131 :: u132 :: u133 :: u134 :: u135 :: u136 :: u137 :: u138 :: u139 :: u140 :: u141 :: u142 :: u143 :: []).toArray, defers := [] } w1 := by
  conv => arg 2; arg 1; whnf
  have HEX := Aside0.mk hexit
  clear hexit
  go_loopw [69] (fun i wr => ∃ (k : Nat) (vg : Value), k ≤ sizes.length ∧ i = .int .i64 (k : Nat) ∧ Aside0 (KeepBut w1 wr go none) ∧ Aside0 (Below w.heap.size w wr) ∧ Aside0 (wr.heap[go]? = some (.cells #[.int .i64 len, .int .i64 kf, .int .i64 1, .slice As sizes.length cs, vg, .slice none 0 0, .slice none 0 0] 64 (0, 0))) ∧ Aside0 ((Kd.slice 3 (Kd.int .i64)).R 25 wr w.heap.size (fun k => w1.heap.size ≤ k) vg (gainsTo l d ps sizes prods len ⟨⟨xa, xb⟩, ⟨ya, yb⟩⟩ ⟨kerf, trim, pitch, step⟩ ⟨chip, dust, fine⟩ k))) (fun i _ => sizes.length - (intOf i).toNat)
  case atStart => exact ⟨0, .slice none 0 0, by omega, rfl, ⟨KeepBut.refl _ _ _⟩, HB, HO, ⟨Kd.R_nil _ _ _ _ _⟩⟩
  case round =>
    clear HB HO
    obtain ⟨k, vg, hk, rfl, HK, HB, HO, HG⟩ := hrel
    by_cases hlt : k < sizes.length
    · obtain ⟨ax, rfl, hsi⟩ := Kd.at_int (HS.out wr HK.out) (k : Int) (by omega) (by omega)
      obtain ⟨wd, hwd⟩ : ∃ wd, wd = rdI sizes (k : Nat) := ⟨_, rfl⟩
      obtain ⟨ix, hix⟩ : ∃ ix, ix = rdI prods (k : Nat) := ⟨_, rfl⟩
      replace hsi : _ = some (Value.int .i64 wd) := hsi.trans (by rw [hwd]; rfl)
      have hw1 : 0 ≤ wd ∧ wd ≤ 2000 := by rw [hwd]; exact HSZ.out k hlt
      have hp1 : 0 ≤ ix ∧ ix < ps.length := by rw [hix]; exact HPZ.out k (by rw [← HSL.out]; exact hlt)
      obtain ⟨w1', w2'⟩ := hw1
      obtain ⟨p1', p2'⟩ := hp1
      simp only [Int.toNat_natCast] at hsi
      have ho0 : wr.cell? ⟨go, 0, none⟩ = some (.int .i64 len) := (blk_cell HO.out 0).trans rfl
      have hof0 : wr.frozen? ⟨go, 0, none⟩ = false := blk_frozen HO.out 0
      have ho4 : wr.cell? ⟨go, 4, none⟩ = some (vg) := (blk_cell HO.out 4).trans rfl
      have hof4 : wr.frozen? ⟨go, 4, none⟩ = false := blk_frozen HO.out 4
      obtain ⟨n, hn⟩ : ∃ n, n = rowLen len wd := ⟨_, rfl⟩
      have HT := Aside0.mk (show gainsTo l d ps sizes prods len ⟨⟨xa, xb⟩, ⟨ya, yb⟩⟩ ⟨kerf, trim, pitch, step⟩ ⟨chip, dust, fine⟩ (k + 1) = gainsTo l d ps sizes prods len ⟨⟨xa, xb⟩, ⟨ya, yb⟩⟩ ⟨kerf, trim, pitch, step⟩ ⟨chip, dust, fine⟩ k ++ [(List.range n).map fun j => gainOf l d (rd_Prod ps ix) ⟨⟨xa, xb⟩, ⟨ya, yb⟩⟩ ⟨kerf, trim, pitch, step⟩ ⟨chip, dust, fine⟩ (j : Nat) wd] by rw [hn, hwd, hix]; rfl)
      have hn2 : n ≤ 1201 := by rw [hn]; unfold rowLen mxi; split <;> omega
      have hmk := print_make (P := Tryd.prog) 25 3 .i64 8 Tryd.underlying25 infoInt (by decide) n (by omega)
      have hn3 : (0 < len - wd + 1 ∧ (n : Int) = len - wd + 1) ∨ (len - wd + 1 ≤ 0 ∧ n = 0) := by
        rw [hn]; unfold rowLen mxi
        by_cases g : 0 < len - wd + 1
        · rw [if_pos g]; exact Or.inl ⟨g, by omega⟩
        · rw [if_neg g]; exact Or.inr ⟨by omega, rfl⟩
      clear hn
      have hn4 : (0 < len - wd + 1 ∧ ∀ W : World, (Instr.makeSlice 25 (.int .i64 (len - wd + 1)) (.int .i64 (len - wd + 1))).run Tryd.prog W = .ok (.slice (some ⟨W.heap.size, 0, none⟩) n n) (W.alloc (.cells (madeCells #[.int .i64 0] n) 3))) ∨ (len - wd + 1 ≤ 0 ∧ ∀ W : World, (Instr.makeSlice 25 (.int .i64 0) (.int .i64 0)).run Tryd.prog W = .ok (.slice (some ⟨W.heap.size, 0, none⟩) n n) (W.alloc (.cells (madeCells #[.int .i64 0] n) 3))) := by
        rcases hn3 with ⟨g, e⟩ | ⟨g, e⟩
        · exact Or.inl ⟨g, by rw [← e]; exact hmk⟩
        · exact Or.inr ⟨g, by have h := hmk; rw [e] at h ⊢; exact h⟩
      clear hn3 hmk
      have HIX := Aside0.mk hix.symm
      clear hwd hix
      have hgr := blk_lt HO.out
      rcases hn4 with ⟨g1, hmk⟩ | ⟨g1, hmk⟩
      all_goals go_upto_region 12 with (fail)
      all_goals clear hmk hsi
      all_goals have HB6 := Aside0.mk (below_alloc HB.out (.cells (madeCells #[.int .i64 0] n) 3))
      all_goals have HK6 := Aside0.mk (keep_alloc HK.out (.cells (madeCells #[.int .i64 0] n) 3))
      all_goals have HO6 := Aside0.mk (blk_alloc HO.out (.cells (madeCells #[.int .i64 0] n) 3))
      all_goals have HG6 := Aside0.mk (Kd.R_alloc (Kd.R_bound HG.out) (.cells (madeCells #[.int .i64 0] n) 3))
      all_goals have HW6 := Aside0.mk (row_made wr w.heap.size n HB.out.size (by omega) (fun k => w1.heap.size ≤ k ∧ wr.heap.size ≤ k) ⟨HK.out.1, Nat.le_refl _⟩)
      all_goals have hgg : w1.heap.size ≤ wr.heap.size := HK.out.1
      all_goals have hgw : w.heap.size ≤ wr.heap.size := HB.out.size
      all_goals have hgxr : wr.heap.size ≠ gx := fun e => by have := blk_lt (KeepBut.blk HK.out HX.out hgx (by simp)); omega
      all_goals have HX6 := Aside0.mk (KeepBut.blk HK6.out HX.out hgx (by simp))
      all_goals clear HB HK HO HG ho0 ho4 hof0 hof4
      all_goals generalize wr.alloc (.cells (madeCells #[.int .i64 0] n) 3) = w6 at *
      all_goals generalize wr.heap.size = gr at *
      all_goals go_wp2_with fail
      all_goals (
        refine fill_loop A c l A' c' d Aq cq ps Ap cp prods xa xb ya yb kerf trim pitch step chip dust fine (k : Nat) ix wd n gx gr w.heap.size (fun q => w1.heap.size ≤ q ∧ gr ≤ q) x1 x2 m1 m2 m3 t1 t2 t3 t4 w1' w2' (by omega) (by omega) (by have := HSL.out; omega) HIX p1' p2' w w6 hgw hgxr HL HD HQ HN HB6 HX6 ⟨fun W' hk => HP.out W' (keep_new HK6.out hk hgg)⟩ HW6 _ _ _ _ _ _ _ _ _ _ _ _ _ _ _ _ _ _ _ _ _ _ _ _ _ _ _ _ _ _ _ _ _ _ _ _ _ _ _ _ _ _ _ _ _ _ _ _ _ _ _ _ _ _ _ _ _ _ _ _ _ _ _ _ _ _ _ _ _ _ _ _ _ _ _ _ _ _ _ _ _ _ _ _ _ _ _ _ _ _ _ _ _ _ _ _ _ _ _ _ _ _ _ _ _ _ _ _ _ _ _ _ _ _ _ _ _ _ _ _ _ _ _ _ _ _ _ _ _ _ _ _ _ _ _ _ _ ?_
        intro y21 y83 y84 y85 y86 y87 y88 y89 y90 y91 y92 y93 y94 y95 y96 y97 y98 y99 y100 w7 hk7 hb7 hw7
        have HK7 := Aside0.mk (keep_new HK6.out hk7 hgg)
        have HO7 := Aside0.mk (KeepBut.blk hk7 HO6.out (show go ≠ gr by omega) (by simp))
        have HGb := Aside0.mk (Kd.R_keep HG6.out hk7 (fun q ho => by have := ho.2.2.1; omega))
        have HW7 := Aside0.mk hw7
        have HB7 := Aside0.mk hb7
        clear hk7 hw7 hb7 HK6 HO6 HG6 HW6 HB6 HX6
        rw [rowTo_all] at HW7
        have HG7 := Aside0.mk (Kd.R_mono HGb.out (ok' := fun q => w1.heap.size ≤ q) (fun q h => h.1))
        have HR7 := Aside0.mk (show ∀ q, vg.ownBlock = some q → w1.heap.size ≤ q ∧ q < gr from fun q hq => ⟨(HGb.out.1 q hq).1, (HGb.out.1 q hq).2.2.1⟩)
        have hgo1 : go < w1.heap.size := hgo1
        have hLL := Aside0.mk (show ((gainsTo l d ps sizes prods len ⟨⟨xa, xb⟩, ⟨ya, yb⟩⟩ ⟨kerf, trim, pitch, step⟩ ⟨chip, dust, fine⟩ k).length + 1) * 24 ≤ 140737488355328 by rw [gainsTo_len]; omega)
        have T1 : Aside0 (∀ (ops : Array Oper) (Q : Exit → Act → World → Prop) (o : Oper) (rest : List Oper) (a : Act), o.guard = none → o.op = .call { callee := .builtin .append, args := #[.tmp 102, .tmp 104], argTypes := #[62, 62] } → a.eval (.tmp 102) = vg → a.eval (.tmp 104) = .slice (some ⟨w7.heap.size, 0, none⟩) 1 1 → (∀ v1 w8, (Kd.slice 3 (Kd.int .i64)).R 25 w8 w.heap.size (fun q => w1.heap.size ≤ q) v1 (gainsTo l d ps sizes prods len ⟨⟨xa, xb⟩, ⟨ya, yb⟩⟩ ⟨kerf, trim, pitch, step⟩ ⟨chip, dust, fine⟩ k ++ [(List.range n).map (fun j : Nat => gainOf l d (rd_Prod ps ix) ⟨⟨xa, xb⟩, ⟨ya, yb⟩⟩ ⟨kerf, trim, pitch, step⟩ ⟨chip, dust, fine⟩ (j : Nat) wd)]) → Below w.heap.size w w8 → w7.grownBy w8 vg.ownBlock → (v1.ownBlock = vg.ownBlock ∨ ∃ b, v1.ownBlock = some b ∧ w7.heap.size ≤ b) → wpList Tryd.prog ops Q rest (a.put o.dst v1) w8) → wpList Tryd.prog ops Q (o :: rest) a (w7.alloc (.cells #[.slice (some ⟨gr, 0, none⟩) n n] 25))) := by
          refine ⟨fun ops Q o rest a hg ho h1 h2 h => ?_⟩
          exact Kd.R_append (Kd.slice 3 (Kd.int .i64)) (w0 := w) w.heap.size hg (.tmp 102) (.tmp 104) 62 25 (.slice none 0 0) 24 ho Tryd.underlying62 infoRow rfl (by decide) (by decide) vg (gainsTo l d ps sizes prods len ⟨⟨xa, xb⟩, ⟨ya, yb⟩⟩ ⟨kerf, trim, pitch, step⟩ ⟨chip, dust, fine⟩ k) ((List.range n).map (fun j : Nat => gainOf l d (rd_Prod ps ix) ⟨⟨xa, xb⟩, ⟨ya, yb⟩⟩ ⟨kerf, trim, pitch, step⟩ ⟨chip, dust, fine⟩ (j : Nat) wd)) [.slice (some ⟨gr, 0, none⟩) n n] (fun q => w1.heap.size ≤ q) (fun q => w1.heap.size ≤ q ∧ gr ≤ q) h1 h2 (Kd.M_row HW7.out) (fun q hq => ⟨hq.1, fun e => by have := (HR7.out q e.symm).2; omega⟩) (fun q hq => Nat.le_trans HK7.out.1 hq) HG7.out HB7.out HB7.out.size hLL.out h
        have ho4 : w7.cell? ⟨go, 4, none⟩ = some (vg) := (blk_cell HO7.out 4).trans rfl
        have hof4 : w7.frozen? ⟨go, 4, none⟩ = false := blk_frozen HO7.out 4
        go_wp2_with (first
          | (at_builtin
             refine T1.out _ _ _ _ _ rfl rfl rfl rfl ?_
             intro v1 w8 ho hb hg hat
             obtain ⟨A1, nn, c1, rfl⟩ : ∃ A1 nn c1, v1 = .slice A1 nn c1 := (by obtain ⟨A1, c1, e⟩ := Kd.R_slice ho; exact ⟨A1, _, c1, e⟩)
             have HK8 := Aside0.mk (HK7.out.trans (KeepBut.of_grown hg go) (by cases hv : vg.ownBlock with | none => exact Or.inl rfl | some q => exact Or.inr ⟨q, rfl, (HR7.out q hv).1⟩))
             have HO8 := Aside0.mk (blk_grown HO7.out hg (fun e => by have := (HR7.out go e.symm).1; omega))
             have HG8 := Aside0.mk ho
             have HB8 := Aside0.mk hb
             have ho4 := (blk_cell HO8.out 4).trans rfl
             have hof4 := blk_frozen HO8.out 4
             clear ho hb hg hat T1))
        clear ho4 hof4 HO7
        have HG9 := Aside0.mk (Kd.R_far (p := ⟨go, 4, none⟩) HG8.out (fun q hq => by show q ≠ go; omega) (.slice A1 nn c1))
        have HK9 := Aside0.mk (HK8.out.set_ 4 (.slice A1 nn c1))
        have HB8_ := Aside0.mk (below_set (j := 4) (v := .slice A1 nn c1) HB8.out hgo)
        have HO8_ := Aside0.mk (blk_put (cs' := #[.int .i64 len, .int .i64 kf, .int .i64 1, .slice (some ax) sizes.length cs, .slice A1 nn c1, .slice none 0 0, .slice none 0 0]) HO8.out 4 (.slice A1 nn c1) rfl)
        generalize (w8).setCell ⟨go, 4, none⟩ (.slice A1 nn c1) = w9 at *
        clear HB8
        have HB8 := HB8_
        clear HB8_
        clear HO8
        have HO8 := HO8_
        clear HO8_
        rw [← HT.out] at HG9
        go_roundw
        case rel => exact ⟨k + 1, _, by omega, by go_num, HK9, HB8, HO8, HG9⟩
        case measure => simp [intOf]; omega)
    · obtain rfl : k = sizes.length := by omega
      go_wp2_with fail
      exact HEX.out _ _ _ _ _ _ _ _ _ _ _ _ _ _ _ _ _ _ _ _ _ _ _ _ _ _ _ _ _ _ _ _ _ _ _ _ _ _ _ _ _ _ _ vg _ HK.out HB.out HO.out HG.out
end Go.Proofs.YtngpoonjonojhaaDoor
