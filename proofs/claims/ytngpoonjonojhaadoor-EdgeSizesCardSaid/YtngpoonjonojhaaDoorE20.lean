/- Walks: one row of gains is filled. -/
import Derived.Test.YtngpoonjonojhaaDoorE18
import Derived.Test.YtngpoonjonojhaaDoorE19
import Derived.Deep.RegionHeld3
set_option linter.all false
namespace Go.Proofs.YtngpoonjonojhaaDoor
open Go.RowKit Go.Proofs.YtngpoonjonojhaaDoorW.PrintWords Go.Proofs.YtngpoonjonojhaaDoorW.PrintLast
set_option linter.unusedVariables false
/-- A row of numbers that is read whatever becomes of block g lies elsewhere. -/
theorem footNe {W : World} {g n : Nat} {ad : Addr} {xs : List Int} (h : ∀ W', KeepBut W W' g none → Kd.C (Kd.int .i64) W' (some ad) n xs) (hn : 0 < n) : ad.block ≠ g := by
  intro he
  have hk : KeepBut W { W with heap := W.heap.setIfInBounds g (.cells #[] 0) } g none := ⟨by simp, fun i _ hi _ => by simp [Ne.symm hi]⟩
  obtain ⟨ad', e, hc⟩ := (h _ hk).2.2 hn
  obtain rfl : ad = ad' := by injection e
  have hl := (h _ hk).1
  obtain ⟨c, hcl, _, hcell⟩ := hc 0 _ (List.getElem?_eq_getElem (by omega))
  have hc1 : c.length = 1 := hcl
  have h1 := hcell 0 _ (List.getElem?_eq_getElem (by omega))
  have h2 := World.block_lt_of_cell? _ _ h1
  simp only [Nat.zero_mul, Nat.zero_add, add_zero_] at h1 h2
  rw [he] at h2
  have h3 : g < W.heap.size := by simpa using h2
  simp [World.cell?, he, h3] at h1
/-- The body of the loop that begins with a region. -/
def loopAt (n : Nat) : Code → Option Code
  | .loop (.seq (.region k o f) b) => if k = n then some (.seq (.region k o f) b) else loopAt n b
  | .loop c => loopAt n c
  | .seq a b => match loopAt n a with
    | some c => some c
    | none => loopAt n b
  | .block _ c => loopAt n c
  | .scope c => loopAt n c
  | .cond _ a b => match loopAt n a with
    | some c => some c
    | none => loopAt n b
  | _ => none
/-- A row of n numbers, the first k of which are filled. -/
def rowTo (G : Nat → Int) (n k : Nat) : List Int := (List.range k).map G ++ List.replicate (n - k) 0
theorem rowTo_len {G : Nat → Int} {n k : Nat} (h : k ≤ n) : (rowTo G n k).length = n := by simp [rowTo]; omega
theorem rowTo_set {G : Nat → Int} {n k : Nat} (h : k < n) : (rowTo G n k).set k (G k) = rowTo G n (k + 1) := by
  unfold rowTo
  rw [List.set_append_right _ _ (by simp), List.range_succ, List.map_append, List.append_assoc]
  congr 1
  rw [show n - k = (n - (k + 1)) + 1 by omega, List.replicate_succ]
  simp
theorem rowTo_all {G : Nat → Int} {n : Nat} : rowTo G n n = (List.range n).map G := by simp [rowTo]
theorem keep_new {w5 W W' : World} {g gr : Nat} (h : KeepBut w5 W g none) (k : KeepBut W W' gr none) (hg : w5.heap.size ≤ gr) : KeepBut w5 W' g none :=
  ⟨Nat.le_trans h.1 k.1, fun i hi hig hr => (k.2 i (Nat.lt_of_lt_of_le hi h.1) (by omega) (by simp)).trans (h.2 i hi hig hr)⟩
theorem keep_cell {w X : World} {g : Nat} {p : Addr} {v : Value} (hk : KeepBut w X g none) (hc : w.cell? p = some v) (hp : p.block ≠ g) : X.cell? p = some v := (World.cell?_of_block (hk.2 p.block (World.block_lt_of_cell? w p hc) hp (by simp))).trans hc
theorem keep_below {w X X' : World} {g : Nat} (h : KeepBut w X g none) (hb : Below X.heap.size X X') : KeepBut w X' g none := h.trans (KeepBut.of_below hb g none) (.inl rfl)
theorem add_block (a : Addr) (k : Nat) : (a.add k).block = a.block := by unfold Addr.add; split <;> rfl
theorem row_cell {w : World} {base g n cap : Nat} {ok : Nat → Prop} {xs : List Int} (h : (Kd.int .i64).R 3 w base ok (.slice (some ⟨g, 0, none⟩) n cap) xs) (hn : xs.length = n) (k : Nat) (hk : k < n) : w.cell? ⟨g, k, none⟩ = some (.int .i64 (xs.getD k 0)) ∧ w.frozen? ⟨g, k, none⟩ = false := by
  subst hn
  have e := Kd.R_cell (0 : Int) h (k : Int) (by omega) (by omega)
  rw [Int.toNat_natCast] at e
  exact e
theorem row_put {w : World} {base g n cap : Nat} {ok : Nat → Prop} {xs : List Int} (h : (Kd.int .i64).R 3 w base ok (.slice (some ⟨g, 0, none⟩) n cap) xs) (hn : xs.length = n) (k : Nat) (x : Int) : (Kd.int .i64).R 3 (w.setCell ⟨g, k, none⟩ (.int .i64 x)) base ok (.slice (some ⟨g, 0, none⟩) n cap) (xs.set k x) := by
  subst hn
  have e := (Kd.R_put h (k : Int) x).1
  rw [Int.toNat_natCast] at e
  exact e
noncomputable def fillBody : Code := (Tryd.f32.body.bind (loopAt 13)).getD .skip
set_option maxHeartbeats 4000000 in
set_option maxRecDepth 100000 in
theorem fill_loop (A : Option Addr) (c : Nat) (l : List Slc) (A' : Option Addr) (c' : Nat) (d : List Dft) (Aq : Option Addr) (cq : Nat) (ps : List Prod) (Ap : Option Addr) (cp : Nat) (prods : List Int) (xa xb ya yb kerf trim pitch step chip dust fine i ix width : Int) (n gx gr base : Nat) (ok : Nat → Prop)
    (x1 : -600 ≤ xa) (x2 : xa ≤ 600) (m1 : 0 ≤ trim) (m2 : trim ≤ 20) (m3 : 1 ≤ pitch) (t1 : 0 ≤ chip) (t2 : chip ≤ 1000) (t3 : 0 ≤ dust) (t4 : dust ≤ 1000) (q3 : 0 ≤ width) (q4 : width ≤ 2000) (n1 : n ≤ 2000)
    (i1 : 0 ≤ i) (i2 : i < prods.length) (HIX : Aside0 (rdI prods i = ix)) (j1 : 0 ≤ ix) (j2 : ix < ps.length) (w w1 : World) (hbg : w.heap.size ≤ gr) (hrx : gr ≠ gx)
    (HL : Aside0 (Kd.C kSlc w A l.length l)) (HD : Aside0 (Kd.C kDft w A' d.length d)) (HQ : Aside0 (Kd.C kProd w Aq ps.length ps)) (HN : Aside0 (∀ i, i < ps.length → (rd_Prod ps i).name.size ≤ 9223372036854775807))
    (HB : Aside0 (Below w.heap.size w w1)) (HX : Aside0 (w1.heap[gx]? = some (.cells #[.slice A l.length c, .slice A' d.length c', .int .i64 xa, .int .i64 xb, .int .i64 ya, .int .i64 yb, .int .i64 kerf, .int .i64 trim, .int .i64 pitch, .int .i64 step, .int .i64 chip, .int .i64 dust, .int .i64 fine, .int .i64 (solLen l)] 137 (0, 0)))) (HP : Aside0 (∀ W', KeepBut w1 W' gr none → Kd.C (Kd.int .i64) W' Ap prods.length prods)) (HW : Aside0 ((Kd.int .i64).R 3 w1 base ok (.slice (some ⟨gr, 0, none⟩) n n) (rowTo (fun k => gainOf l d (rd_Prod ps ix) ⟨⟨xa, xb⟩, ⟨ya, yb⟩⟩ ⟨kerf, trim, pitch, step⟩ ⟨chip, dust, fine⟩ (k : Nat) width) n 0)))
    (u0 u1 u3 u4 u5 u6 u7 u8 u9 u10 u11 u12 u13 u14 u16 u21 u22 u23 u24 u25 u26 u27 u28 u29 u30 u31 u32 u33 u34 u35 u36 u37 u38 u39 u40 u41 u42 u43 u44 u45 u46 u47 u48 u49 u50 u51 u52 u53 u54 u55 u56 u57 u58 u59 u60 u61 u62 u63 u64 u65 u66 u67 u68 u69 u70 u71 u72 u73 u74 u75 u76 u77 u78 u79 u80 u81 u84 u85 u86 u87 u88 u89 u90 u91 u92 u93 u94 u95 u96 u97 u98 u99 u100 u101 u102 u103 u104 u105 u106 u107 u108 u109 u110 u111 u112 u113 u114 u115 u116 u117 u118 u119 u120 u121 u122 u123 u124 u125 u126 u127 u128 u129 u130 u131 u132 u133 u134 u135 u136 u137 u138 u139 u140 u141 u142 u143 : Value) (Q0 : Exit → Act → World → Prop)
    (hexit : ∀ (x21 x83 x84 x85 x86 x87 x88 x89 x90 x91 x92 x93 x94 x95 x96 x97 x98 x99 x100 : Value) (w' : World), KeepBut w1 w' gr none → Below w.heap.size w w' → (Kd.int .i64).R 3 w' base ok (.slice (some ⟨gr, 0, none⟩) n n) (rowTo (fun k => gainOf l d (rd_Prod ps ix) ⟨⟨xa, xb⟩, ⟨ya, yb⟩⟩ ⟨kerf, trim, pitch, step⟩ ⟨chip, dust, fine⟩ (k : Nat) width) n n) → Q0 (.exit 2) { tmps := (u0 :: u1 :: .slice Aq ps.length cq :: u3 :: u4 :: u5 :: u6 :: u7 :: u8 :: u9 :: u10 :: u11 :: u12 :: u13 :: u14 :: .pointer (some ⟨gx, 0, none⟩) :: u16 :: .slice Ap prods.length cp :: .int .i64 i :: .int .i64 width :: .slice (some ⟨gr, 0, none⟩) n n :: x21 :: u22 :: u23 :: u24 :: u25 :: u26 :: u27 :: u28 :: u29 :: u30 :: u31 :: u32 :: u33 :: u34 :: u35 :: u36 :: u37 :: u38 :: u39 :: u40 :: u41 :: u42 :: u43 :: u44 :: u45 :: u46 :: u47 :: u48 :: u49 :: u50 :: u51 :: u52 :: u53 :: u54 :: u55 :: u56 :: u57 :: u58 :: u59 :: u60 :: u61 :: u62 :: u63 :: u64 :: u65 :: u66 :: u67 :: u68 :: u69 :: u70 :: u71 :: u72 :: u73 :: u74 :: u75 :: u76 :: u77 :: u78 :: u79 :: u80 :: u81 :: .int .i64 (n : Nat) :: x83 :: x84 :: x85 :: x86 :: x87 :: x88 :: x89 :: x90 :: x91 :: x92 :: x93 :: x94 :: x95 :: x96 :: x97 :: x98 :: x99 :: x100 :: u101 :: u102 :: u103 :: u104 :: u105 :: u106 :: u107 :: u108 :: u109 :: u110 :: u111 :: u112 :: u113 :: u114 :: u115 :: u116 :: u117 :: u118 :: u119 :: u120 :: u121 :: u122 :: u123 :: u124 :: u125 :: u126 :: u127 :: u128 :: u129 :: u130 :: u131 :: u132 :: u133 :: u134 :: u135 :: u136 :: u137 :: u138 :: u139 :: u140 :: u141 :: u142 :: u143 :: []).toArray, defers := [] } w') :
    Code.wp Tryd.prog (Code.loop fillBody) Q0 { tmps := (u0 :: u1 :: .slice Aq ps.length cq :: u3 :: u4 :: u5 :: u6 :: u7 :: u8 :: u9 :: u10 :: u11 :: u12 :: u13 :: u14 :: .pointer (some ⟨gx, 0, none⟩) :: u16 :: .slice Ap prods.length cp :: .int .i64 i :: .int .i64 width :: .slice (some ⟨gr, 0, none⟩) n n :: u21 :: u22 :: u23 :: u24 :: u25 :: u26 :: u27 :: u28 :: u29 :: u30 :: u31 :: u32 :: u33 :: u34 :: u35 :: u36 :: u37 :: u38 :: u39 :: u40 :: u41 :: u42 :: u43 :: u44 :: u45 :: u46 :: u47 :: u48 :: u49 :: u50 :: u51 :: u52 :: u53 :: u54 :: u55 :: u56 :: u57 :: u58 :: u59 :: u60 :: u61 :: u62 :: u63 :: u64 :: u65 :: u66 :: u67 :: u68 :: u69 :: u70 :: u71 :: u72 :: u73 :: u74 :: u75 :: u76 :: u77 :: u78 :: u79 :: u80 :: u81 :: .int .i64 (n : Nat) :: .int .i64 0 :: u84 :: u85 :: u86 :: u87 :: u88 :: u89 :: u90 :: u91 :: u92 :: u93 :: u94 :: u95 :: u96 :: u97 :: u98 :: u99 :: u100 :: u101 :: u102 :: u103 :: u104 :: u105 :: u106 :: u107 :: u108 :: u109 :: u110 :: u111 :: u112 :: u113 :: u114 :: u115 :: u116 :: u117 :: u118 :: u119 :: u120 :: u121 :: u122 :: u123 :: u124 :: u125 :: u126 :: u127 :: u128 :: u129 :: u130 :: u131 :: u132 :: u133 :: u134 :: u135 :: u136 :: u137 :: u138 :: u139 :: u140 :: u141 :: u142 :: u143 :: []).toArray, defers := [] } w1 := by
  conv => arg 2; arg 1; whnf
  have HEX := Aside0.mk hexit
  clear hexit
  go_loopw [83] (fun j wr => ∃ k : Nat, k ≤ n ∧ j = .int .i64 (k : Nat) ∧ Aside0 (KeepBut w1 wr gr none) ∧ Aside0 (Below w.heap.size w wr) ∧ Aside0 ((Kd.int .i64).R 3 wr base ok (.slice (some ⟨gr, 0, none⟩) n n) (rowTo (fun k => gainOf l d (rd_Prod ps ix) ⟨⟨xa, xb⟩, ⟨ya, yb⟩⟩ ⟨kerf, trim, pitch, step⟩ ⟨chip, dust, fine⟩ (k : Nat) width) n k))) (fun j _ => n - (intOf j).toNat)
  case atStart => exact ⟨0, by omega, rfl, ⟨KeepBut.refl _ _ _⟩, HB, HW⟩
  case round =>
    clear HB HW
    obtain ⟨k, hk, rfl, HK, HB, HW⟩ := hrel
    by_cases hlt : k < n
    · have HXr := Aside0.mk (KeepBut.blk HK.out HX.out (show gx ≠ gr from fun e => hrx e.symm) (by simp))
      obtain ⟨ap, rfl, hpi⟩ := Kd.at_int (HP.out wr HK.out) i i1 (by omega)
      replace hpi : _ = some (Value.int .i64 ix) := hpi.trans (by rw [← HIX.out]; rfl)
      have hap : (ap.add i.toNat).block ≠ gr := by rw [add_block]; exact footNe (fun W' hk => HP.out W' (HK.out.trans hk (.inl rfl))) (by omega)
      obtain ⟨aq, A5, c5, A6, c6, rfl, hy0, hy1, hy2, hy3, hy4, hy5, hy6, l5, h5, l6, h6⟩ := at_Prod HQ.out ix j1 j2
      have haq : (aq.add (ix.toNat * 7)).block ≠ gr := by have := World.block_lt_of_cell? w _ hy0; omega
      replace hy0 := pw_cell_below HB.out hy0
      replace hy1 := pw_cell_below HB.out hy1
      replace hy2 := pw_cell_below HB.out hy2
      replace hy3 := pw_cell_below HB.out hy3
      replace hy4 := pw_cell_below HB.out hy4
      replace hy5 := pw_cell_below HB.out hy5
      replace hy6 := pw_cell_below HB.out hy6
      have HN1 := Aside0.mk (show (rd_Prod ps ix).name.size ≤ 9223372036854775807 by
        have e := HN.out ix.toNat (by omega)
        rwa [show ((ix.toNat : Nat) : Int) = ix by omega] at e)
      have HL5 := Aside0.mk l5
      have HL6 := Aside0.mk l6
      have H5 := Aside0.mk h5
      have H6 := Aside0.mk h6
      clear l5 l6 h5 h6
      have hs0 : wr.cell? ⟨gx, 0, none⟩ = some (.slice A l.length c) := (blk_cell HXr.out 0).trans rfl
      have hs1 : wr.cell? ⟨gx, 1, none⟩ = some (.slice A' d.length c') := (blk_cell HXr.out 1).trans rfl
      have hs2 : wr.cell? ⟨gx, 2, none⟩ = some (.int .i64 xa) := (blk_cell HXr.out 2).trans rfl
      have hs3 : wr.cell? ⟨gx, 3, none⟩ = some (.int .i64 xb) := (blk_cell HXr.out 3).trans rfl
      have hs4 : wr.cell? ⟨gx, 4, none⟩ = some (.int .i64 ya) := (blk_cell HXr.out 4).trans rfl
      have hs5 : wr.cell? ⟨gx, 5, none⟩ = some (.int .i64 yb) := (blk_cell HXr.out 5).trans rfl
      have hs6 : wr.cell? ⟨gx, 6, none⟩ = some (.int .i64 kerf) := (blk_cell HXr.out 6).trans rfl
      have hs7 : wr.cell? ⟨gx, 7, none⟩ = some (.int .i64 trim) := (blk_cell HXr.out 7).trans rfl
      have hs8 : wr.cell? ⟨gx, 8, none⟩ = some (.int .i64 pitch) := (blk_cell HXr.out 8).trans rfl
      have hs9 : wr.cell? ⟨gx, 9, none⟩ = some (.int .i64 step) := (blk_cell HXr.out 9).trans rfl
      have hs10 : wr.cell? ⟨gx, 10, none⟩ = some (.int .i64 chip) := (blk_cell HXr.out 10).trans rfl
      have hs11 : wr.cell? ⟨gx, 11, none⟩ = some (.int .i64 dust) := (blk_cell HXr.out 11).trans rfl
      have hs12 : wr.cell? ⟨gx, 12, none⟩ = some (.int .i64 fine) := (blk_cell HXr.out 12).trans rfl
      have hs13 : wr.cell? ⟨gx, 13, none⟩ = some (.int .i64 (solLen l)) := (blk_cell HXr.out 13).trans rfl
      have KP : Aside0 (∀ X, Below w.heap.size w X → KeepBut wr X gr none → Below w.heap.size w X ∧ KeepBut wr X gr none ∧ X.cell? ⟨gx, 0, none⟩ = some (.slice A l.length c) ∧ X.cell? ⟨gx, 1, none⟩ = some (.slice A' d.length c') ∧ X.cell? ⟨gx, 2, none⟩ = some (.int .i64 xa) ∧ X.cell? ⟨gx, 3, none⟩ = some (.int .i64 xb) ∧ X.cell? ⟨gx, 4, none⟩ = some (.int .i64 ya) ∧ X.cell? ⟨gx, 5, none⟩ = some (.int .i64 yb) ∧ X.cell? ⟨gx, 6, none⟩ = some (.int .i64 kerf) ∧ X.cell? ⟨gx, 7, none⟩ = some (.int .i64 trim) ∧ X.cell? ⟨gx, 8, none⟩ = some (.int .i64 pitch) ∧ X.cell? ⟨gx, 9, none⟩ = some (.int .i64 step) ∧ X.cell? ⟨gx, 10, none⟩ = some (.int .i64 chip) ∧ X.cell? ⟨gx, 11, none⟩ = some (.int .i64 dust) ∧ X.cell? ⟨gx, 12, none⟩ = some (.int .i64 fine) ∧ X.cell? ⟨gx, 13, none⟩ = some (.int .i64 (solLen l)) ∧ X.cell? (ap.add i.toNat) = some (.int .i64 ix) ∧ X.cell? (aq.add (ix.toNat * 7)) = some (.string (rd_Prod ps ix).name) ∧ X.cell? ⟨(aq.add (ix.toNat * 7)).block, (aq.add (ix.toNat * 7)).off + 1, none⟩ = some (.int .i64 (rd_Prod ps ix).thick) ∧ X.cell? ⟨(aq.add (ix.toNat * 7)).block, (aq.add (ix.toNat * 7)).off + 2, none⟩ = some (.int .i64 (rd_Prod ps ix).width) ∧ X.cell? ⟨(aq.add (ix.toNat * 7)).block, (aq.add (ix.toNat * 7)).off + 3, none⟩ = some (.int .i64 (rd_Prod ps ix).allow) ∧ X.cell? ⟨(aq.add (ix.toNat * 7)).block, (aq.add (ix.toNat * 7)).off + 4, none⟩ = some (.int .i64 (rd_Prod ps ix).wane) ∧ X.cell? ⟨(aq.add (ix.toNat * 7)).block, (aq.add (ix.toNat * 7)).off + 5, none⟩ = some (.slice A5 (rd_Prod ps ix).lengths.length c5) ∧ X.cell? ⟨(aq.add (ix.toNat * 7)).block, (aq.add (ix.toNat * 7)).off + 6, none⟩ = some (.slice A6 (rd_Prod ps ix).prices.length c6)) := ⟨fun X h0 h => ⟨h0, h, keep_cell h hs0 (show gx ≠ gr from fun e => hrx e.symm), keep_cell h hs1 (show gx ≠ gr from fun e => hrx e.symm), keep_cell h hs2 (show gx ≠ gr from fun e => hrx e.symm), keep_cell h hs3 (show gx ≠ gr from fun e => hrx e.symm), keep_cell h hs4 (show gx ≠ gr from fun e => hrx e.symm), keep_cell h hs5 (show gx ≠ gr from fun e => hrx e.symm), keep_cell h hs6 (show gx ≠ gr from fun e => hrx e.symm), keep_cell h hs7 (show gx ≠ gr from fun e => hrx e.symm), keep_cell h hs8 (show gx ≠ gr from fun e => hrx e.symm), keep_cell h hs9 (show gx ≠ gr from fun e => hrx e.symm), keep_cell h hs10 (show gx ≠ gr from fun e => hrx e.symm), keep_cell h hs11 (show gx ≠ gr from fun e => hrx e.symm), keep_cell h hs12 (show gx ≠ gr from fun e => hrx e.symm), keep_cell h hs13 (show gx ≠ gr from fun e => hrx e.symm), keep_cell h hpi hap, keep_cell h hy0 haq, keep_cell h hy1 haq, keep_cell h hy2 haq, keep_cell h hy3 haq, keep_cell h hy4 haq, keep_cell h hy5 haq, keep_cell h hy6 haq⟩⟩
      go_upto_region 15 with (fail)
      clear hpi hy0 hy1 hy2 hy3 hy4 hy5 hy6 hs0 hs1 hs2 hs3 hs4 hs5 hs6 hs7 hs8 hs9 hs10 hs11 hs12 hs13
      go_region_held3 (fun X => Below w.heap.size w X ∧ KeepBut wr X gr none ∧ X.cell? ⟨gx, 0, none⟩ = some (.slice A l.length c) ∧ X.cell? ⟨gx, 1, none⟩ = some (.slice A' d.length c') ∧ X.cell? ⟨gx, 2, none⟩ = some (.int .i64 xa) ∧ X.cell? ⟨gx, 3, none⟩ = some (.int .i64 xb) ∧ X.cell? ⟨gx, 4, none⟩ = some (.int .i64 ya) ∧ X.cell? ⟨gx, 5, none⟩ = some (.int .i64 yb) ∧ X.cell? ⟨gx, 6, none⟩ = some (.int .i64 kerf) ∧ X.cell? ⟨gx, 7, none⟩ = some (.int .i64 trim) ∧ X.cell? ⟨gx, 8, none⟩ = some (.int .i64 pitch) ∧ X.cell? ⟨gx, 9, none⟩ = some (.int .i64 step) ∧ X.cell? ⟨gx, 10, none⟩ = some (.int .i64 chip) ∧ X.cell? ⟨gx, 11, none⟩ = some (.int .i64 dust) ∧ X.cell? ⟨gx, 12, none⟩ = some (.int .i64 fine) ∧ X.cell? ⟨gx, 13, none⟩ = some (.int .i64 (solLen l)) ∧ X.cell? (ap.add i.toNat) = some (.int .i64 ix) ∧ X.cell? (aq.add (ix.toNat * 7)) = some (.string (rd_Prod ps ix).name) ∧ X.cell? ⟨(aq.add (ix.toNat * 7)).block, (aq.add (ix.toNat * 7)).off + 1, none⟩ = some (.int .i64 (rd_Prod ps ix).thick) ∧ X.cell? ⟨(aq.add (ix.toNat * 7)).block, (aq.add (ix.toNat * 7)).off + 2, none⟩ = some (.int .i64 (rd_Prod ps ix).width) ∧ X.cell? ⟨(aq.add (ix.toNat * 7)).block, (aq.add (ix.toNat * 7)).off + 3, none⟩ = some (.int .i64 (rd_Prod ps ix).allow) ∧ X.cell? ⟨(aq.add (ix.toNat * 7)).block, (aq.add (ix.toNat * 7)).off + 4, none⟩ = some (.int .i64 (rd_Prod ps ix).wane) ∧ X.cell? ⟨(aq.add (ix.toNat * 7)).block, (aq.add (ix.toNat * 7)).off + 5, none⟩ = some (.slice A5 (rd_Prod ps ix).lengths.length c5) ∧ X.cell? ⟨(aq.add (ix.toNat * 7)).block, (aq.add (ix.toNat * 7)).off + 6, none⟩ = some (.slice A6 (rd_Prod ps ix).prices.length c6))
        ((refine KP.out _ ?_ ?_ <;> (repeat (with_reducible first | assumption | exact HB.out | exact KeepBut.refl _ _ _ | refine KeepBut.set_ ?_ _ _ | refine keep_below ?_ (below_drew (Below.refl _ _)) | refine below_set ?_ hbg | apply below_drew))))
        (first | (go_at_call 61; refine (gain_calls _ _ l _ _ d (rd_Prod ps ix) _ _ _ _ _ _ _ _ _ _ _ _ _ _ _ _ _ x1 x2 m1 m2 m3 t1 t2 t3 t4 ?p1 ?p2 q3 q4 _ ?c1 ?c2 HN1.out HL5.out ?c3 HL6.out ?c4).mono ?_; (case p1 => omega); (case p2 => omega); (case c1 => (go_split_ands; refine Kd.C_below HL.out ?_; (repeat (with_reducible first | assumption | exact HB.out | apply below_drew)))); (case c2 => (go_split_ands; refine Kd.C_below HD.out ?_; (repeat (with_reducible first | assumption | exact HB.out | apply below_drew)))); (case c3 => (go_split_ands; refine Kd.C_below H5.out ?_; (repeat (with_reducible first | assumption | exact HB.out | apply below_drew)))); (case c4 => (go_split_ands; refine Kd.C_below H6.out ?_; (repeat (with_reducible first | assumption | exact HB.out | apply below_drew)))); rintro e w2 ⟨rfl, hb1⟩; have hS0 : Below w.heap.size w w2 := (by refine below_then ?hx (Below.size ?hx) hb1; case hx => (repeat (with_reducible first | assumption | exact HB.out | apply below_drew))); have hS : KeepBut wr w2 gr none := (by refine keep_below ?hx hb1; case hx => (repeat (with_reducible first | assumption | exact KeepBut.refl _ _ _ | refine KeepBut.set_ ?_ _ _ | refine keep_below ?_ (below_drew (Below.refl _ _))))); have HW2 := Aside0.mk (Kd.R_below HW.out (by refine below_then ?hx (Below.size ?hx) hb1; case hx => (repeat (with_reducible first | assumption | exact Below.refl _ _ | apply below_drew)))); have hrc := (row_cell HW2.out (rowTo_len hk) k hlt).1; have hrf := (row_cell HW2.out (rowTo_len hk) k hlt).2; clear hb1))
      obtain ⟨hb3, hk3⟩ : Below w.heap.size w w2 ∧ KeepBut wr w2 gr none := ⟨hS0, hS⟩
      have HB3 := Aside0.mk (below_set (j := k) (v := .int .i64 (gainOf l d (rd_Prod ps ix) ⟨⟨xa, xb⟩, ⟨ya, yb⟩⟩ ⟨kerf, trim, pitch, step⟩ ⟨chip, dust, fine⟩ (k : Nat) width)) hb3 hbg)
      have HK3 := Aside0.mk (HK.out.trans (hk3.set_ k (.int .i64 (gainOf l d (rd_Prod ps ix) ⟨⟨xa, xb⟩, ⟨ya, yb⟩⟩ ⟨kerf, trim, pitch, step⟩ ⟨chip, dust, fine⟩ (k : Nat) width))) (.inl rfl))
      have HW3 := Aside0.mk (row_put HW2.out (rowTo_len hk) k (gainOf l d (rd_Prod ps ix) ⟨⟨xa, xb⟩, ⟨ya, yb⟩⟩ ⟨kerf, trim, pitch, step⟩ ⟨chip, dust, fine⟩ (k : Nat) width))
      go_wp2_with fail
      go_roundw
      case rel => exact ⟨k + 1, by omega, by go_num, HK3, HB3, ⟨by rw [← rowTo_set hlt]; exact HW3.out⟩⟩
      case measure => simp [intOf]; omega
    · obtain rfl : k = n := by omega
      go_wp2_with fail
      exact HEX.out _ _ _ _ _ _ _ _ _ _ _ _ _ _ _ _ _ _ _ _ HK.out HB.out HW.out
end Go.Proofs.YtngpoonjonojhaaDoor
