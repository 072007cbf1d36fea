/- Words and walks that the row leans on: PlBst, WBs1. -/
import Derived.Test.YtngpoonjonojhaaDoorE28
import Derived.Test.YtngpoonjonojhaaDoorE33
import Derived.Test.YtngpoonjonojhaaDoorE34
import Derived.Test.YtngpoonjonojhaaDoorE25
import Derived.Deep.CutBlock
import Derived.Deep.DeepCutAuto
set_option linter.all false
/-! Plain laws: the best pattern of a strip. -/
namespace Go.Proofs.YtngpoonjonojhaaDoor
open Go.RowKit
def pcSpans (xa : Int) (sizes : List Int) (pcs : List Pc) : List Sp := pcs.map fun p => ⟨xa + p.pos, xa + p.pos + rdI sizes p.size⟩
def pcParts (prods : List Int) (pcs : List Pc) : List (List Nd) := pcs.map fun p => [⟨1, rdI prods p.size⟩]
/-- The row of the pieces of a strip. -/
def pcRow (r : Rect) (kerf : Int) (sizes prods : List Int) (pcs : List Pc) : List Nd × Int := rowNodes r.x.a r.x.b 2 kerf (pcSpans r.x.a sizes pcs) (pcParts prods pcs)
/-- The nodes of the best pattern of a strip, its value, and the error. -/
def edgeBest (l : List Slc) (d : List Dft) (c : List Prod) (r : Rect) (s : Sw) (t : Rt) : List Nd × Int × Int :=
  if lineErr l d c r s t ≠ 0 then ([], 0, lineErr l d c r s t)
  else if (bestPcs (lineOf l d c r s t)).2.2 ≠ 0 then ([], 0, (bestPcs (lineOf l d c r s t)).2.2)
  else if (pcRow r s.kerf (widthsOf c (r.y.b - r.y.a)) (prodsOf c (r.y.b - r.y.a)) (bestPcs (lineOf l d c r s t)).1).2 ≠ 0 then ([], 0, (pcRow r s.kerf (widthsOf c (r.y.b - r.y.a)) (prodsOf c (r.y.b - r.y.a)) (bestPcs (lineOf l d c r s t)).1).2)
  else ((pcRow r s.kerf (widthsOf c (r.y.b - r.y.a)) (prodsOf c (r.y.b - r.y.a)) (bestPcs (lineOf l d c r s t)).1).1, (bestPcs (lineOf l d c r s t)).2.1, 0)
theorem pcSpans_len (xa : Int) (sizes : List Int) (pcs : List Pc) : (pcSpans xa sizes pcs).length = pcs.length := by simp [pcSpans]
theorem pcParts_len (prods : List Int) (pcs : List Pc) : (pcParts prods pcs).length = pcs.length := by simp [pcParts]
theorem rd_Pc_take {pcs : List Pc} {k : Nat} (h : k < pcs.length) : pcs.take (k + 1) = pcs.take k ++ [rd_Pc pcs (k : Nat)] := by
  rw [List.take_add_one]
  congr 1
  unfold rd_Pc
  rw [Int.toNat_natCast, List.getD_eq_getElem?_getD, List.getElem?_eq_getElem h]
  rfl
theorem rd_Pc_mem {pcs : List Pc} {k : Nat} (h : k < pcs.length) : rd_Pc pcs (k : Nat) ∈ pcs := by
  unfold rd_Pc
  rw [Int.toNat_natCast, List.getD_eq_getElem?_getD, List.getElem?_eq_getElem h]
  exact List.getElem_mem h
theorem pcSpans_step {xa : Int} {sizes : List Int} {pcs : List Pc} {k : Nat} (h : k < pcs.length) : pcSpans xa sizes (pcs.take (k + 1)) = pcSpans xa sizes (pcs.take k) ++ [⟨xa + (rd_Pc pcs (k : Nat)).pos, xa + (rd_Pc pcs (k : Nat)).pos + rdI sizes (rd_Pc pcs (k : Nat)).size⟩] := by
  rw [rd_Pc_take h]; simp [pcSpans]
theorem pcParts_step {prods : List Int} {pcs : List Pc} {k : Nat} (h : k < pcs.length) : pcParts prods (pcs.take (k + 1)) = pcParts prods (pcs.take k) ++ [[⟨1, rdI prods (rd_Pc pcs (k : Nat)).size⟩]] := by
  rw [rd_Pc_take h]; simp [pcParts]
theorem pcSpans_rd {xa : Int} {sizes : List Int} {pcs : List Pc} {k : Nat} (h : k < pcs.length) : rd_Sp (pcSpans xa sizes pcs) (k : Nat) = ⟨xa + (rd_Pc pcs (k : Nat)).pos, xa + (rd_Pc pcs (k : Nat)).pos + rdI sizes (rd_Pc pcs (k : Nat)).size⟩ := by
  unfold rd_Sp rd_Pc pcSpans
  simp [h]
theorem pcParts_rd {prods : List Int} {pcs : List Pc} {k : Nat} (h : k < pcs.length) : rd_L18 (pcParts prods pcs) (k : Nat) = [⟨1, rdI prods (rd_Pc pcs (k : Nat)).size⟩] := by
  unfold rd_L18 rd_Pc pcParts
  simp [h]
end Go.Proofs.YtngpoonjonojhaaDoor
/-! Walks: the places and the parts of the pieces of a strip. -/
namespace Go.Proofs.YtngpoonjonojhaaDoor
open Go.RowKit Go.Proofs.YtngpoonjonojhaaDoorW.PrintWords Go.Proofs.YtngpoonjonojhaaDoorW.PrintLast
set_option linter.unusedVariables false
/-- A row of one's own stands where a row of another type is appended to. -/
theorem R_other {α β : Type} {d : Kd α} {d' : Kd β} {e e' base base' : Nat} {ok ok' : Nat → Prop} {w w1 : World} {v u : Value} {xs : List α} {ys : List β} (h : d.R e w base ok v xs) (h' : d'.R e' w base' ok' u ys) (hne : ∀ q, q ∈ e :: d.E → e' ≠ q) (hg : w.grownBy w1 u.ownBlock) : d.R e w1 base ok v xs :=
  Kd.R_mono (Kd.R_grown (Kd.R_bound h) hg (fun k hk => by obtain ⟨_, _, _, q, hq, cells, hc⟩ := hk; exact Kd.R_ne h' hc (hne q hq))) (fun k hk => hk.1)
theorem infoSp : (Tryd.prog.info? 33).map (fun i => (i.zero, i.size, i.bytes)) = some (some (.agg #[.int .i64 0, .int .i64 0]), kSp.sz, 16) := by kernel_rfl
theorem infoNds : (Tryd.prog.info? 45).map (fun i => (i.zero, i.size, i.bytes)) = some (some (.slice none 0 0), (Kd.slice 80 kNd).sz, 24) := by kernel_rfl
theorem app_sp {ops : Array Oper} {Q : Exit → Act → World → Prop} {o : Oper} {rest : List Oper} {a : Act} {w0 W : World} {s x : Operand} {v : Value} {xs : List Sp} {y : Sp} (hg : o.guard = none) (ho : o.op = .call { callee := .builtin .append, args := #[s, x], argTypes := #[50, 50] }) (h1 : a.eval s = v) (h2 : a.eval x = .slice (some ⟨W.heap.size, 0, none⟩) 1 1)
    (HO : kSp.R 33 W w0.heap.size (fun _ => True) v xs) (HB : Below w0.heap.size w0 W) (hl : xs.length ≤ 100000000)
    (h : ∀ v1 w1, kSp.R 33 w1 w0.heap.size (fun _ => True) v1 (xs ++ [y]) → Below w0.heap.size w0 w1 → W.grownBy w1 v.ownBlock → wpList Tryd.prog ops Q rest (a.put o.dst v1) w1) : wpList Tryd.prog ops Q (o :: rest) a (W.alloc (.cells #[.int .i64 y.a, .int .i64 y.b] 33)) :=
  Kd.R_append kSp (w0 := w0) w0.heap.size hg s x 50 33 (.agg #[.int .i64 0, .int .i64 0]) 16 ho Tryd.underlying50 infoSp rfl (by decide) (by decide) v xs y [.int .i64 y.a, .int .i64 y.b] (fun _ => True) (fun _ => False) h1 h2 (kSp_mkM _ _ _ _) (fun k hk => hk.elim) (fun _ _ => trivial) HO HB HB.size (by omega) (fun v1 w1 ho hb hg _ => h v1 w1 ho hb hg)
theorem app_nds {ops : Array Oper} {Q : Exit → Act → World → Prop} {o : Oper} {rest : List Oper} {a : Act} {w0 W : World} {s x : Operand} {v u : Value} {xs : List (List Nd)} {y : List Nd} (hg : o.guard = none) (ho : o.op = .call { callee := .builtin .append, args := #[s, x], argTypes := #[127, 127] }) (h1 : a.eval s = v) (h2 : a.eval x = .slice (some ⟨W.heap.size, 0, none⟩) 1 1)
    (HO : (Kd.slice 80 kNd).R 45 W w0.heap.size (fun _ => True) v xs) (HU : kNd.R 80 W w0.heap.size (fun q => some q ≠ v.ownBlock) u y) (HB : Below w0.heap.size w0 W) (hl : xs.length ≤ 100000000)
    (h : ∀ v1 w1, (Kd.slice 80 kNd).R 45 w1 w0.heap.size (fun _ => True) v1 (xs ++ [y]) → Below w0.heap.size w0 w1 → W.grownBy w1 v.ownBlock → wpList Tryd.prog ops Q rest (a.put o.dst v1) w1) : wpList Tryd.prog ops Q (o :: rest) a (W.alloc (.cells #[u] 45)) :=
  Kd.R_append (Kd.slice 80 kNd) (w0 := w0) w0.heap.size hg s x 127 45 (.slice none 0 0) 24 ho Tryd.underlying127 infoNds rfl (by decide) (by decide) v xs y [u] (fun _ => True) (fun q => some q ≠ v.ownBlock) h1 h2 (Kd.M_row HU) (fun k hk => ⟨trivial, hk⟩) (fun _ _ => trivial) HO HB HB.size (by omega) (fun v1 w1 ho hb hg _ => h v1 w1 ho hb hg)
theorem nd_lit (W : World) (base : Nat) (hb : base ≤ W.heap.size) (ok : Nat → Prop) (hok : ok W.heap.size) (x : Nd) : kNd.R 80 (W.alloc (.cells #[.int .i64 x.kind, .int .i64 x.pos] 80)) base ok (.slice (some ⟨W.heap.size, 0, none⟩) 1 1) [x] :=
  ⟨fun k hk => by simp [Value.ownBlock] at hk; subst hk; exact hok, OwnRow.lit (ps := [x]) (inner := [.int .i64 x.kind, .int .i64 x.pos]) W base (Reps.snoc (Reps.none _ _) (kNd_mkM _ _ _ x) rfl) hb (by simp)⟩
noncomputable def bstBody : Code := (Tryd.f28.body.bind (loopIn 11)).getD .skip
set_option maxHeartbeats 4000000 in
set_option maxRecDepth 100000 in
theorem bst_loop (x : Ln) (A1 : Option Addr) (c1 : Nat) (A2 : Option Addr) (c2 : Nat) (A3 : Option Addr) (c3 : Nat) (A4 : Option Addr) (c4 : Nat) (Ap : Option Addr) (cp : Nat) (prods : List Int) (A17 : Option Addr) (c17 : Nat) (pcs : List Pc) (xa xb ya yb : Int) (gr gl : Nat)
    (x1 : -600 ≤ xa) (x2 : xa ≤ 600) (hpl : pcs.length ≤ 2001) (HPI : Aside0 (∀ p, p ∈ pcs → PcIn x p)) (hx4 : x.len ≤ 2000) (HSZ : Aside0 (∀ i : Nat, i < x.sizes.length → 0 ≤ rdI x.sizes (i : Nat) ∧ rdI x.sizes (i : Nat) ≤ 2000)) (HSL : Aside0 (x.sizes.length = prods.length))
    (w : World) (HR : Aside0 (w.heap[gr]? = some (.cells #[.int .i64 xa, .int .i64 xb, .int .i64 ya, .int .i64 yb] 35 (0, 0)))) (HX : Aside0 (w.heap[gl]? = some (.cells #[.int .i64 x.len, .int .i64 x.kerf, .int .i64 x.pitch, .slice A1 x.sizes.length c1, .slice A2 x.gain.length c2, .slice A3 x.chip.length c3, .slice A4 x.dust.length c4] 64 (0, 0))))
    (HS : Aside0 (Kd.C (Kd.int .i64) w A1 x.sizes.length x.sizes)) (HP : Aside0 (Kd.C (Kd.int .i64) w Ap prods.length prods)) (HPC : Aside0 (Kd.C kPc w A17 pcs.length pcs))
    (u0 u1 u2 u3 u4 u5 u6 u7 u8 u10 u11 u12 u13 u14 u16 u17 u18 u19 u23 u24 u25 u26 u27 u28 u29 u30 u31 u32 u33 u34 u35 u36 u37 u38 u39 u40 u41 u42 u43 u44 u45 u46 u47 u48 u49 u50 u51 u52 u53 u54 u55 u56 u57 u58 u59 u60 u64 u65 u66 u67 u68 u69 u70 u71 u72 u73 u74 u75 u76 u77 u78 u79 u80 u81 u82 u83 u84 u85 u86 u87 u88 u89 u90 u91 u92 u93 u94 u95 u96 u97 u98 u99 u100 u101 u102 u103 u104 u105 u106 u107 u108 u109 u110 u111 : Value) (Q0 : Exit → Act → World → Prop)
    (hexit : ∀ (x24 x25 x63 x64 x65 x66 x67 x68 x69 x70 x71 x72 x73 x74 x75 x76 x77 x78 x79 x80 x81 x82 x83 x84 x85 x86 x87 x88 x89 x90 x91 x92 x93 x94 x95 x96 x97 v21 v22 : Value) (w' : World), Below w.heap.size w w' → kSp.R 33 w' w.heap.size (fun _ => True) v21 (pcSpans xa x.sizes pcs) → (Kd.slice 80 kNd).R 45 w' w.heap.size (fun _ => True) v22 (pcParts prods pcs) → Q0 (.exit 0) { tmps := (u0 :: u1 :: u2 :: u3 :: u4 :: u5 :: u6 :: u7 :: u8 :: .pointer (some ⟨gr, 0, none⟩) :: u10 :: u11 :: u12 :: u13 :: u14 :: .pointer (some ⟨gl, 0, none⟩) :: u16 :: u17 :: u18 :: u19 :: .slice Ap prods.length cp :: v21 :: v22 :: u23 :: x24 :: x25 :: u26 :: u27 :: u28 :: u29 :: u30 :: u31 :: u32 :: u33 :: u34 :: u35 :: u36 :: u37 :: u38 :: u39 :: u40 :: u41 :: u42 :: u43 :: u44 :: u45 :: u46 :: u47 :: u48 :: u49 :: u50 :: u51 :: u52 :: u53 :: u54 :: u55 :: u56 :: u57 :: u58 :: u59 :: u60 :: .slice A17 pcs.length c17 :: .int .i64 (pcs.length : Nat) :: x63 :: x64 :: x65 :: x66 :: x67 :: x68 :: x69 :: x70 :: x71 :: x72 :: x73 :: x74 :: x75 :: x76 :: x77 :: x78 :: x79 :: x80 :: x81 :: x82 :: x83 :: x84 :: x85 :: x86 :: x87 :: x88 :: x89 :: x90 :: x91 :: x92 :: x93 :: x94 :: x95 :: x96 :: x97 :: u98 :: u99 :: u100 :: u101 :: u102 :: u103 :: u104 :: u105 :: u106 :: u107 :: u108 :: u109 :: u110 :: u111 :: []).toArray, defers := [] } w') :
    Code.wp Tryd.prog (Code.loop bstBody) Q0 { tmps := (u0 :: u1 :: u2 :: u3 :: u4 :: u5 :: u6 :: u7 :: u8 :: .pointer (some ⟨gr, 0, none⟩) :: u10 :: u11 :: u12 :: u13 :: u14 :: .pointer (some ⟨gl, 0, none⟩) :: u16 :: u17 :: u18 :: u19 :: .slice Ap prods.length cp :: .slice none 0 0 :: .slice none 0 0 :: u23 :: u24 :: u25 :: u26 :: u27 :: u28 :: u29 :: u30 :: u31 :: u32 :: u33 :: u34 :: u35 :: u36 :: u37 :: u38 :: u39 :: u40 :: u41 :: u42 :: u43 :: u44 :: u45 :: u46 :: u47 :: u48 :: u49 :: u50 :: u51 :: u52 :: u53 :: u54 :: u55 :: u56 :: u57 :: u58 :: u59 :: u60 :: .slice A17 pcs.length c17 :: .int .i64 (pcs.length : Nat) :: .int .i64 0 :: u64 :: u65 :: u66 :: u67 :: u68 :: u69 :: u70 :: u71 :: u72 :: u73 :: u74 :: u75 :: u76 :: u77 :: u78 :: u79 :: u80 :: u81 :: u82 :: u83 :: u84 :: u85 :: u86 :: u87 :: u88 :: u89 :: u90 :: u91 :: u92 :: u93 :: u94 :: u95 :: u96 :: u97 :: u98 :: u99 :: u100 :: u101 :: u102 :: u103 :: u104 :: u105 :: u106 :: u107 :: u108 :: u109 :: u110 :: u111 :: []).toArray, defers := [] } w := by
  conv => arg 2; arg 1; whnf
  have HEX := Aside0.mk hexit
  clear hexit
  go_loopw [21, 22, 63] (fun v21 v22 i wr => ∃ k : Nat, k ≤ pcs.length ∧ i = .int .i64 (k : Nat) ∧ Aside0 (Below w.heap.size w wr) ∧ Aside0 (kSp.R 33 wr w.heap.size (fun _ => True) v21 (pcSpans xa x.sizes (pcs.take k))) ∧ Aside0 ((Kd.slice 80 kNd).R 45 wr w.heap.size (fun _ => True) v22 (pcParts prods (pcs.take k)))) (fun _ _ i _ => pcs.length - (intOf i).toNat)
  case atStart => exact ⟨0, by omega, rfl, ⟨Below.refl _ _⟩, ⟨Kd.R_nil _ _ _ _ _⟩, ⟨Kd.R_nil _ _ _ _ _⟩⟩
  case round =>
    obtain ⟨k, hk, rfl, HB, H1, H2⟩ := hrel
    by_cases hlt : k < pcs.length
    · obtain ⟨ad, rfl, hx0, hx1⟩ := at_Pc (Kd.C_below HPC.out HB.out) (k : Int) (by omega) (by omega)
      simp only [Int.toNat_natCast] at hx0 hx1
      have hin := HPI.out _ (rd_Pc_mem hlt)
      have e1 := pcSpans_step (xa := xa) (sizes := x.sizes) hlt
      have e2 := pcParts_step (prods := prods) hlt
      obtain ⟨sz, hsz⟩ : ∃ sz, sz = (rd_Pc pcs (k : Nat)).size := ⟨_, rfl⟩
      obtain ⟨po, hpo⟩ : ∃ po, po = (rd_Pc pcs (k : Nat)).pos := ⟨_, rfl⟩
      obtain ⟨i1, i2, i3, i4⟩ := hin
      rw [← hsz] at hx0 i1 i2 i4 e1 e2
      rw [← hpo] at hx1 i3 i4 e1
      clear hsz hpo
      obtain ⟨aS, rfl, hsi⟩ := Kd.at_int (Kd.C_below HS.out HB.out) sz i1 i2
      obtain ⟨ap, rfl, hpi⟩ := Kd.at_int (Kd.C_below HP.out HB.out) sz i1 (by have := HSL.out; omega)
      have s1 : 0 ≤ rdI x.sizes sz ∧ rdI x.sizes sz ≤ 2000 := by
        have e := HSZ.out sz.toNat (by omega)
        rwa [show ((sz.toNat : Nat) : Int) = sz by omega] at e
      obtain ⟨wd, hwd⟩ : ∃ wd, wd = rdI x.sizes sz := ⟨_, rfl⟩
      obtain ⟨ix, hix⟩ : ∃ ix, ix = rdI prods sz := ⟨_, rfl⟩
      replace hsi : _ = some (Value.int .i64 wd) := hsi.trans (by rw [hwd]; rfl)
      replace hpi : _ = some (Value.int .i64 ix) := hpi.trans (by rw [hix]; rfl)
      rw [← hwd] at i4 e1 s1
      rw [← hix] at e2
      have E1 := Aside0.mk e1
      have E2 := Aside0.mk e2
      obtain ⟨s1, s2⟩ := s1
      have hi2 : sz < (prods.length : Int) := by have := HSL.out; omega
      have HIX := Aside0.mk hix.symm
      clear e1 e2 hwd hix
      have hl1 := pcSpans_len xa x.sizes (pcs.take k)
      have hl2 := pcParts_len prods (pcs.take k)
      have hl0 : (pcs.take k).length ≤ 2001 := by rw [List.length_take]; omega
      have hl3 : (pcSpans xa x.sizes (pcs.take k)).length ≤ 100000000 := by omega
      have hl4 : (pcParts prods (pcs.take k)).length ≤ 100000000 := by omega
      clear hl1 hl2 hl0
      obtain ⟨L1, hL1⟩ : ∃ L, L = pcSpans xa x.sizes (pcs.take k) := ⟨_, rfl⟩
      obtain ⟨L2, hL2⟩ : ∃ L, L = pcParts prods (pcs.take k) := ⟨_, rfl⟩
      rw [← hL1] at H1 E1 hl3
      rw [← hL2] at H2 E2 hl4
      clear hL1 hL2
      go_upto_region 13 with (fail)
      have HN := Aside0.mk (blk_new wr (.cells #[.int .i64 sz, .int .i64 po] 98))
      have HB2 := Aside0.mk (below_alloc HB.out (.cells #[.int .i64 sz, .int .i64 po] 98))
      have H12 := Aside0.mk (Kd.R_alloc H1.out (.cells #[.int .i64 sz, .int .i64 po] 98))
      have H22 := Aside0.mk (Kd.R_alloc H2.out (.cells #[.int .i64 sz, .int .i64 po] 98))
      clear hx0 hx1 HB H1 H2
      replace hsi := pw_cell_below (below_alloc (Below.refl _ _) (.cells #[.int .i64 sz, .int .i64 po] 98)) hsi
      replace hpi := pw_cell_below (below_alloc (Below.refl _ _) (.cells #[.int .i64 sz, .int .i64 po] 98)) hpi
      generalize wr.alloc (.cells #[.int .i64 sz, .int .i64 po] 98) = w2 at *
      generalize wr.heap.size = gp at *
      have HR2 := Aside0.mk (blk_below HR.out HB2.out)
      have HX2 := Aside0.mk (blk_below HX.out HB2.out)
      have hr0 : w2.cell? ⟨gr, 0, none⟩ = some (.int .i64 xa) := (blk_cell HR2.out 0).trans rfl
      have hn0 : w2.cell? ⟨gp, 0, none⟩ = some (.int .i64 sz) := (blk_cell HN.out 0).trans rfl
      have hn1 : w2.cell? ⟨gp, 1, none⟩ = some (.int .i64 po) := (blk_cell HN.out 1).trans rfl
      have hx3 : w2.cell? ⟨gl, 3, none⟩ = some (.slice (some aS) x.sizes.length c1) := (blk_cell HX2.out 3).trans rfl
      go_upto_region 15 with (first
        | (at_builtin
           refine app_sp (w0 := w) (y := ⟨xa + po, xa + po + wd⟩) rfl rfl rfl rfl H12.out HB2.out hl3 ?_
           intro v8 w8 ho8 hb8 hg8
           have HO8 := Aside0.mk ho8
           have HB8 := Aside0.mk hb8
           have HN8 := Aside0.mk (blk_grown HN.out hg8 (Kd.R_ne H12.out HN.out (by decide)))
           have H28 := Aside0.mk (R_other H22.out H12.out (by decide) hg8)
           clear ho8 hb8 hg8))
      clear hr0 hn0 hn1 hx3 hsi hpi HN H12 H22 HR2 HX2 HB2
      have hn0 : w8.cell? ⟨gp, 0, none⟩ = some (.int .i64 sz) := (blk_cell HN8.out 0).trans rfl
      obtain ⟨ap', e7, hpi⟩ := Kd.at_int (Kd.C_below HP.out HB8.out) sz i1 hi2
      cases e7
      replace hpi : _ = some (Value.int .i64 ix) := hpi.trans (by rw [← HIX.out]; rfl)
      have hne : some w8.heap.size ≠ u22.ownBlock := by have := Kd.R_ne_new H28.out 0; simpa using this
      have HU := Aside0.mk (nd_lit w8 w.heap.size HB8.out.size (fun q => some q ≠ u22.ownBlock) hne ⟨1, ix⟩)
      clear hne
      go_wp2_with fail
      refine (nodes_calls _ _ _ _).mono ?_
      rintro e w9 ⟨rfl, hb9⟩
      have HU9 := Aside0.mk (Kd.R_below HU.out hb9)
      have HB9 := Aside0.mk (below_then (below_alloc HB8.out _) (below_alloc HB8.out _).size hb9)
      have HO9 := Aside0.mk (Kd.R_below (Kd.R_alloc HO8.out _) hb9)
      have H29 := Aside0.mk (Kd.R_below (Kd.R_alloc H28.out _) hb9)
      clear hb9 hn0 hpi HU HN8 HO8 H28
      go_wp2_with (first
        | (at_builtin
           refine app_nds (w0 := w) (y := [⟨1, ix⟩]) rfl rfl rfl rfl H29.out HU9.out HB9.out hl4 ?_
           intro v10 w10 ho10 hb10 hg10
           have HP10 := Aside0.mk ho10
           have HB10 := Aside0.mk hb10
           have HO10 := Aside0.mk (R_other HO9.out H29.out (by decide) hg10)
           clear ho10 hb10 hg10))
      go_roundw
      case rel => exact ⟨k + 1, by omega, by go_num, HB10, ⟨by rw [E1.out]; exact HO10.out⟩, ⟨by rw [E2.out]; exact HP10.out⟩⟩
      case measure => simp [intOf]; omega
    · obtain rfl : k = pcs.length := by omega
      rw [List.take_length] at H1 H2
      go_wp2_with fail
      exact HEX.out _ _ _ _ _ _ _ _ _ _ _ _ _ _ _ _ _ _ _ _ _ _ _ _ _ _ _ _ _ _ _ _ _ _ _ _ _ _ _ _ HB.out H1.out H2.out
end Go.Proofs.YtngpoonjonojhaaDoor
