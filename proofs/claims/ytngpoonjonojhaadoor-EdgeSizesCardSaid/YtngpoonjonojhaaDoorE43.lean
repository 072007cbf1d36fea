/- Words and walks that the row leans on: WOpn, WLaid. -/
import Derived.Test.YtngpoonjonojhaaDoorE02
import Derived.Deep.Slices
import Derived.Test.YtngpoonjonojhaaDoorE25
import Derived.Test.YtngpoonjonojhaaDoorRows
import Derived.Lib.LaidTab
set_option linter.all false
/-! Words: what an argument reads as, kind by kind. -/
namespace Go.Proofs.YtngpoonjonojhaaDoor
open Go.RowKit Go.Proofs.YtngpoonjonojhaaDoorW.PrintWords Go.Proofs.YtngpoonjonojhaaDoorW.PrintLast Go.ChangeShapes Go.WideShapes
set_option linter.unusedVariables false
/-- What is read at type t is of the kind d, with the property Q. -/
def Opens {α : Type} (d : Kd α) (t : TypeId) (Q : α → Prop) : Prop := ∀ (H : Type) (enc : TypeId × Value → H) (w : World) (fuel : Nat) (cs : List Value) (y : DataW H × List MemPlace), DataW.trod enc Tryd.prog w 0 (fun _ => true) true fuel t cs = some y → ∃ x, d.K w x cs ∧ Q x
/-- The fields of a struct, from offset o on: type, offset, cells. -/
def OpensL {α : Type} (d : Kd α) (fl : List (TypeId × Nat × Nat)) (o : Nat) (Q : α → Prop) : Prop := ∀ (H : Type) (enc : TypeId × Value → H) (w : World) (n : Nat) (cs : List Value), (∀ f, f ∈ fl → ∃ y, DataW.trod enc Tryd.prog w 0 (fun _ => true) true n f.1 ((cs.drop f.2.1).take f.2.2) = some y) → cs.length = o + d.sz → ∃ x, d.K w x (cs.drop o) ∧ Q x
theorem Opens.imp {α : Type} {d : Kd α} {t : TypeId} {Q Q' : α → Prop} (h : Opens d t Q) (hq : ∀ x, Q x → Q' x) : Opens d t Q' := fun H enc w fuel cs y e => let ⟨x, h1, h2⟩ := h H enc w fuel cs y e; ⟨x, h1, hq x h2⟩
theorem opens_int {t : TypeId} (ht : Tryd.prog.underlying t = some (.int .i64)) : Opens (Kd.int .i64) t (fun _ => True) := by
  intro H enc w fuel cs y h
  obtain ⟨n, e, _⟩ := DataW.trod_int ht h
  exact ⟨n, e, trivial⟩
theorem opens_string {t : TypeId} (ht : Tryd.prog.underlying t = some .string) : Opens Kd.string t (fun s => s.size ≤ 9223372036854775807) := by
  intro H enc w fuel cs y h
  obtain ⟨s, e, _, hs⟩ := DataW.trod_string ht h
  exact ⟨s, e, hs⟩
theorem opensL_one {α : Type} {d : Kd α} {t o c : Nat} {Q : α → Prop} (h : Opens d t Q) (hc : c = d.sz) : OpensL d [(t, o, c)] o Q := by
  intro H enc w n cs hf hl
  obtain ⟨y, hy⟩ := hf _ (List.mem_singleton.2 rfl)
  obtain ⟨x, hx, hq⟩ := h H enc w n _ y hy
  refine ⟨x, ?_, hq⟩
  dsimp only at hx
  rw [List.take_of_length_le (by rw [List.length_drop]; omega)] at hx
  exact hx
theorem opensL_cons {α β : Type} {d1 : Kd α} {d2 : Kd β} {t o o2 c : Nat} {fl : List (TypeId × Nat × Nat)} {Q1 : α → Prop} {Q2 : β → Prop} (h : Opens d1 t Q1) (hl : OpensL d2 fl o2 Q2) (hc : c = d1.sz) (ho : o2 = o + c) : OpensL (Kd.pair d1 d2) ((t, o, c) :: fl) o (fun x => Q1 x.1 ∧ Q2 x.2) := by
  intro H enc w n cs hf hlen
  subst hc
  subst ho
  have hlen' : cs.length = o + (d1.sz + d2.sz) := hlen
  obtain ⟨y, hy⟩ := hf _ (List.mem_cons_self ..)
  obtain ⟨x1, hx1, hq1⟩ := h H enc w n _ y hy
  obtain ⟨x2, hx2, hq2⟩ := hl H enc w n cs (fun f hf' => hf f (List.mem_cons_of_mem _ hf')) (by omega)
  refine ⟨(x1, x2), ⟨_, _, ?_, hx1, hx2⟩, hq1, hq2⟩
  rw [← List.drop_drop, List.take_append_drop]
theorem opens_struct {α : Type} {d : Kd α} {t : Nat} {fs : Array Field} {fl : List (TypeId × Nat × Nat)} {Q : α → Prop} (ht : Tryd.prog.underlying t = some (.struct fs)) (hf : (fs.toList.map fun f => (f.type, f.offset, Tryd.prog.cellsOf f.type)) = fl) (hc : Tryd.prog.cellsOf t = d.sz) (hl : OpensL d fl 0 Q) : Opens d t Q := by
  intro H enc w fuel cs y h
  obtain ⟨xs, n, _, _, hlen, hxl, hx⟩ := DataW.trod_struct ht h
  obtain ⟨x, h1, h2⟩ := hl H enc w n cs (fun f hm => by
    rw [← hf] at hm
    obtain ⟨g, hg, rfl⟩ := List.mem_map.1 hm
    obtain ⟨i, hi⟩ := List.mem_iff_getElem?.1 hg
    have hi2 : fs[i]? = some g := by simpa using hi
    have hlt : i < xs.length := by
      have := (Array.getElem?_eq_some_iff.1 hi2).1
      omega
    refine ⟨xs[i], ?_⟩
    dsimp only
    rw [hx i g hi2]
    exact List.getElem?_eq_getElem hlt) (by omega)
  rw [List.drop_zero] at h1
  exact ⟨x, h1, h2⟩
theorem opens_iso {α β : Type} {d : Kd α} {t : Nat} {Q : α → Prop} (f : β → α) (g : α → β) (hfg : ∀ y, f (g y) = y) (h : Opens d t Q) : Opens (Kd.iso d f) t (fun x => Q (f x)) := by
  intro H enc w fuel cs y e
  obtain ⟨x, h1, h2⟩ := h H enc w fuel cs y e
  exact ⟨g x, by show d.K w (f (g x)) cs; rw [hfg]; exact h1, by show Q (f (g x)); rw [hfg]; exact h2⟩
set_option maxRecDepth 100000 in
theorem opens_slice {α : Type} {d : Kd α} {t e : Nat} {Q : α → Prop} (ht : Tryd.prog.underlying t = some (.slice e)) (he : Tryd.prog.cellsOf e = d.sz) (h : Opens d e Q) : Opens (Kd.slice e d) t (fun xs => ∀ x, x ∈ xs → Q x) := by
  intro H enc w fuel cs y hy
  rcases Go.Deep.open_slice ht hy with ⟨rfl, _⟩ | ⟨a, len, cap, m, n, D, Pl, rfl, _, hl, hm, hmm, _, hx⟩
  · exact ⟨[], ⟨none, 0, rfl, Nat.le_refl _, rfl, by simp, fun h => by simp at h⟩, fun x hx => by simp at hx⟩
  · have key : ∀ k, k ≤ len → ∃ xs : List α, xs.length = k ∧ (∀ j p, xs[j]? = some p → ∃ c, c.length = d.sz ∧ d.K w p c ∧ ∀ i u, c[i]? = some u → w.cell? (a.add (j * d.sz + i)) = some u) ∧ ∀ x, x ∈ xs → Q x := by
      intro k
      induction k with
      | zero => intro _; exact ⟨[], rfl, fun j p hj => by simp at hj, fun x hx => by simp at hx⟩
      | succ k ih =>
        intro hk
        obtain ⟨xs, hlx, hcx, hqx⟩ := ih (by omega)
        obtain ⟨cs', hc1, hc2⟩ := hx k (by simp at hmm; omega)
        obtain ⟨x, hxK, hxQ⟩ := h H enc w n cs' _ hc2
        obtain ⟨_, hcl, hcell⟩ := World.cells?_some hc1
        refine ⟨xs ++ [x], by simp [hlx], fun j p hj => ?_, fun z hz => ?_⟩
        · by_cases hjk : j < xs.length
          · rw [List.getElem?_append_left hjk] at hj
            exact hcx j p hj
          · rw [List.getElem?_append_right (by omega)] at hj
            have hj0 : j - xs.length = 0 := by
              rcases Nat.eq_zero_or_pos (j - xs.length) with h0 | h0
              · exact h0
              · rw [List.getElem?_eq_none (by simp; omega)] at hj; cases hj
            rw [hj0] at hj
            obtain rfl : x = p := by simpa using hj
            obtain rfl : j = k := by omega
            refine ⟨cs', by rw [hcl, he], hxK, fun i u hu => ?_⟩
            have hi : i < cs'.length := (List.getElem?_eq_some_iff.1 hu).1
            have e1 := hcell i (by omega)
            rw [Go.Deep.add_add, he] at e1
            rw [e1, hu]
        · rcases List.mem_append.1 hz with hz | hz
          · exact hqx z hz
          · rw [List.mem_singleton.1 hz]; exact hxQ
    obtain ⟨xs, hlx, hcx, hqx⟩ := key len (Nat.le_refl _)
    have hcap : cap ≤ 9223372036854775807 := hm
    exact ⟨xs, ⟨some a, cap, by rw [hlx], by omega, rfl, by omega, fun _ => ⟨a, rfl, hcx⟩⟩, hqx⟩
theorem und_int : Tryd.prog.underlying 3 = some (.int .i64) := by kernel_rfl
theorem opens_Sp : Opens kSp 33 (fun _ => True) :=
  Opens.imp (opens_iso (fun x : Sp => (x.a, x.b)) (fun y => ⟨y.1, y.2⟩) (fun _ => rfl) (opens_struct (fs := Tryd.prog.fieldsOf 33) (fl := [(3, 0, 1), (3, 1, 1)]) (by kernel_rfl) (by kernel_rfl) (by kernel_rfl) (opensL_cons (opens_int und_int) (opensL_one (opens_int und_int) rfl) rfl rfl))) (fun _ _ => trivial)
theorem opens_Rect : Opens kRect 35 (fun _ => True) :=
  Opens.imp (opens_iso (fun x : Rect => (x.x, x.y)) (fun y => ⟨y.1, y.2⟩) (fun _ => rfl) (opens_struct (fs := Tryd.prog.fieldsOf 35) (fl := [(33, 0, 2), (33, 2, 2)]) (by kernel_rfl) (by kernel_rfl) (by kernel_rfl) (opensL_cons opens_Sp (opensL_one opens_Sp rfl) rfl rfl))) (fun _ _ => trivial)
theorem opens_Box : Opens kBox 57 (fun _ => True) :=
  Opens.imp (opens_iso (fun x : Box => (x.x, x.y, x.z)) (fun y => ⟨y.1, y.2.1, y.2.2⟩) (fun _ => rfl) (opens_struct (fs := Tryd.prog.fieldsOf 57) (fl := [(33, 0, 2), (33, 2, 2), (33, 4, 2)]) (by kernel_rfl) (by kernel_rfl) (by kernel_rfl) (opensL_cons opens_Sp (opensL_cons opens_Sp (opensL_one opens_Sp rfl) rfl rfl) rfl rfl))) (fun _ _ => trivial)
theorem opens_Sec : Opens kSec 52 (fun _ => True) :=
  Opens.imp (opens_iso (fun x : Sec => (x.low, x.rows)) (fun y => ⟨y.1, y.2⟩) (fun _ => rfl) (opens_struct (fs := Tryd.prog.fieldsOf 52) (fl := [(3, 0, 1), (50, 1, 1)]) (by kernel_rfl) (by kernel_rfl) (by kernel_rfl) (opensL_cons (opens_int und_int) (opensL_one (opens_slice (e := 33) (by kernel_rfl) (by kernel_rfl) opens_Sp) rfl) rfl rfl))) (fun _ _ => trivial)
theorem opens_Slc : Opens kSlc 54 (fun _ => True) :=
  Opens.imp (opens_iso (fun x : Slc => (x.len, x.sec)) (fun y => ⟨y.1, y.2⟩) (fun _ => rfl) (opens_struct (fs := Tryd.prog.fieldsOf 54) (fl := [(3, 0, 1), (52, 1, 2)]) (by kernel_rfl) (by kernel_rfl) (by kernel_rfl) (opensL_cons (opens_int und_int) (opensL_one opens_Sec rfl) rfl rfl))) (fun _ _ => trivial)
theorem opens_Dft : Opens kDft 59 (fun _ => True) :=
  Opens.imp (opens_iso (fun x : Dft => (x.kind, x.box)) (fun y => ⟨y.1, y.2⟩) (fun _ => rfl) (opens_struct (fs := Tryd.prog.fieldsOf 59) (fl := [(3, 0, 1), (57, 1, 6)]) (by kernel_rfl) (by kernel_rfl) (by kernel_rfl) (opensL_cons (opens_int (by kernel_rfl)) (opensL_one opens_Box rfl) rfl rfl))) (fun _ _ => trivial)
theorem opens_ints : Opens (Kd.slice 3 (Kd.int .i64)) 25 (fun _ => True) := Opens.imp (opens_slice (e := 3) (by kernel_rfl) (by kernel_rfl) (opens_int und_int)) (fun _ _ => trivial)
theorem opens_Prod : Opens kProd 43 (fun p => p.name.size ≤ 9223372036854775807) :=
  Opens.imp (opens_iso (fun x : Prod => (x.name, x.thick, x.width, x.allow, x.wane, x.lengths, x.prices)) (fun y => ⟨y.1, y.2.1, y.2.2.1, y.2.2.2.1, y.2.2.2.2.1, y.2.2.2.2.2.1, y.2.2.2.2.2.2⟩) (fun _ => rfl) (opens_struct (fs := Tryd.prog.fieldsOf 43) (fl := [(9, 0, 1), (3, 1, 1), (3, 2, 1), (3, 3, 1), (3, 4, 1), (25, 5, 1), (25, 6, 1)]) (by kernel_rfl) (by kernel_rfl) (by kernel_rfl) (opensL_cons (opens_string (by kernel_rfl)) (opensL_cons (opens_int und_int) (opensL_cons (opens_int und_int) (opensL_cons (opens_int und_int) (opensL_cons (opens_int und_int) (opensL_cons opens_ints (opensL_one opens_ints rfl) rfl rfl) rfl rfl) rfl rfl) rfl rfl) rfl rfl) rfl rfl))) (fun _ h => h.1)
end Go.Proofs.YtngpoonjonojhaaDoor
/-! Words: what the listed variable holds. -/
namespace Go.Proofs.YtngpoonjonojhaaDoor
open Go.RowKit Go.Proofs.YtngpoonjonojhaaDoorW.PrintWords Go.Proofs.YtngpoonjonojhaaDoorW.PrintLast Go.ChangeShapes Go.WideShapes
set_option linter.unusedVariables false
theorem agg_inj {H : Type} {l l' : List (DataW H)} (h : DataW.agg l = DataW.agg l') : l = l' := by injection h
theorem two_of_map {α β : Type} {f : α → β} {l : List α} {a b : β} (h : l.map f = [a, b]) : ∃ x y, l = [x, y] ∧ f x = a ∧ f y = b := by
  match l with
  | [] => simp at h
  | [_] => simp at h
  | [x, y] =>
    simp only [List.map_cons, List.map_nil, List.cons.injEq] at h
    exact ⟨x, y, rfl, h.1, h.2.1⟩
  | _ :: _ :: _ :: _ => simp at h
set_option maxRecDepth 100000 in
theorem int_data {H : Type} {enc : TypeId × Value → H} {w : World} {n : Nat} {spare : Nat → Bool} {held : Bool} {base : Nat} {cs : List Value} {y : DataW H × List MemPlace} {t : Nat} {k : Int} (ht : Tryd.prog.underlying t = some (.int .i64)) (h : DataW.trod enc Tryd.prog w base spare held n t cs = some y) (hy : y.1 = .lit (.int .i64 k)) : cs = [.int .i64 k] := by
  obtain ⟨m, e1, e2, _⟩ := DataW.trod_int ht h
  rw [e2] at hy
  injection hy with e3
  injection e3 with _ e4
  rw [e1, e4]
set_option maxRecDepth 100000 in
theorem laid_none {W : World} (h : laidMet Tryd.prog [("sawmill/cutting.none", Rows.laid_sawmill_cutting_none)] W) : W.cell? ⟨0, 0, none⟩ = some (.int .i64 (-1)) ∧ W.cell? ⟨0, 1, none⟩ = some (.int .i64 (-1)) ∧ W.cell? ⟨0, 2, none⟩ = some (.int .i64 0) := by
  obtain ⟨ps, ⟨g', t', cs, fuel, p, q, hg', ht', hvar, hd, _, _⟩, _⟩ := h
  have hg : Tryd.prog.globalNamed "sawmill/cutting.none" = some 0 := by kernel_rfl
  have ht : (Tryd.prog.globals[0]?).map (·.type) = some 165 := by kernel_rfl
  obtain rfl := Option.some.inj (hg.symm.trans hg')
  obtain rfl := Option.some.inj (ht.symm.trans ht')
  have hl : ((Tryd.prog.fieldsOf 165).toList.map fun f => (f.name == "_", f.type, f.offset)) = [(false, 98, 0), (false, 3, 2)] := by kernel_rfl
  have hl2 : ((Tryd.prog.fieldsOf 98).toList.map fun f => (f.name == "_", f.type, f.offset)) = [(false, 3, 0), (false, 3, 1)] := by kernel_rfl
  have hu : Tryd.prog.underlying 3 = some (.int .i64) := by kernel_rfl
  have hc1 : Tryd.prog.cellsOf 165 = 3 := by kernel_rfl
  have hc2 : Tryd.prog.cellsOf 98 = 2 := by kernel_rfl
  have hc3 : Tryd.prog.cellsOf 3 = 1 := by kernel_rfl
  obtain ⟨f0, f1, hf, ⟨_, y0, p0⟩, ⟨_, y1, p1⟩⟩ := two_fields hl
  obtain ⟨g0, g1, hg2, ⟨_, z0, q0⟩, ⟨_, z1, q1⟩⟩ := two_fields hl2
  obtain ⟨xs, n, _, hx, hlen, _, hxf⟩ := DataW.trod_struct (fs := Tryd.prog.fieldsOf 165) (by kernel_rfl) hd
  have hx1 := (_root_.Prod.mk.inj hx).1
  obtain ⟨x0, x1, rfl, e0, e1⟩ := two_of_map (agg_inj hx1).symm
  have hF : ∀ i f, [f0, f1][i]? = some f → (Tryd.prog.fieldsOf 165)[i]? = some f := fun i f h => by rw [← Array.getElem?_toList, hf]; exact h
  have hG : ∀ i f, [g0, g1][i]? = some f → (Tryd.prog.fieldsOf 98)[i]? = some f := fun i f h => by rw [← Array.getElem?_toList, hg2]; exact h
  have t0 := hxf 0 f0 (hF 0 f0 rfl)
  have t1 := hxf 1 f1 (hF 1 f1 rfl)
  rw [y0, p0, hc2] at t0
  rw [y1, p1, hc3] at t1
  rw [hc1] at hlen
  match hcs : cs.toList, hlen with
  | [a, b, c], _ =>
    rw [hcs] at t0 t1
    have t0' : DataW.trod _ Tryd.prog W 0 (fun _ => true) false n 98 [a, b] = some x0 := t0
    have t1' : DataW.trod _ Tryd.prog W 0 (fun _ => true) false n 3 [c] = some x1 := t1
    have hc := int_data hu t1' e1
    obtain ⟨ys, m, _, hy, _, _, hyf⟩ := DataW.trod_struct (fs := Tryd.prog.fieldsOf 98) (by kernel_rfl) t0'
    rw [hy] at e0
    obtain ⟨y0', y1', rfl, d0, d1⟩ := two_of_map (agg_inj e0)
    have r0 := hyf 0 g0 (hG 0 g0 rfl)
    have r1 := hyf 1 g1 (hG 1 g1 rfl)
    rw [z0, q0, hc3] at r0
    rw [z1, q1, hc3] at r1
    have ha := int_data hu (show DataW.trod _ Tryd.prog W 0 (fun _ => true) false m 3 [a] = some y0' from r0) d0
    have hb := int_data hu (show DataW.trod _ Tryd.prog W 0 (fun _ => true) false m 3 [b] = some y1' from r1) d1
    have hcell : ∀ i, W.cell? ⟨0, i, none⟩ = [a, b, c][i]? := fun i => by
      have e := World.var?_cell (n := "sawmill/cutting.none") hg hvar i
      rw [e, ← hcs, Array.getElem?_toList]
    have ha' : a = .int .i64 (-1) := by simpa using ha
    have hb' : b = .int .i64 (-1) := by simpa using hb
    have hc' : c = .int .i64 0 := by simpa using hc
    subst ha' hb' hc'
    exact ⟨hcell 0, hcell 1, hcell 2⟩
end Go.Proofs.YtngpoonjonojhaaDoor
