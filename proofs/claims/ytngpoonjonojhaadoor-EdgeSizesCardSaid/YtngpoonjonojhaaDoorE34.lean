/- Walks: rows of parts. -/
import Derived.Test.YtngpoonjonojhaaDoorE33
import Derived.Test.YtngpoonjonojhaaDoorE22
import Derived.Test.YtngpoonjonojhaaDoorE05
import Derived.Deep.CutBlock
import Derived.Deep.DeepCutAuto
set_option linter.all false
namespace Go.Proofs.YtngpoonjonojhaaDoor
open Go.RowKit Go.Proofs.YtngpoonjonojhaaDoorW.PrintWords Go.Proofs.YtngpoonjonojhaaDoorW.PrintLast
set_option linter.unusedVariables false

theorem validSpan_calls (a b : Int) (h1 : a < b) (h2 : -600 ≤ a) (h3 : b ≤ 600) (w : World) :
    Calls Tryd.prog 102 #[.agg #[.int .i64 a, .int .i64 b]] w fun e w' => e = .returned (.bool true) ∧ Below w.heap.size w w' := by
  go_enter Tryd.func102, Tryd.ntmps102
  go_wp2
  go_ret
  exact ⟨rb rfl, BB⟩
theorem validFrame_calls (xa xb ya yb : Int) (h1 : xa < xb) (h2 : -600 ≤ xa) (h3 : xb ≤ 600) (h4 : ya < yb) (h5 : -600 ≤ ya) (h6 : yb ≤ 600) (w : World) :
    Calls Tryd.prog 84 #[.agg #[.int .i64 xa, .int .i64 xb, .int .i64 ya, .int .i64 yb]] w fun e w' => e = .returned (.bool true) ∧ Below w.heap.size w w' := by
  have HB := Aside0.mk (Below.refl w.heap.size w)
  go_enter Tryd.func84, Tryd.ntmps84
  go_wp2_with fail
  refine (validSpan_calls _ _ h1 h2 h3 _).mono ?_
  rintro e w1 ⟨rfl, hb1⟩
  obtain ⟨hB1, hb2⟩ := adv HB.out hb1
  have hr : w1.heap[w.heap.size]? = some (.cells #[.int .i64 xa, .int .i64 xb, .int .i64 ya, .int .i64 yb] 35 (0, 0)) := blk_below (by repeat (first | exact blk_newi _ (by simp) | refine blk_drewN ?_ _ | refine blk_drew ?_ | refine blk_alloc ?_ _)) hb1
  have hr_0 : w1.cell? ⟨w.heap.size, 0, none⟩ = some (.int .i64 xa) := (blk_cell hr 0).trans rfl
  have hr_1 : w1.cell? ⟨w.heap.size, 1, none⟩ = some (.int .i64 xb) := (blk_cell hr 1).trans rfl
  have hr_2 : w1.cell? ⟨w.heap.size, 2, none⟩ = some (.int .i64 ya) := (blk_cell hr 2).trans rfl
  have hr_3 : w1.cell? ⟨w.heap.size, 3, none⟩ = some (.int .i64 yb) := (blk_cell hr 3).trans rfl
  replace hr := Aside0.mk hr
  replace HB := Aside0.mk hB1
  clear hb1 hB1 hb2
  go_wp2_with fail
  refine (validSpan_calls _ _ h4 h5 h6 _).mono ?_
  rintro e w2 ⟨rfl, hb1⟩
  obtain ⟨hB1, hb2⟩ := adv HB.out hb1
  replace HB := Aside0.mk hB1
  clear hb1 hB1 hb2
  go_wp2
  go_ret
  exact ⟨rb rfl, HB.out⟩
theorem side_calls (xa xb ya yb : Int) (w : World) :
    Calls Tryd.prog 85 #[.int .i64 2, .agg #[.int .i64 xa, .int .i64 xb, .int .i64 ya, .int .i64 yb]] w fun e w' => e = .returned (.agg #[.int .i64 xa, .int .i64 xb]) ∧ Below w.heap.size w w' := by
  go_enter Tryd.func85, Tryd.ntmps85
  go_wp2
  all_goals refine bodyPost_ret (by simp [results, Tryd.results85, go_sem]; rfl) rfl ⟨?_, BB⟩
  all_goals rfl

theorem infoNd : (Tryd.prog.info? 80).map (fun i => (i.zero, i.size, i.bytes)) = some (some (.agg #[.int .i64 0, .int .i64 0]), kNd.sz, 16) := by kernel_rfl
/-- An append of nodes that are read to a row of one's own. -/
theorem app_nd {ops : Array Oper} {Q : Exit → Act → World → Prop} {o : Oper} {rest : List Oper} {a : Act} {w0 W : World} {s x : Operand} {v : Value} {xs ys : List Nd} {A : Option Addr} {m c : Nat} (hg : o.guard = none) (ho : o.op = .call { callee := .builtin .append, args := #[s, x], argTypes := #[45, 45] }) (h1 : a.eval s = v) (h2 : a.eval x = .slice A m c)
    (HO : kNd.R 80 W w0.heap.size (fun _ => True) v xs) (HC : Kd.C kNd W A m ys) (HB : Below w0.heap.size w0 W) (hl : xs.length + m ≤ 100000000)
    (h : ∀ v1 w1, kNd.R 80 w1 w0.heap.size (fun _ => True) v1 (xs ++ ys) → Below w0.heap.size w0 w1 → (∀ (g : Nat) (t : TypeId) (cells : Array Value), W.heap[g]? = some (.cells cells t (0, 0)) → (80 : TypeId) ≠ t → w1.heap[g]? = some (.cells cells t (0, 0))) → wpList Tryd.prog ops Q rest (a.put o.dst v1) w1) : wpList Tryd.prog ops Q (o :: rest) a W := by
  refine Kd.R_append_rows kNd (Rr := fun x cs => cs = [.int .i64 x.kind, .int .i64 x.pos]) (w0 := w0) w0.heap.size hg s x 45 80 (.agg #[.int .i64 0, .int .i64 0]) 16 ho Tryd.underlying45 infoNd rfl (by decide) (by decide) v xs ys A m c (fun _ => True) (fun _ => False) h1 h2 HO ?_ (fun x cs hc => by rw [hc]; exact kNd_mkM _ _ _ _) (fun k hk => hk.elim) (fun _ _ => trivial) HB HB.size (by omega) (fun v1 w1 ho hb hg _ => h v1 w1 ho hb (fun g t cells hc ht => blk_grown hc hg (Kd.R_ne HO hc ht)))
  exact ReadsRow.imp_ HC (Below.refl _ _) (fun p cs hp => kNd_open hp)
theorem rowTo_err {sa sb axis kerf : Int} {xs : List Sp} {parts : List (List Nd)} {k : Nat} {e : Int} (h : rowTo_ sa sb axis kerf xs parts k = .error e) : ∀ {n}, k ≤ n → rowTo_ sa sb axis kerf xs parts n = .error e
  | 0, hn => by obtain rfl : k = 0 := by omega
                exact h
  | n + 1, hn => by
    by_cases q : k = n + 1
    · subst q; exact h
    · simp only [rowTo_, rowTo_err h (n := n) (by omega)]

set_option maxHeartbeats 4000000 in
set_option maxRecDepth 100000 in
theorem row_calls (A : Option Addr) (c : Nat) (xs : List Sp) (A' : Option Addr) (c' : Nat) (parts : List (List Nd)) (xa xb ya yb kerf : Int) (f1 : xa < xb) (f2 : -600 ≤ xa) (f3 : xb ≤ 600) (f4 : ya < yb) (f5 : -600 ≤ ya) (f6 : yb ≤ 600) (k1 : 0 ≤ kerf) (k2 : kerf ≤ 20) (hlen : xs.length = parts.length) (hn : xs.length ≤ 10000)
    (hxs : ∀ i : Nat, i < xs.length → -100000 ≤ (rd_Sp xs (i : Nat)).a ∧ (rd_Sp xs (i : Nat)).a ≤ 100000 ∧ -100000 ≤ (rd_Sp xs (i : Nat)).b ∧ (rd_Sp xs (i : Nat)).b ≤ 100000) (hps : ∀ i : Nat, i < xs.length → (rd_L18 parts (i : Nat)).length ≤ 1000)
    (w : World) (hx : Kd.C kSp w A xs.length xs) (hp : Kd.C (Kd.slice 80 kNd) w A' parts.length parts) :
    Calls Tryd.prog 55 #[.agg #[.int .i64 xa, .int .i64 xb, .int .i64 ya, .int .i64 yb], .int .i64 2, .int .i64 kerf, .slice A xs.length c, .slice A' parts.length c'] w fun e w' => (∃ A2 c2, e = .returned (.tuple #[.slice A2 (rowNodes xa xb 2 kerf xs parts).1.length c2, .int .i64 (rowNodes xa xb 2 kerf xs parts).2]) ∧ (rowNodes xa xb 2 kerf xs parts).1.length ≤ c2 ∧ ∀ W, Fr w.heap.size w' W → Kd.C kNd W A2 (rowNodes xa xb 2 kerf xs parts).1.length (rowNodes xa xb 2 kerf xs parts).1) ∧ Below w.heap.size w w' := by
  have HB := Aside0.mk (Below.refl w.heap.size w)
  have HX := Aside0.mk hx
  have HP := Aside0.mk hp
  have HXS := Aside0.mk hxs
  have HPS := Aside0.mk hps
  have HLN := Aside0.mk hlen
  clear hx hp hxs hps
  obtain ⟨R, hR⟩ : ∃ R, R = rowNodes xa xb 2 kerf xs parts := ⟨_, rfl⟩
  rw [← hR]
  have HR := Aside0.mk hR
  clear hR
  have hl2 : (xs.length : Int) = (parts.length : Int) := by omega
  have hl3 : ((xs.length : Int) != (parts.length : Int)) = false := bne_eq_false_iff_eq.2 hl2
  clear hl2 hlen
  go_enter Tryd.func55, Tryd.ntmps55
  go_wp2_with fail
  refine (validFrame_calls _ _ _ _ f1 f2 f3 f4 f5 f6 _).mono ?_
  rintro e w1 ⟨rfl, hb1⟩
  obtain ⟨hB1, hb2⟩ := adv HB.out hb1
  have hr : w1.heap[w.heap.size]? = some (.cells #[.int .i64 xa, .int .i64 xb, .int .i64 ya, .int .i64 yb] 35 (0, 0)) := blk_below (by repeat (first | exact blk_newi _ (by simp) | refine blk_drewN ?_ _ | refine blk_drew ?_ | refine blk_alloc ?_ _)) hb1
  have hr_0 : w1.cell? ⟨w.heap.size, 0, none⟩ = some (.int .i64 xa) := (blk_cell hr 0).trans rfl
  have hr_1 : w1.cell? ⟨w.heap.size, 1, none⟩ = some (.int .i64 xb) := (blk_cell hr 1).trans rfl
  have hr_2 : w1.cell? ⟨w.heap.size, 2, none⟩ = some (.int .i64 ya) := (blk_cell hr 2).trans rfl
  have hr_3 : w1.cell? ⟨w.heap.size, 3, none⟩ = some (.int .i64 yb) := (blk_cell hr 3).trans rfl
  replace hr := Aside0.mk hr
  replace HB := Aside0.mk hB1
  clear hb1 hB1 hb2
  go_wp2_with fail
  refine (side_calls _ _ _ _ _).mono ?_
  rintro e w2 ⟨rfl, hb1⟩
  have HB2 := Aside0.mk (adv HB.out hb1).1
  clear hb1 HB hr hr_0 hr_1 hr_2 hr_3 hl3 f4 f5 f6
  go_upto_region 9 with (fail)
  have HS := Aside0.mk (blk_new w2 (.cells #[.int .i64 xa, .int .i64 xb] 33))
  have HB3 := Aside0.mk (below_alloc HB2.out (.cells #[.int .i64 xa, .int .i64 xb] 33))
  clear HB2
  generalize w2.alloc (.cells #[.int .i64 xa, .int .i64 xb] 33) = w3 at *
  generalize w2.heap.size = gs at *
  have hs0 : w3.cell? ⟨gs, 0, none⟩ = some (.int .i64 xa) := (blk_cell HS.out 0).trans rfl
  have hs1 : w3.cell? ⟨gs, 1, none⟩ = some (.int .i64 xb) := (blk_cell HS.out 1).trans rfl
  go_wp2
  clear hs0 hs1
  go_loopw [13, 14, 15, 50] (fun v ed en i wr => ∃ (k : Nat) (st : RSt), k ≤ xs.length ∧ ed = .int .i64 st.edge ∧ en = .bool st.ended ∧ i = .int .i64 k ∧ -100000 ≤ st.edge ∧ st.edge ≤ 100000 ∧ st.out.length ≤ 1003 * k ∧ Aside0 (rowTo_ xa xb 2 kerf xs parts k = .ok st) ∧ Aside0 (Below w.heap.size w wr) ∧ Aside0 (wr.heap[gs]? = some (.cells #[.int .i64 xa, .int .i64 xb] 33 (0, 0))) ∧ Aside0 (kNd.R 80 wr w.heap.size (fun _ => True) v st.out)) (fun _ _ _ i _ => xs.length - (intOf i).toNat)
  case atStart => exact ⟨0, { out := [], edge := xa, ended := false }, by omega, rfl, rfl, rfl, by show -100000 ≤ xa; omega, by show xa ≤ 100000; omega, by simp, ⟨rfl⟩, HB3, HS, ⟨Kd.R_nil _ _ _ _ _⟩⟩
  case round =>
    clear HB3 HS
    obtain ⟨k, st, hk, rfl, rfl, rfl, b1, b2, b3, HA, HB, HD, HO⟩ := hrel
    have HSr := HD
    have hs0 : wr.cell? ⟨gs, 0, none⟩ = some (.int .i64 xa) := (blk_cell HSr.out 0).trans rfl
    have hs1 : wr.cell? ⟨gs, 1, none⟩ = some (.int .i64 xb) := (blk_cell HSr.out 1).trans rfl
    have hgs := blk_lt HSr.out
    by_cases hlt : k < xs.length
    · obtain ⟨ad, rfl, hx0, hx1⟩ := at_Sp (Kd.C_below HX.out HB.out) k (by omega) (by omega)
      simp only [Int.toNat_natCast] at hx0 hx1
      have xb' := HXS.out k hlt
      obtain ⟨x1, x2, x3, x4⟩ := xb'
      have HT := Aside0.mk (show rowTo_ xa xb 2 kerf xs parts (k + 1) = rowStep xb 2 kerf (rd_Sp xs (k : Nat)) (rd_L18 parts (k : Nat)) st by simp only [rowTo_, HA.out])
      obtain ⟨⟨pa, pb⟩, hpx⟩ : ∃ p, p = rd_Sp xs (k : Nat) := ⟨_, rfl⟩
      rw [← hpx] at hx0 hx1 x1 x2 x3 x4 HT
      clear hpx
      obtain ⟨out, edge, ended⟩ := st
      dsimp only at hx0 hx1 x1 x2 x3 x4 b1 b2 b3 HO ⊢
      by_cases c1 : pb ≤ pa
      · have HE := Aside0.mk (show R = ([], 19) by rw [HR.out]; unfold rowNodes; rw [rowTo_err (HT.out.trans (if_pos c1)) (by omega)]; rfl)
        go_wp2
        go_ret2
        exact ⟨⟨none, 0, by rw [HE.out]; rfl, by rw [HE.out]; simp, by rw [HE.out]; exact fun _ _ => Kd.C_nil kNd _⟩, by have h := HB.out; exact BB⟩
      have HT1 := Aside0.mk (HT.out.trans (if_neg c1))
      clear HT
      by_cases c2 : ended = true ∨ pa ≠ edge ∧ pa ≤ edge + kerf
      · have HE := Aside0.mk (show R = ([], 11) by rw [HR.out]; unfold rowNodes; rw [rowTo_err (HT1.out.trans (if_pos c2)) (by omega)]; rfl)
        cases ended with
        | true =>
          go_wp2
          go_ret2
          exact ⟨⟨none, 0, by rw [HE.out]; rfl, by rw [HE.out]; simp, by rw [HE.out]; exact fun _ _ => Kd.C_nil kNd _⟩, by have h := HB.out; exact BB⟩
        | false =>
          have c21 : pa ≠ edge ∧ pa ≤ edge + kerf := by rcases c2 with h | h; cases h; exact h
          obtain ⟨c22, c23⟩ := c21
          have c24 : (pa != edge) = true := bne_iff_ne.2 c22
          clear c2 c22
          go_wp2
          go_ret2
          exact ⟨⟨none, 0, by rw [HE.out]; rfl, by rw [HE.out]; simp, by rw [HE.out]; exact fun _ _ => Kd.C_nil kNd _⟩, by have h := HB.out; exact BB⟩
      have HT2 := Aside0.mk (HT1.out.trans (if_neg c2))
      cases ended with
      | true => exact absurd (Or.inl rfl) c2
      | false =>
      have c21 : pa = edge ∨ edge + kerf < pa := by
        by_cases h : pa = edge
        · exact Or.inl h
        · exact Or.inr (by
            by_cases h2 : pa ≤ edge + kerf
            · exact absurd (Or.inr ⟨h, h2⟩) c2
            · omega)
      have c1' : pa < pb := by omega
      clear c2 HT1 c1
      have hcond : (∃ b : Bool, (pa != edge) = b ∧ (b = true → edge + kerf < pa)) := ⟨_, rfl, fun h => by rcases c21 with e | e; exact absurd e (bne_iff_ne.1 h); exact e⟩
      obtain ⟨bq, hbq, hbq2⟩ := hcond
      by_cases c3 : xb < pb
      · have HE := Aside0.mk (show R = ([], 20) by rw [HR.out]; unfold rowNodes; rw [rowTo_err (HT2.out.trans (if_pos c3)) (by omega)]; rfl)
        cases bq with
        | false =>
          clear hbq2
          go_wp2
          go_ret2
          exact ⟨⟨none, 0, by rw [HE.out]; rfl, by rw [HE.out]; simp, by rw [HE.out]; exact fun _ _ => Kd.C_nil kNd _⟩, by have h := HB.out; exact BB⟩
        | true =>
          have c25 := hbq2 rfl
          clear hbq2
          go_wp2
          go_ret2
          exact ⟨⟨none, 0, by rw [HE.out]; rfl, by rw [HE.out]; simp, by rw [HE.out]; exact fun _ _ => Kd.C_nil kNd _⟩, by have h := HB.out; exact BB⟩
      have c3' : pb ≤ xb := by omega
      have HT3 := Aside0.mk (HT2.out.trans (if_neg c3))
      clear HT2 c3
      have HOK : Aside0 (∃ ed : Int, ed = mni (pb + kerf) xb ∧ -100000 ≤ ed ∧ ed ≤ 100000) := ⟨_, rfl, by unfold mni; split <;> omega, by unfold mni; split <;> omega⟩
      have hpl := HPS.out k hlt
      -- to region 19
      have hreg : (bq = false ∧ pa = edge) ∨ (bq = true ∧ edge + kerf < pa) := by
        cases bq with
        | false => exact Or.inl ⟨rfl, bne_eq_false_iff_eq.1 hbq⟩
        | true => exact Or.inr ⟨rfl, hbq2 rfl⟩
      clear c21 hbq2
      rcases hreg with ⟨rfl, e1⟩ | ⟨rfl, e1⟩
      · subst e1
        go_upto_region 19 with (fail)
        have HG1 := Aside0.mk (blk_new wr (.cells #[.int .i64 pa, .int .i64 pb] 33))
        have HS1 := Aside0.mk (blk_alloc HSr.out (.cells #[.int .i64 pa, .int .i64 pb] 33))
        have HO1 := Aside0.mk (Kd.R_alloc HO.out (.cells #[.int .i64 pa, .int .i64 pb] 33))
        have HB1 := Aside0.mk (below_alloc HB.out (.cells #[.int .i64 pa, .int .i64 pb] 33))
        clear hx0 hx1 HB HD HSr HO hs0 hs1 hgs
        generalize wr.alloc (.cells #[.int .i64 pa, .int .i64 pb] 33) = W1 at *
        generalize wr.heap.size = gx at *
        by_cases g5 : pb = xb
        · have g6 : (pb == xb) = true := beq_iff_eq.2 g5
          have G5 := Aside0.mk g5
          clear g5
          have hg0 : W1.cell? ⟨gx, 0, none⟩ = some (.int .i64 pa) := (blk_cell HG1.out 0).trans rfl
          have hg1 : W1.cell? ⟨gx, 1, none⟩ = some (.int .i64 pb) := (blk_cell HG1.out 1).trans rfl
          have hs0 : W1.cell? ⟨gs, 0, none⟩ = some (.int .i64 xa) := (blk_cell HS1.out 0).trans rfl
          have hs1 : W1.cell? ⟨gs, 1, none⟩ = some (.int .i64 xb) := (blk_cell HS1.out 1).trans rfl
          go_upto_region 21 with (fail)
          go_upto_region 24 with (fail)
          clear hg0 hg1 hs0 hs1
          have HRD := Aside0.mk (Kd.C_below HP.out HB1.out)
          obtain ⟨ap, A0, c0, rfl, hq, hq0, hqC⟩ := at_L18 HRD.out (k : Int) (by omega) (by have := HLN.out; omega)
          simp only [Int.toNat_natCast] at hq
          have hlp : k < parts.length := by have := HLN.out; omega
          go_upto_region 25 with (first
            | (at_builtin
               refine app_nd (w0 := w) (ys := rd_L18 parts (k : Nat)) rfl rfl rfl rfl (HO1.out) hqC (HB1.out) (by omega) ?_
               intro v2 W2 ho hb hgr
               have HO2 := Aside0.mk ho
               have HB2 := Aside0.mk hb
               have HS2 := Aside0.mk (hgr _ _ _ HS1.out (by decide))
               have HG2 := Aside0.mk (hgr _ _ _ HG1.out (by decide))
               clear ho hb hgr))
          clear hq hqC hq0
          have hg0 : W2.cell? ⟨gx, 0, none⟩ = some (.int .i64 pa) := (blk_cell HG2.out 0).trans rfl
          have hg1 : W2.cell? ⟨gx, 1, none⟩ = some (.int .i64 pb) := (blk_cell HG2.out 1).trans rfl
          have hs0 : W2.cell? ⟨gs, 0, none⟩ = some (.int .i64 xa) := (blk_cell HS2.out 0).trans rfl
          have hs1 : W2.cell? ⟨gs, 1, none⟩ = some (.int .i64 xb) := (blk_cell HS2.out 1).trans rfl
          have HT4 := Aside0.mk (show rowTo_ xa xb 2 kerf xs parts (k + 1) = .ok { out := out ++ rd_L18 parts (k : Nat), edge := mni (pb + kerf) xb, ended := true } by rw [HT3.out, if_neg (show ¬ pa < pa by omega), if_pos G5.out, List.append_nil, decide_eq_true G5.out])
          obtain ⟨ed, hed, hed1, hed2⟩ := HOK.out
          have he2 : (xb < pb + kerf ∧ xb = ed) ∨ (pb + kerf ≤ xb ∧ pb + kerf = ed) := by
            rw [hed]; unfold mni
            by_cases q : xb < pb + kerf
            · rw [if_pos q]; exact Or.inl ⟨q, rfl⟩
            · rw [if_neg q]; exact Or.inr ⟨by omega, rfl⟩
          have HED := Aside0.mk hed
          clear hed
          rcases he2 with ⟨q, rfl⟩ | ⟨q, rfl⟩
          · go_wp2_with fail
            go_roundw
            case rel => exact ⟨k + 1, { out := out ++ rd_L18 parts (k : Nat), edge := xb, ended := true }, by omega, rfl, rfl, by go_num, hed1, hed2, by simp; omega, ⟨by rw [HT4.out, ← HED.out]⟩, HB2, HS2, HO2⟩
            case measure => simp [intOf]; omega
          · go_wp2_with fail
            go_roundw
            case rel => exact ⟨k + 1, { out := out ++ rd_L18 parts (k : Nat), edge := pb + kerf, ended := true }, by omega, rfl, rfl, by go_num, hed1, hed2, by simp; omega, ⟨by rw [HT4.out, ← HED.out]⟩, HB2, HS2, HO2⟩
            case measure => simp [intOf]; omega
        · have g6 : (pb == xb) = false := beq_eq_false_iff_ne.2 g5
          have G5 := Aside0.mk g5
          clear g5
          have hg0 : W1.cell? ⟨gx, 0, none⟩ = some (.int .i64 pa) := (blk_cell HG1.out 0).trans rfl
          have hg1 : W1.cell? ⟨gx, 1, none⟩ = some (.int .i64 pb) := (blk_cell HG1.out 1).trans rfl
          have hs0 : W1.cell? ⟨gs, 0, none⟩ = some (.int .i64 xa) := (blk_cell HS1.out 0).trans rfl
          have hs1 : W1.cell? ⟨gs, 1, none⟩ = some (.int .i64 xb) := (blk_cell HS1.out 1).trans rfl
          go_upto_region 21 with (fail)
          go_upto_region 24 with (first
            | (at_builtin
               refine app_nd (w0 := w) (ys := [⟨2, pb⟩]) rfl rfl rfl rfl (Kd.R_alloc HO1.out _) (C_one (t := 80) (cs := #[.int .i64 2, .int .i64 pb]) (blk_new _ _) (kNd_mk _ ⟨2, pb⟩)) (below_alloc HB1.out _) (by omega) ?_
               intro v2 W2 ho hb hgr
               have HO2 := Aside0.mk ho
               have HB2 := Aside0.mk hb
               have HS2 := Aside0.mk (hgr _ _ _ (blk_alloc HS1.out _) (by decide))
               have HG2 := Aside0.mk (hgr _ _ _ (blk_alloc HG1.out _) (by decide))
               clear ho hb hgr))
          clear hg0 hg1 hs0 hs1
          have HRD := Aside0.mk (Kd.C_below HP.out HB2.out)
          obtain ⟨ap, A0, c0, rfl, hq, hq0, hqC⟩ := at_L18 HRD.out (k : Int) (by omega) (by have := HLN.out; omega)
          simp only [Int.toNat_natCast] at hq
          have hlp : k < parts.length := by have := HLN.out; omega
          go_upto_region 25 with (first
            | (at_builtin
               refine app_nd (w0 := w) (ys := rd_L18 parts (k : Nat)) rfl rfl rfl rfl (HO2.out) hqC (HB2.out) (by simp; omega) ?_
               intro v3 W3 ho hb hgr
               have HO3 := Aside0.mk ho
               have HB3 := Aside0.mk hb
               have HS3 := Aside0.mk (hgr _ _ _ HS2.out (by decide))
               have HG3 := Aside0.mk (hgr _ _ _ HG2.out (by decide))
               clear ho hb hgr))
          clear hq hqC hq0
          have hg0 : W3.cell? ⟨gx, 0, none⟩ = some (.int .i64 pa) := (blk_cell HG3.out 0).trans rfl
          have hg1 : W3.cell? ⟨gx, 1, none⟩ = some (.int .i64 pb) := (blk_cell HG3.out 1).trans rfl
          have hs0 : W3.cell? ⟨gs, 0, none⟩ = some (.int .i64 xa) := (blk_cell HS3.out 0).trans rfl
          have hs1 : W3.cell? ⟨gs, 1, none⟩ = some (.int .i64 xb) := (blk_cell HS3.out 1).trans rfl
          have HT4 := Aside0.mk (show rowTo_ xa xb 2 kerf xs parts (k + 1) = .ok { out := (out ++ [⟨2, pb⟩]) ++ rd_L18 parts (k : Nat), edge := mni (pb + kerf) xb, ended := false } by rw [HT3.out, if_neg (show ¬ pa < pa by omega), if_neg G5.out, decide_eq_false G5.out])
          obtain ⟨ed, hed, hed1, hed2⟩ := HOK.out
          have he2 : (xb < pb + kerf ∧ xb = ed) ∨ (pb + kerf ≤ xb ∧ pb + kerf = ed) := by
            rw [hed]; unfold mni
            by_cases q : xb < pb + kerf
            · rw [if_pos q]; exact Or.inl ⟨q, rfl⟩
            · rw [if_neg q]; exact Or.inr ⟨by omega, rfl⟩
          have HED := Aside0.mk hed
          clear hed
          rcases he2 with ⟨q, rfl⟩ | ⟨q, rfl⟩
          · go_wp2_with fail
            go_roundw
            case rel => exact ⟨k + 1, { out := (out ++ [⟨2, pb⟩]) ++ rd_L18 parts (k : Nat), edge := xb, ended := false }, by omega, rfl, rfl, by go_num, hed1, hed2, by simp; omega, ⟨by rw [HT4.out, ← HED.out]⟩, HB3, HS3, HO3⟩
            case measure => simp [intOf]; omega
          · go_wp2_with fail
            go_roundw
            case rel => exact ⟨k + 1, { out := (out ++ [⟨2, pb⟩]) ++ rd_L18 parts (k : Nat), edge := pb + kerf, ended := false }, by omega, rfl, rfl, by go_num, hed1, hed2, by simp; omega, ⟨by rw [HT4.out, ← HED.out]⟩, HB3, HS3, HO3⟩
            case measure => simp [intOf]; omega
      · go_upto_region 19 with (fail)
        have HG1 := Aside0.mk (blk_new wr (.cells #[.int .i64 pa, .int .i64 pb] 33))
        have HS1 := Aside0.mk (blk_alloc HSr.out (.cells #[.int .i64 pa, .int .i64 pb] 33))
        have HO1 := Aside0.mk (Kd.R_alloc HO.out (.cells #[.int .i64 pa, .int .i64 pb] 33))
        have HB1 := Aside0.mk (below_alloc HB.out (.cells #[.int .i64 pa, .int .i64 pb] 33))
        clear hx0 hx1 HB HD HSr HO hs0 hs1 hgs
        generalize wr.alloc (.cells #[.int .i64 pa, .int .i64 pb] 33) = W1 at *
        generalize wr.heap.size = gx at *
        have g4 : edge < pa := by omega
        by_cases g5 : pb = xb
        · have g6 : (pb == xb) = true := beq_iff_eq.2 g5
          have G5 := Aside0.mk g5
          clear g5
          have hg0 : W1.cell? ⟨gx, 0, none⟩ = some (.int .i64 pa) := (blk_cell HG1.out 0).trans rfl
          have hg1 : W1.cell? ⟨gx, 1, none⟩ = some (.int .i64 pb) := (blk_cell HG1.out 1).trans rfl
          have hs0 : W1.cell? ⟨gs, 0, none⟩ = some (.int .i64 xa) := (blk_cell HS1.out 0).trans rfl
          have hs1 : W1.cell? ⟨gs, 1, none⟩ = some (.int .i64 xb) := (blk_cell HS1.out 1).trans rfl
          go_upto_region 21 with (first
            | (at_builtin
               refine app_nd (w0 := w) (ys := [⟨2, pa - kerf⟩, ⟨0, 0⟩]) rfl rfl rfl rfl (Kd.R_alloc HO1.out _) (C_two (c1 := [.int .i64 2, .int .i64 (pa - kerf)]) (c2 := [.int .i64 0, .int .i64 0]) (blk_new _ _) (kNd_mk _ ⟨2, pa - kerf⟩) (kNd_mk _ ⟨0, 0⟩)) (below_alloc HB1.out _) (by omega) ?_
               intro v2 W2 ho hb hgr
               have HO2 := Aside0.mk ho
               have HB2 := Aside0.mk hb
               have HS2 := Aside0.mk (hgr _ _ _ (blk_alloc HS1.out _) (by decide))
               have HG2 := Aside0.mk (hgr _ _ _ (blk_alloc HG1.out _) (by decide))
               clear ho hb hgr))
          clear hg0 hg1 hs0 hs1
          have hg0 : W2.cell? ⟨gx, 0, none⟩ = some (.int .i64 pa) := (blk_cell HG2.out 0).trans rfl
          have hg1 : W2.cell? ⟨gx, 1, none⟩ = some (.int .i64 pb) := (blk_cell HG2.out 1).trans rfl
          have hs0 : W2.cell? ⟨gs, 0, none⟩ = some (.int .i64 xa) := (blk_cell HS2.out 0).trans rfl
          have hs1 : W2.cell? ⟨gs, 1, none⟩ = some (.int .i64 xb) := (blk_cell HS2.out 1).trans rfl
          go_upto_region 24 with (fail)
          clear hg0 hg1 hs0 hs1
          have HRD := Aside0.mk (Kd.C_below HP.out HB2.out)
          obtain ⟨ap, A0, c0, rfl, hq, hq0, hqC⟩ := at_L18 HRD.out (k : Int) (by omega) (by have := HLN.out; omega)
          simp only [Int.toNat_natCast] at hq
          have hlp : k < parts.length := by have := HLN.out; omega
          go_upto_region 25 with (first
            | (at_builtin
               refine app_nd (w0 := w) (ys := rd_L18 parts (k : Nat)) rfl rfl rfl rfl (HO2.out) hqC (HB2.out) (by simp; omega) ?_
               intro v3 W3 ho hb hgr
               have HO3 := Aside0.mk ho
               have HB3 := Aside0.mk hb
               have HS3 := Aside0.mk (hgr _ _ _ HS2.out (by decide))
               have HG3 := Aside0.mk (hgr _ _ _ HG2.out (by decide))
               clear ho hb hgr))
          clear hq hqC hq0
          have hg0 : W3.cell? ⟨gx, 0, none⟩ = some (.int .i64 pa) := (blk_cell HG3.out 0).trans rfl
          have hg1 : W3.cell? ⟨gx, 1, none⟩ = some (.int .i64 pb) := (blk_cell HG3.out 1).trans rfl
          have hs0 : W3.cell? ⟨gs, 0, none⟩ = some (.int .i64 xa) := (blk_cell HS3.out 0).trans rfl
          have hs1 : W3.cell? ⟨gs, 1, none⟩ = some (.int .i64 xb) := (blk_cell HS3.out 1).trans rfl
          have HT4 := Aside0.mk (show rowTo_ xa xb 2 kerf xs parts (k + 1) = .ok { out := (out ++ [⟨2, pa - kerf⟩, ⟨0, 0⟩]) ++ rd_L18 parts (k : Nat), edge := mni (pb + kerf) xb, ended := true } by rw [HT3.out, if_pos g4, if_pos G5.out, List.append_nil, decide_eq_true G5.out])
          obtain ⟨ed, hed, hed1, hed2⟩ := HOK.out
          have he2 : (xb < pb + kerf ∧ xb = ed) ∨ (pb + kerf ≤ xb ∧ pb + kerf = ed) := by
            rw [hed]; unfold mni
            by_cases q : xb < pb + kerf
            · rw [if_pos q]; exact Or.inl ⟨q, rfl⟩
            · rw [if_neg q]; exact Or.inr ⟨by omega, rfl⟩
          have HED := Aside0.mk hed
          clear hed
          rcases he2 with ⟨q, rfl⟩ | ⟨q, rfl⟩
          · go_wp2_with fail
            go_roundw
            case rel => exact ⟨k + 1, { out := (out ++ [⟨2, pa - kerf⟩, ⟨0, 0⟩]) ++ rd_L18 parts (k : Nat), edge := xb, ended := true }, by omega, rfl, rfl, by go_num, hed1, hed2, by simp; omega, ⟨by rw [HT4.out, ← HED.out]⟩, HB3, HS3, HO3⟩
            case measure => simp [intOf]; omega
          · go_wp2_with fail
            go_roundw
            case rel => exact ⟨k + 1, { out := (out ++ [⟨2, pa - kerf⟩, ⟨0, 0⟩]) ++ rd_L18 parts (k : Nat), edge := pb + kerf, ended := true }, by omega, rfl, rfl, by go_num, hed1, hed2, by simp; omega, ⟨by rw [HT4.out, ← HED.out]⟩, HB3, HS3, HO3⟩
            case measure => simp [intOf]; omega
        · have g6 : (pb == xb) = false := beq_eq_false_iff_ne.2 g5
          have G5 := Aside0.mk g5
          clear g5
          have hg0 : W1.cell? ⟨gx, 0, none⟩ = some (.int .i64 pa) := (blk_cell HG1.out 0).trans rfl
          have hg1 : W1.cell? ⟨gx, 1, none⟩ = some (.int .i64 pb) := (blk_cell HG1.out 1).trans rfl
          have hs0 : W1.cell? ⟨gs, 0, none⟩ = some (.int .i64 xa) := (blk_cell HS1.out 0).trans rfl
          have hs1 : W1.cell? ⟨gs, 1, none⟩ = some (.int .i64 xb) := (blk_cell HS1.out 1).trans rfl
          go_upto_region 21 with (first
            | (at_builtin
               refine app_nd (w0 := w) (ys := [⟨2, pa - kerf⟩, ⟨0, 0⟩]) rfl rfl rfl rfl (Kd.R_alloc HO1.out _) (C_two (c1 := [.int .i64 2, .int .i64 (pa - kerf)]) (c2 := [.int .i64 0, .int .i64 0]) (blk_new _ _) (kNd_mk _ ⟨2, pa - kerf⟩) (kNd_mk _ ⟨0, 0⟩)) (below_alloc HB1.out _) (by omega) ?_
               intro v2 W2 ho hb hgr
               have HO2 := Aside0.mk ho
               have HB2 := Aside0.mk hb
               have HS2 := Aside0.mk (hgr _ _ _ (blk_alloc HS1.out _) (by decide))
               have HG2 := Aside0.mk (hgr _ _ _ (blk_alloc HG1.out _) (by decide))
               clear ho hb hgr))
          clear hg0 hg1 hs0 hs1
          have hg0 : W2.cell? ⟨gx, 0, none⟩ = some (.int .i64 pa) := (blk_cell HG2.out 0).trans rfl
          have hg1 : W2.cell? ⟨gx, 1, none⟩ = some (.int .i64 pb) := (blk_cell HG2.out 1).trans rfl
          have hs0 : W2.cell? ⟨gs, 0, none⟩ = some (.int .i64 xa) := (blk_cell HS2.out 0).trans rfl
          have hs1 : W2.cell? ⟨gs, 1, none⟩ = some (.int .i64 xb) := (blk_cell HS2.out 1).trans rfl
          go_upto_region 24 with (first
            | (at_builtin
               refine app_nd (w0 := w) (ys := [⟨2, pb⟩]) rfl rfl rfl rfl (Kd.R_alloc HO2.out _) (C_one (t := 80) (cs := #[.int .i64 2, .int .i64 pb]) (blk_new _ _) (kNd_mk _ ⟨2, pb⟩)) (below_alloc HB2.out _) (by simp; omega) ?_
               intro v3 W3 ho hb hgr
               have HO3 := Aside0.mk ho
               have HB3 := Aside0.mk hb
               have HS3 := Aside0.mk (hgr _ _ _ (blk_alloc HS2.out _) (by decide))
               have HG3 := Aside0.mk (hgr _ _ _ (blk_alloc HG2.out _) (by decide))
               clear ho hb hgr))
          clear hg0 hg1 hs0 hs1
          have HRD := Aside0.mk (Kd.C_below HP.out HB3.out)
          obtain ⟨ap, A0, c0, rfl, hq, hq0, hqC⟩ := at_L18 HRD.out (k : Int) (by omega) (by have := HLN.out; omega)
          simp only [Int.toNat_natCast] at hq
          have hlp : k < parts.length := by have := HLN.out; omega
          go_upto_region 25 with (first
            | (at_builtin
               refine app_nd (w0 := w) (ys := rd_L18 parts (k : Nat)) rfl rfl rfl rfl (HO3.out) hqC (HB3.out) (by simp; omega) ?_
               intro v4 W4 ho hb hgr
               have HO4 := Aside0.mk ho
               have HB4 := Aside0.mk hb
               have HS4 := Aside0.mk (hgr _ _ _ HS3.out (by decide))
               have HG4 := Aside0.mk (hgr _ _ _ HG3.out (by decide))
               clear ho hb hgr))
          clear hq hqC hq0
          have hg0 : W4.cell? ⟨gx, 0, none⟩ = some (.int .i64 pa) := (blk_cell HG4.out 0).trans rfl
          have hg1 : W4.cell? ⟨gx, 1, none⟩ = some (.int .i64 pb) := (blk_cell HG4.out 1).trans rfl
          have hs0 : W4.cell? ⟨gs, 0, none⟩ = some (.int .i64 xa) := (blk_cell HS4.out 0).trans rfl
          have hs1 : W4.cell? ⟨gs, 1, none⟩ = some (.int .i64 xb) := (blk_cell HS4.out 1).trans rfl
          have HT4 := Aside0.mk (show rowTo_ xa xb 2 kerf xs parts (k + 1) = .ok { out := ((out ++ [⟨2, pa - kerf⟩, ⟨0, 0⟩]) ++ [⟨2, pb⟩]) ++ rd_L18 parts (k : Nat), edge := mni (pb + kerf) xb, ended := false } by rw [HT3.out, if_pos g4, if_neg G5.out, decide_eq_false G5.out])
          obtain ⟨ed, hed, hed1, hed2⟩ := HOK.out
          have he2 : (xb < pb + kerf ∧ xb = ed) ∨ (pb + kerf ≤ xb ∧ pb + kerf = ed) := by
            rw [hed]; unfold mni
            by_cases q : xb < pb + kerf
            · rw [if_pos q]; exact Or.inl ⟨q, rfl⟩
            · rw [if_neg q]; exact Or.inr ⟨by omega, rfl⟩
          have HED := Aside0.mk hed
          clear hed
          rcases he2 with ⟨q, rfl⟩ | ⟨q, rfl⟩
          · go_wp2_with fail
            go_roundw
            case rel => exact ⟨k + 1, { out := ((out ++ [⟨2, pa - kerf⟩, ⟨0, 0⟩]) ++ [⟨2, pb⟩]) ++ rd_L18 parts (k : Nat), edge := xb, ended := false }, by omega, rfl, rfl, by go_num, hed1, hed2, by simp; omega, ⟨by rw [HT4.out, ← HED.out]⟩, HB4, HS4, HO4⟩
            case measure => simp [intOf]; omega
          · go_wp2_with fail
            go_roundw
            case rel => exact ⟨k + 1, { out := ((out ++ [⟨2, pa - kerf⟩, ⟨0, 0⟩]) ++ [⟨2, pb⟩]) ++ rd_L18 parts (k : Nat), edge := pb + kerf, ended := false }, by omega, rfl, rfl, by go_num, hed1, hed2, by simp; omega, ⟨by rw [HT4.out, ← HED.out]⟩, HB4, HS4, HO4⟩
            case measure => simp [intOf]; omega
    · obtain rfl : k = xs.length := by omega
      have HE := Aside0.mk (show R = rowEnd (.ok st) by rw [HR.out]; unfold rowNodes; rw [HA.out])
      obtain ⟨out, edge, ended⟩ := st
      dsimp only at b1 b2 b3 HO ⊢
      cases ended with
      | true =>
        obtain ⟨A1, c1, rfl⟩ := Kd.R_slice HO.out
        obtain ⟨e1, e2, e3⟩ := Kd.R_reads' HO.out
        have E3 := Aside0.mk (fun W hf => (Kd.R_reads' (R_fr (W := W) HO.out hf)).2.2)
        clear e1 e3 HO
        by_cases h127 : 127 < out.length
        · have HE1 := Aside0.mk (show R = ([], 4) from HE.out.trans (if_pos h127))
          have h128 : 127 < (out.length : Int) := by omega
          go_wp2
          go_ret2
          exact ⟨⟨none, 0, by rw [HE1.out]; rfl, by rw [HE1.out]; simp, by rw [HE1.out]; exact fun _ _ => Kd.C_nil kNd _⟩, HB.out⟩
        · have HE1 := Aside0.mk (show R = (out, 0) from HE.out.trans (if_neg h127))
          have h128 : (out.length : Int) ≤ 127 := by omega
          go_wp2
          go_ret2
          exact ⟨⟨A1, c1, by rw [HE1.out]; rfl, by rw [HE1.out]; exact e2, by rw [HE1.out]; exact E3.out⟩, HB.out⟩
      | false =>
        go_upto_region 29 with (first
          | (at_builtin
             refine app_nd (w0 := w) (ys := [⟨0, 0⟩]) rfl rfl rfl rfl (Kd.R_alloc HO.out _) (C_one (t := 80) (cs := #[.int .i64 0, .int .i64 0]) (blk_new _ _) (kNd_mk _ ⟨0, 0⟩)) (below_alloc HB.out _) (by omega) ?_
             intro v2 W2 ho hb hgr
             have HO2 := Aside0.mk ho
             have HB2 := Aside0.mk hb
             clear ho hb hgr))
        obtain ⟨A1, c1, rfl⟩ := Kd.R_slice HO2.out
        obtain ⟨e1, e2, e3⟩ := Kd.R_reads' HO2.out
        have E3 := Aside0.mk (fun W hf => (Kd.R_reads' (R_fr (W := W) HO2.out hf)).2.2)
        clear e1 e3 HO2 HO HB hs0 hs1 HSr HD
        have HE2 := Aside0.mk (show R = if 127 < (out ++ [(⟨0, 0⟩ : Nd)]).length then ([], 4) else (out ++ [(⟨0, 0⟩ : Nd)], 0) from HE.out)
        obtain ⟨q, hq⟩ : ∃ q : List Nd, q = out ++ [⟨0, 0⟩] := ⟨_, rfl⟩
        rw [← hq] at e2 E3 HE2 ⊢
        by_cases h127 : 127 < q.length
        · have HE1 := Aside0.mk (show R = ([], 4) from HE2.out.trans (if_pos h127))
          have h128 : 127 < (q.length : Int) := by omega
          clear hq
          go_wp2
          go_ret2
          exact ⟨⟨none, 0, by rw [HE1.out]; rfl, by rw [HE1.out]; simp, by rw [HE1.out]; exact fun _ _ => Kd.C_nil kNd _⟩, HB2.out⟩
        · have HE1 := Aside0.mk (show R = (q, 0) from HE2.out.trans (if_neg h127))
          have h128 : (q.length : Int) ≤ 127 := by omega
          clear hq
          go_wp2
          go_ret2
          exact ⟨⟨A1, c1, by rw [HE1.out]; rfl, by rw [HE1.out]; exact e2, by rw [HE1.out]; exact E3.out⟩, HB2.out⟩
end Go.Proofs.YtngpoonjonojhaaDoor
