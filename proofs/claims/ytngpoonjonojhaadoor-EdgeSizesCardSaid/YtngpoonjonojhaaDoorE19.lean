/- Walks: the widths into which a strip can be ripped. -/
import Derived.Test.YtngpoonjonojhaaDoorE09
import Derived.Test.YtngpoonjonojhaaDoorE12
import Derived.Test.YtngpoonjonojhaaDoorE03
import Derived.Test.YtngpoonjonojhaaDoorE08
import Derived.Test.YtngpoonjonojhaaDoorE11
import Derived.Deep.CutBlock
import Derived.Deep.DeepCutAuto
set_option linter.all false
namespace Go.Proofs.YtngpoonjonojhaaDoor
open Go.RowKit Go.Proofs.YtngpoonjonojhaaDoorW.PrintWords Go.Proofs.YtngpoonjonojhaaDoorW.PrintLast
set_option linter.unusedVariables false
theorem widthsTo_len (c : List Prod) (h : Int) : ∀ k, (widthsTo c h k).length ≤ k
  | 0 => by simp [widthsTo]
  | k + 1 => by
    have := widthsTo_len c h k
    simp only [widthsTo]
    split
    · omega
    · simp; omega
theorem prodsTo_len (c : List Prod) (h : Int) : ∀ k, (prodsTo c h k).length = (widthsTo c h k).length
  | 0 => rfl
  | k + 1 => by
    have := prodsTo_len c h k
    simp only [widthsTo, prodsTo]
    split
    · exact this
    · simp [this]
theorem catCheck_len {c : List Prod} (h : catCheck c = 0) : c.length ≤ 16 := by
  unfold catCheck at h
  by_cases g : 16 < c.length
  · rw [if_pos g] at h; omega
  · omega

set_option maxHeartbeats 4000000 in
set_option maxRecDepth 100000 in
theorem sizes_calls (A : Option Addr) (c : Nat) (ps : List Prod) (hh : Int) (w : World) (hn : ∀ i, i < ps.length → (rd_Prod ps i).name.size ≤ 9223372036854775807) (hr : Kd.C kProd w A ps.length ps) (hc : ps.length ≤ c) :
    Calls Tryd.prog 10 #[.slice A ps.length c, .int .i64 hh] w fun e w' => (∃ v v', e = .returned (.tuple #[v, v']) ∧ OwnRow (fun p c => c = [.int .i64 p]) 3 1 w' w.heap.size v (widthsOf ps hh) ∧ OwnRow (fun p c => c = [.int .i64 p]) 3 1 w' w.heap.size v' (prodsOf ps hh)) ∧ Below w.heap.size w w' := by
  have HB := Aside0.mk (Below.refl w.heap.size w)
  have HR := Aside0.mk hr
  have HN := Aside0.mk hn
  have HC := Aside0.mk hc
  clear hr hn hc
  go_enter Tryd.func10, Tryd.ntmps10
  go_wp2_with fail
  refine (catCheck_calls _ _ ps _ ?c0 ?c1 ?c2).mono ?_
  case c0 => exact HN.out
  case c1 => exact Kd.C_below HR.out BB
  case c2 => exact HC.out
  rintro e w1 ⟨rfl, hb1⟩
  obtain ⟨hB1, hb2⟩ := adv HB.out hb1
  replace HB := Aside0.mk hB1
  clear hb1 hB1 hb2
  by_cases e1 : catCheck ps = 0
  rotate_left
  · have F1 := Aside0.mk (show widthsOf ps hh = [] from if_neg e1)
    have F2 := Aside0.mk (show prodsOf ps hh = [] from if_neg e1)
    have e2 : (catCheck ps != 0) = true := bne_iff_ne.2 e1
    clear e1
    go_wp2
    go_ret2
    exact ⟨⟨_, _, rfl, by rw [F1.out]; exact OwnRow.none_ _ _ _ _ _, by rw [F2.out]; exact OwnRow.none_ _ _ _ _ _⟩, HB.out⟩
  have F1 := Aside0.mk (show widthsOf ps hh = widthsTo ps hh ps.length from if_pos e1)
  have F2 := Aside0.mk (show prodsOf ps hh = prodsTo ps hh ps.length from if_pos e1)
  have hlen := catCheck_len e1
  rw [e1]
  clear e1
  go_wp2
  go_loopw [6, 7, 17] (fun v v' i wr => ∃ k : Nat, k ≤ ps.length ∧ i = .int .i64 k ∧ Aside0 (Below w.heap.size w wr) ∧ Aside0 (OwnRow (fun p c => c = [.int .i64 p]) 3 1 wr w.heap.size v (widthsTo ps hh k)) ∧ Aside0 (OwnRow (fun p c => c = [.int .i64 p]) 3 1 wr w.heap.size v' (prodsTo ps hh k)) ∧ Aside0 (NeRow v v')) (fun _ _ i _ => ps.length - (intOf i).toNat)
  case atStart => exact ⟨0, by omega, rfl, HB, ⟨OwnRow.none_ _ _ _ _ _⟩, ⟨OwnRow.none_ _ _ _ _ _⟩, ⟨ne_nil _⟩⟩
  case round =>
    clear HB
    obtain ⟨k, hk, rfl, HB, HE, HW, HNE⟩ := hrel
    by_cases hlt : k < ps.length
    · obtain ⟨ad, A5, c5, A6, c6, rfl, hx0, hx1, hx2, hx3, hx4, hx5, hx6, hrest⟩ := at_Prod (Kd.C_below HR.out HB.out) k (by omega) (by omega)
      simp only [Int.toNat_natCast] at hx0 hx1 hx2 hx3 hx4 hx5 hx6
      clear hrest
      have wl := widthsTo_len ps hh k
      have HTw := Aside0.mk (show widthsTo ps hh (k + 1) = (match szOf (rd_Prod ps k) hh with | none => widthsTo ps hh k | some w => widthsTo ps hh k ++ [w]) from rfl)
      have HTp := Aside0.mk (show prodsTo ps hh (k + 1) = (match szOf (rd_Prod ps k) hh with | none => prodsTo ps hh k | some _ => prodsTo ps hh k ++ [(k : Int)]) from rfl)
      go_wp2_with fail
      refine (green_calls _ _ _ _ _ _ _ _ _ _ _ _).mono ?_
      rintro e w2 ⟨rfl, hb1⟩
      have hB2 := adv HB.out hb1
      have HB2 := Aside0.mk hB2.1
      have HE2 := Aside0.mk (OwnRow.below HE.out hB2.2)
      have HW2 := Aside0.mk (OwnRow.below HW.out hB2.2)
      clear hb1 hB2 HB HE HW hx0 hx1 hx2 hx3 hx4 hx5 hx6
      have HS := Aside0.mk (show szOf (rd_Prod ps k) hh = if hh = greenT (rd_Prod ps k).thick (rd_Prod ps k).width (rd_Prod ps k).allow then some (greenW (rd_Prod ps k).thick (rd_Prod ps k).width (rd_Prod ps k).allow) else if hh = greenW (rd_Prod ps k).thick (rd_Prod ps k).width (rd_Prod ps k).allow then some (greenT (rd_Prod ps k).thick (rd_Prod ps k).width (rd_Prod ps k).allow) else none from rfl)
      generalize greenT (rd_Prod ps k).thick (rd_Prod ps k).width (rd_Prod ps k).allow = gt at *
      generalize greenW (rd_Prod ps k).thick (rd_Prod ps k).width (rd_Prod ps k).allow = gw at *
      by_cases g1 : hh = gt
      · have HS1 := Aside0.mk (HS.out.trans (if_pos g1))
        have HTw1 := Aside0.mk (show widthsTo ps hh (k + 1) = widthsTo ps hh k ++ [gw] by rw [HTw.out, HS1.out])
        have HTp1 := Aside0.mk (show prodsTo ps hh (k + 1) = prodsTo ps hh k ++ [(k : Int)] by rw [HTp.out, HS1.out])
        have g2 : (hh == gt) = true := beq_iff_eq.2 g1
        clear g1 HS HS1 HTw HTp
        have HL := Aside0.mk (show ((widthsTo ps hh k).length + 1) * 8 ≤ 140737488355328 by omega)
        have HL2 := Aside0.mk (show ((prodsTo ps hh k).length + 1) * 8 ≤ 140737488355328 by rw [prodsTo_len]; omega)
        have T1 : Aside0 (∀ (ops : Array Oper) (Q : Exit → Act → World → Prop) (o : Oper) (rest : List Oper) (a : Act), o.guard = none → o.op = .call { callee := .builtin .append, args := #[.tmp 31, .tmp 33], argTypes := #[25, 25] } → a.eval (.tmp 31) = u6 → a.eval (.tmp 33) = .slice (some ⟨w2.heap.size, 0, none⟩) 1 1 → (∀ v1 w1, OwnRow (fun p c => c = [.int .i64 p]) 3 1 w1 w.heap.size v1 (widthsTo ps hh k ++ [gw]) → Below w.heap.size w w1 → w2.grownBy w1 (u6 : Value).ownBlock → (v1.ownBlock = (u6 : Value).ownBlock ∨ ∃ b, v1.ownBlock = some b ∧ w2.heap.size ≤ b) → wpList Tryd.prog ops Q rest (a.put o.dst v1) w1) → wpList Tryd.prog ops Q (o :: rest) a (w2.alloc (.cells #[.int .i64 gw] 3))) := by
          refine ⟨fun ops Q o rest a hg ho h1 h2 h => ?_⟩
          exact OwnRow.append (W := w2) (w0 := w) (R := fun p c => c = [.int .i64 p]) w.heap.size hg (.tmp 31) (.tmp 33) 25 3 (.int .i64 0) 1 8 ho Tryd.underlying25 infoInt rfl (by decide) (by decide) (u6) (widthsTo ps hh k) (gw) [.int .i64 gw] h1 h2 rfl rfl (by simp [Value.oneCell']) HE2.out HB2.out (Below.size HB2.out) HL.out h
        go_wp2_with (first
          | (at_builtin
             refine T1.out _ _ _ _ _ rfl rfl rfl rfl ?_
             intro v1 w3 ho hb hg hat
             have HW3 := Aside0.mk (OwnRow.other HW2.out hg (ne_other HNE.out))
             have HN3 := Aside0.mk (ne_append_row HNE.out hat HW2.out)
             have HE3 := Aside0.mk ho
             have HB3 := Aside0.mk hb
             clear ho hb hg hat T1
             have T2 : Aside0 (∀ (ops : Array Oper) (Q : Exit → Act → World → Prop) (o : Oper) (rest : List Oper) (a : Act), o.guard = none → o.op = .call { callee := .builtin .append, args := #[.tmp 35, .tmp 37], argTypes := #[25, 25] } → a.eval (.tmp 35) = u7 → a.eval (.tmp 37) = .slice (some ⟨w3.heap.size, 0, none⟩) 1 1 → (∀ v1 w1, OwnRow (fun p c => c = [.int .i64 p]) 3 1 w1 w.heap.size v1 (prodsTo ps hh k ++ [(k : Int)]) → Below w.heap.size w w1 → w3.grownBy w1 (u7 : Value).ownBlock → (v1.ownBlock = (u7 : Value).ownBlock ∨ ∃ b, v1.ownBlock = some b ∧ w3.heap.size ≤ b) → wpList Tryd.prog ops Q rest (a.put o.dst v1) w1) → wpList Tryd.prog ops Q (o :: rest) a (w3.alloc (.cells #[.int .i64 (k : Int)] 3))) := by
               refine ⟨fun ops Q o rest a hg ho h1 h2 h => ?_⟩
               exact OwnRow.append (W := w3) (w0 := w) (R := fun p c => c = [.int .i64 p]) w.heap.size hg (.tmp 35) (.tmp 37) 25 3 (.int .i64 0) 1 8 ho Tryd.underlying25 infoInt rfl (by decide) (by decide) (u7) (prodsTo ps hh k) ((k : Int)) [.int .i64 (k : Int)] h1 h2 rfl rfl (by simp [Value.oneCell']) HW3.out HB3.out (Below.size HB3.out) HL2.out h)
          | (at_builtin
             refine T2.out _ _ _ _ _ rfl rfl rfl rfl ?_
             intro v3 w4 ho hb hg hat
             have HE4 := Aside0.mk (OwnRow.other HE3.out hg (ne_other (ne_symm HN3.out)))
             have HN4 := Aside0.mk (ne_symm (ne_append_row (ne_symm HN3.out) hat HE3.out))
             have HW4 := Aside0.mk ho
             have HB4 := Aside0.mk hb
             clear ho hb hg hat T2))
        go_roundw
        case rel => exact ⟨k + 1, by omega, by go_num, HB4, ⟨by rw [HTw1.out]; exact HE4.out⟩, ⟨by rw [HTp1.out]; exact HW4.out⟩, HN4⟩
        case measure => simp [intOf]; omega
      · by_cases g3 : hh = gw
        · have HS1 := Aside0.mk (HS.out.trans ((if_neg g1).trans (if_pos g3)))
          have HTw1 := Aside0.mk (show widthsTo ps hh (k + 1) = widthsTo ps hh k ++ [gt] by rw [HTw.out, HS1.out])
          have HTp1 := Aside0.mk (show prodsTo ps hh (k + 1) = prodsTo ps hh k ++ [(k : Int)] by rw [HTp.out, HS1.out])
          have g2 : (hh == gt) = false := beq_eq_false_iff_ne.2 g1
          have g4 : (hh == gw) = true := beq_iff_eq.2 g3
          clear g1 g3 HS HS1 HTw HTp
          have HL := Aside0.mk (show ((widthsTo ps hh k).length + 1) * 8 ≤ 140737488355328 by omega)
          have HL2 := Aside0.mk (show ((prodsTo ps hh k).length + 1) * 8 ≤ 140737488355328 by rw [prodsTo_len]; omega)
          have T1 : Aside0 (∀ (ops : Array Oper) (Q : Exit → Act → World → Prop) (o : Oper) (rest : List Oper) (a : Act), o.guard = none → o.op = .call { callee := .builtin .append, args := #[.tmp 42, .tmp 44], argTypes := #[25, 25] } → a.eval (.tmp 42) = u6 → a.eval (.tmp 44) = .slice (some ⟨w2.heap.size, 0, none⟩) 1 1 → (∀ v1 w1, OwnRow (fun p c => c = [.int .i64 p]) 3 1 w1 w.heap.size v1 (widthsTo ps hh k ++ [gt]) → Below w.heap.size w w1 → w2.grownBy w1 (u6 : Value).ownBlock → (v1.ownBlock = (u6 : Value).ownBlock ∨ ∃ b, v1.ownBlock = some b ∧ w2.heap.size ≤ b) → wpList Tryd.prog ops Q rest (a.put o.dst v1) w1) → wpList Tryd.prog ops Q (o :: rest) a (w2.alloc (.cells #[.int .i64 gt] 3))) := by
            refine ⟨fun ops Q o rest a hg ho h1 h2 h => ?_⟩
            exact OwnRow.append (W := w2) (w0 := w) (R := fun p c => c = [.int .i64 p]) w.heap.size hg (.tmp 42) (.tmp 44) 25 3 (.int .i64 0) 1 8 ho Tryd.underlying25 infoInt rfl (by decide) (by decide) (u6) (widthsTo ps hh k) (gt) [.int .i64 gt] h1 h2 rfl rfl (by simp [Value.oneCell']) HE2.out HB2.out (Below.size HB2.out) HL.out h
          go_wp2_with (first
            | (at_builtin
               refine T1.out _ _ _ _ _ rfl rfl rfl rfl ?_
               intro v1 w3 ho hb hg hat
               have HW3 := Aside0.mk (OwnRow.other HW2.out hg (ne_other HNE.out))
               have HN3 := Aside0.mk (ne_append_row HNE.out hat HW2.out)
               have HE3 := Aside0.mk ho
               have HB3 := Aside0.mk hb
               clear ho hb hg hat T1
               have T2 : Aside0 (∀ (ops : Array Oper) (Q : Exit → Act → World → Prop) (o : Oper) (rest : List Oper) (a : Act), o.guard = none → o.op = .call { callee := .builtin .append, args := #[.tmp 46, .tmp 48], argTypes := #[25, 25] } → a.eval (.tmp 46) = u7 → a.eval (.tmp 48) = .slice (some ⟨w3.heap.size, 0, none⟩) 1 1 → (∀ v1 w1, OwnRow (fun p c => c = [.int .i64 p]) 3 1 w1 w.heap.size v1 (prodsTo ps hh k ++ [(k : Int)]) → Below w.heap.size w w1 → w3.grownBy w1 (u7 : Value).ownBlock → (v1.ownBlock = (u7 : Value).ownBlock ∨ ∃ b, v1.ownBlock = some b ∧ w3.heap.size ≤ b) → wpList Tryd.prog ops Q rest (a.put o.dst v1) w1) → wpList Tryd.prog ops Q (o :: rest) a (w3.alloc (.cells #[.int .i64 (k : Int)] 3))) := by
                 refine ⟨fun ops Q o rest a hg ho h1 h2 h => ?_⟩
                 exact OwnRow.append (W := w3) (w0 := w) (R := fun p c => c = [.int .i64 p]) w.heap.size hg (.tmp 46) (.tmp 48) 25 3 (.int .i64 0) 1 8 ho Tryd.underlying25 infoInt rfl (by decide) (by decide) (u7) (prodsTo ps hh k) ((k : Int)) [.int .i64 (k : Int)] h1 h2 rfl rfl (by simp [Value.oneCell']) HW3.out HB3.out (Below.size HB3.out) HL2.out h)
            | (at_builtin
               refine T2.out _ _ _ _ _ rfl rfl rfl rfl ?_
               intro v3 w4 ho hb hg hat
               have HE4 := Aside0.mk (OwnRow.other HE3.out hg (ne_other (ne_symm HN3.out)))
               have HN4 := Aside0.mk (ne_symm (ne_append_row (ne_symm HN3.out) hat HE3.out))
               have HW4 := Aside0.mk ho
               have HB4 := Aside0.mk hb
               clear ho hb hg hat T2))
          go_roundw
          case rel => exact ⟨k + 1, by omega, by go_num, HB4, ⟨by rw [HTw1.out]; exact HE4.out⟩, ⟨by rw [HTp1.out]; exact HW4.out⟩, HN4⟩
          case measure => simp [intOf]; omega
        · have HS1 := Aside0.mk (HS.out.trans ((if_neg g1).trans (if_neg g3)))
          have HTw1 := Aside0.mk (show widthsTo ps hh (k + 1) = widthsTo ps hh k by rw [HTw.out, HS1.out])
          have HTp1 := Aside0.mk (show prodsTo ps hh (k + 1) = prodsTo ps hh k by rw [HTp.out, HS1.out])
          have g2 : (hh == gt) = false := beq_eq_false_iff_ne.2 g1
          have g4 : (hh == gw) = false := beq_eq_false_iff_ne.2 g3
          clear g1 g3 HS HS1 HTw HTp
          go_wp2
          go_roundw
          case rel => exact ⟨k + 1, by omega, by go_num, HB2, ⟨by rw [HTw1.out]; exact HE2.out⟩, ⟨by rw [HTp1.out]; exact HW2.out⟩, HNE⟩
          case measure => simp [intOf]; omega
    · obtain rfl : k = ps.length := by omega
      go_wp2
      go_ret2
      exact ⟨⟨_, _, rfl, by rw [F1.out]; exact HE.out, by rw [F2.out]; exact HW.out⟩, HB.out⟩
end Go.Proofs.YtngpoonjonojhaaDoor
