/- Words and walks that the row leans on: WPar, WLen. -/
import Derived.Test.YtngpoonjonojhaaDoorE04
import Derived.Test.YtngpoonjonojhaaDoorE05
import Derived.Deep.RegionHeld3
set_option linter.all false
/-! Walks. -/
namespace Go.Proofs.YtngpoonjonojhaaDoor
open Go.RowKit Go.Proofs.YtngpoonjonojhaaDoorW.PrintWords Go.Proofs.YtngpoonjonojhaaDoorW.PrintLast
set_option linter.unusedVariables false


theorem infoPart : (Tryd.prog.info? 92).map (fun i => (i.zero, i.size, i.bytes)) = some (some (.agg #[.int .i64 0, .int .i64 0, .int .i64 0, .slice none 0 0]), 4, 48) := by kernel_rfl
theorem lenTo_le {l : List Slc} (h : ∀ i, i < l.length → slcErr1 l i = 0) : ∀ k, k ≤ l.length → 0 ≤ lenTo l k ∧ lenTo l k ≤ 20000
  | 0, _ => by simp [lenTo]
  | k + 1, hk => by
    have a := lenTo_le h k (by omega)
    have b := h k (by omega)
    unfold slcErr1 at b
    by_cases c1 : secCheck (rd_Slc l k).sec.low (rd_Slc l k).sec.rows ≠ 0
    · rw [if_pos c1] at b; exact absurd b c1
    rw [if_neg c1] at b
    by_cases c2 : (rd_Slc l k).sec.rows.length = 0
    · rw [if_pos c2] at b; omega
    rw [if_neg c2] at b
    by_cases c3 : (rd_Slc l k).len < 1 ∨ 20000 - lenTo l k < (rd_Slc l k).len
    · rw [if_pos c3] at b; omega
    simp only [lenTo]
    omega
theorem slc_pos {l : List Slc} (h : ∀ i, i < l.length → slcErr1 l i = 0) {i : Nat} (hi : i < l.length) : secCheck (rd_Slc l i).sec.low (rd_Slc l i).sec.rows = 0 ∧ 0 < (rd_Slc l i).sec.rows.length ∧ 1 ≤ (rd_Slc l i).len := by
  have b := h i hi
  unfold slcErr1 at b
  by_cases c1 : secCheck (rd_Slc l i).sec.low (rd_Slc l i).sec.rows ≠ 0
  · rw [if_pos c1] at b; exact absurd b c1
  rw [if_neg c1] at b
  by_cases c2 : (rd_Slc l i).sec.rows.length = 0
  · rw [if_pos c2] at b; omega
  rw [if_neg c2] at b
  by_cases c3 : (rd_Slc l i).len < 1 ∨ 20000 - lenTo l i < (rd_Slc l i).len
  · rw [if_pos c3] at b; omega
  exact ⟨by omega, by omega, by omega⟩
theorem partsTo_len (l : List Slc) (z : Sp) : ∀ k, (partsTo l z k).length ≤ k
  | 0 => by simp [partsTo]
  | k + 1 => by have := partsTo_len l z k; simp only [partsTo, List.length_append]; split <;> simp <;> omega
theorem solCheck_ok {l : List Slc} (h : solCheck l = 0) : l.length ≤ 24 ∧ 0 < l.length ∧ ∀ i, i < l.length → slcErr1 l i = 0 := by
  unfold solCheck at h
  by_cases c1 : l.length = 0
  · rw [if_pos c1] at h; omega
  rw [if_neg c1] at h
  by_cases c2 : 24 < l.length
  · rw [if_pos c2] at h; omega
  rw [if_neg c2] at h
  exact ⟨by omega, by omega, firstErr_zero h⟩

set_option maxRecDepth 100000 in
set_option maxHeartbeats 2000000 in
theorem parts_calls (A : Option Addr) (c : Nat) (l : List Slc) (za zb : Int) (w : World) (hr : Kd.C kSlc w A l.length l) :
    Calls Tryd.prog 33 #[.slice A l.length c, .agg #[.int .i64 za, .int .i64 zb]] w fun e w' => (∃ A' c', e = .returned (.slice A' (parts l ⟨za, zb⟩).length c') ∧ (parts l ⟨za, zb⟩).length ≤ c' ∧ Kd.C kPrt w' A' (parts l ⟨za, zb⟩).length (parts l ⟨za, zb⟩)) ∧ Below w.heap.size w w' := by
  have HB := Aside0.mk (Below.refl w.heap.size w)
  have HR := Aside0.mk hr
  clear hr
  by_cases h : solCheck l = 0
  · have HF := Aside0.mk (show parts l ⟨za, zb⟩ = partsTo l ⟨za, zb⟩ l.length from if_pos h)
    have HH := Aside0.mk h
    clear h
    go_enter Tryd.func33, Tryd.ntmps33
    go_wp2_with fail
    refine (solCheck_calls _ _ l _ ?c1).mono ?_
    case c1 => exact Kd.C_below HR.out BB
    rintro e w1 ⟨rfl, hb1⟩
    obtain ⟨hB1, hb2⟩ := adv HB.out hb1
    have hz : w1.heap[w.heap.size]? = some (.cells #[.int .i64 za, .int .i64 zb] 33 (0, 0)) := blk_below (by repeat (first | exact blk_newi _ (by simp) | refine blk_drewN ?_ _ | refine blk_drew ?_ | refine blk_alloc ?_ _)) hb1
    have hz_0 : w1.cell? ⟨w.heap.size, 0, none⟩ = some (.int .i64 za) := (blk_cell hz 0).trans rfl
    have hz_1 : w1.cell? ⟨w.heap.size, 1, none⟩ = some (.int .i64 zb) := (blk_cell hz 1).trans rfl
    replace hz := Aside0.mk hz
    have hlt : w.heap.size < w1.heap.size := by have hq_ := hb1.size; simp at hq_; omega
    have hlt1 : w.heap.size < w1.heap.size + 1 := by have hq_ := hb1.size; simp at hq_; omega
    have hlt2 : w.heap.size < w1.heap.size + 1 + 1 := by have hq_ := hb1.size; simp at hq_; omega
    have hlt3 : w.heap.size < w1.heap.size + 1 + 1 + 1 := by have hq_ := hb1.size; simp at hq_; omega
    replace HB := Aside0.mk hB1
    clear hb1 hB1 hb2
    rw [HH.out]
    have HO := Aside0.mk (solCheck_ok HH.out)
    go_wp2
    go_loopw [5, 6, 15] (fun v at_ i wr => ∃ k : Nat, k ≤ l.length ∧ at_ = .int .i64 (lenTo l k) ∧ i = .int .i64 k ∧ Aside0 (Below w.heap.size w wr) ∧ Aside0 (wr.heap[w.heap.size]? = some (.cells #[.int .i64 za, .int .i64 zb] 33 (0, 0))) ∧ Aside0 (OwnRow (fun p c => kPrt.K w p c) 92 4 wr w.heap.size v (partsTo l ⟨za, zb⟩ k))) (fun _ _ i _ => l.length - (intOf i).toNat)
    case atStart => exact ⟨0, by omega, rfl, rfl, HB, hz, ⟨OwnRow.none_ _ _ _ _ _⟩⟩
    case round =>
      clear hz hz_0 hz_1 hlt hlt1 hlt2 hlt3 HB
      obtain ⟨k, hk, rfl, rfl, HB, HZ, HV⟩ := hrel
      have hz0 : wr.cell? ⟨w.heap.size, 0, none⟩ = some (.int .i64 za) := (blk_cell HZ.out 0).trans rfl
      have hz1 : wr.cell? ⟨w.heap.size, 1, none⟩ = some (.int .i64 zb) := (blk_cell HZ.out 1).trans rfl
      obtain ⟨o1, o2, o3⟩ := HO.out
      by_cases hlt : k < l.length
      · obtain ⟨ad, A2, c2, rfl, hx0, hx1, hx2, hl2, hr2⟩ := at_Slc HR.out k (by omega) (by omega)
        simp only [Int.toNat_natCast] at hx0 hx1 hx2
        replace hx0 := pw_cell_below HB.out hx0
        replace hx1 := pw_cell_below HB.out hx1
        replace hx2 := pw_cell_below HB.out hx2
        have HR2 := Aside0.mk hr2
        have HL2 := Aside0.mk hl2
        clear hr2 hl2
        have hsz : w.heap.size < wr.heap.size := blk_lt HZ.out
        have hsz1 : w.heap.size < wr.heap.size + 1 := by omega
        have hsz2 : w.heap.size < wr.heap.size + 1 + 1 := by omega
        have bn1 := lenTo_le o3 k hk
        have bn2 := lenTo_le o3 (k + 1) hlt
        simp only [lenTo] at bn2
        obtain ⟨b1, b2⟩ := bn1
        obtain ⟨b3, b4⟩ := bn2
        have O3 := Aside0.mk o3
        clear o3
        go_wp2_with fail
        refine (spMeet_calls _ _ _ _ _).mono ?_
        rintro e w1 ⟨rfl, hb1⟩
        have hv : w1.heap[wr.heap.size]? = some (.cells #[.int .i64 (rd_Slc l k).len, .int .i64 (rd_Slc l k).sec.low, .slice A2 (rd_Slc l k).sec.rows.length c2] 54 (0, 0)) := blk_below KK hb1
        have hv0 : w1.cell? ⟨wr.heap.size, 0, none⟩ = some (.int .i64 (rd_Slc l k).len) := (blk_cell hv 0).trans rfl
        have hv1 : w1.cell? ⟨wr.heap.size, 1, none⟩ = some (.int .i64 (rd_Slc l k).sec.low) := (blk_cell hv 1).trans rfl
        have hv2 : w1.cell? ⟨wr.heap.size, 2, none⟩ = some (.slice A2 (rd_Slc l k).sec.rows.length c2) := (blk_cell hv 2).trans rfl
        obtain ⟨hB1, hb2⟩ := adv HB.out hb1
        have hs0 : wr.heap.size < w1.heap.size := by have h := hb1.size; simp at h; omega
        have hs1 : wr.heap.size < w1.heap.size + 1 := by omega
        have hs2 : wr.heap.size < w1.heap.size + 1 + 1 := by omega
        have HZ1 := Aside0.mk (blk_below HZ.out hb2)
        have HV1 := Aside0.mk (OwnRow.below HV.out hb2)
        have HB1 := Aside0.mk hB1
        have HX := Aside0.mk hv
        clear hb1 hB1 hb2 hv hx0 hx1 hx2 hz0 hz1 hsz hsz1 hsz2 HZ HV HB
        have HM := Aside0.mk (show partsTo l ⟨za, zb⟩ (k + 1) = partsTo l ⟨za, zb⟩ k ++ (if (spMeet ⟨lenTo l k, lenTo l k + (rd_Slc l k).len⟩ ⟨za, zb⟩).a < (spMeet ⟨lenTo l k, lenTo l k + (rd_Slc l k).len⟩ ⟨za, zb⟩).b then [⟨(spMeet ⟨lenTo l k, lenTo l k + (rd_Slc l k).len⟩ ⟨za, zb⟩), (rd_Slc l k).sec⟩] else []) from rfl)
        have HT := Aside0.mk (show lenTo l (k + 1) = lenTo l k + (rd_Slc l k).len from rfl)
        by_cases g : (spMeet ⟨lenTo l k, lenTo l k + (rd_Slc l k).len⟩ ⟨za, zb⟩).a < (spMeet ⟨lenTo l k, lenTo l k + (rd_Slc l k).len⟩ ⟨za, zb⟩).b
        · have HM1 := Aside0.mk (HM.out.trans (by rw [if_pos g]))
          go_upto_region 10 with (fail)
          obtain ⟨W, hW⟩ : ∃ W, W = w1.alloc (.cells #[.int .i64 (spMeet ⟨lenTo l k, lenTo l k + (rd_Slc l k).len⟩ ⟨za, zb⟩).a, .int .i64 (spMeet ⟨lenTo l k, lenTo l k + (rd_Slc l k).len⟩ ⟨za, zb⟩).b] 33) := ⟨_, rfl⟩
          have hwb : Below w1.heap.size w1 W := by rw [hW]; exact BB
          have hm0 : W.cell? ⟨w1.heap.size, 0, none⟩ = some (.int .i64 (spMeet ⟨lenTo l k, lenTo l k + (rd_Slc l k).len⟩ ⟨za, zb⟩).a) := by rw [hW]; go_simp
          have hm1 : W.cell? ⟨w1.heap.size, 1, none⟩ = some (.int .i64 (spMeet ⟨lenTo l k, lenTo l k + (rd_Slc l k).len⟩ ⟨za, zb⟩).b) := by rw [hW]; go_simp
          replace hv0 := pw_cell_below hwb hv0
          replace hv1 := pw_cell_below hwb hv1
          replace hv2 := pw_cell_below hwb hv2
          have HBW := Aside0.mk (below_then HB1.out HB1.out.size hwb)
          have HZW := Aside0.mk (blk_below HZ1.out hwb)
          have HXW := Aside0.mk (blk_below HX.out hwb)
          have HVW := Aside0.mk (OwnRow.below HV1.out hwb)
          rw [← hW]
          clear hW hwb HB1 HZ1 HV1 hs0 hs1 hs2
          have HP := Aside0.mk (kPrt_mk w ⟨(spMeet ⟨lenTo l k, lenTo l k + (rd_Slc l k).len⟩ ⟨za, zb⟩), (rd_Slc l k).sec⟩ HL2.out HR2.out)
          have HL3 := Aside0.mk (show ((partsTo l ⟨za, zb⟩ k).length + 1) * 48 ≤ 140737488355328 from by have := partsTo_len l ⟨za, zb⟩ k; omega)
          have T1 : Aside0 (∀ (ops : Array Oper) (Q : Exit → Act → World → Prop) (o : Oper) (rest : List Oper) (a : Act), o.guard = none → o.op = .call { callee := .builtin .append, args := #[.tmp 32, .tmp 37], argTypes := #[89, 89] } → a.eval (.tmp 32) = u5 → a.eval (.tmp 37) = .slice (some ⟨W.heap.size, 0, none⟩) 1 1 → (∀ v1 w1, OwnRow (fun p c => kPrt.K w p c) 92 4 w1 w.heap.size v1 (partsTo l ⟨za, zb⟩ k ++ [⟨(spMeet ⟨lenTo l k, lenTo l k + (rd_Slc l k).len⟩ ⟨za, zb⟩), (rd_Slc l k).sec⟩]) → Below w.heap.size w w1 → W.grownBy w1 (u5 : Value).ownBlock → (v1.ownBlock = (u5 : Value).ownBlock ∨ ∃ b, v1.ownBlock = some b ∧ W.heap.size ≤ b) → wpList Tryd.prog ops Q rest (a.put o.dst v1) w1) → wpList Tryd.prog ops Q (o :: rest) a (W.alloc (.cells #[.int .i64 (spMeet ⟨lenTo l k, lenTo l k + (rd_Slc l k).len⟩ ⟨za, zb⟩).a, .int .i64 (spMeet ⟨lenTo l k, lenTo l k + (rd_Slc l k).len⟩ ⟨za, zb⟩).b, .int .i64 (rd_Slc l k).sec.low, .slice A2 (rd_Slc l k).sec.rows.length c2] 92))) := by
            refine ⟨fun ops Q o rest a hg ho h1 h2 h => ?_⟩
            exact OwnRow.append (W := W) (w0 := w) (R := fun p c => kPrt.K w p c) w.heap.size hg (.tmp 32) (.tmp 37) 89 92 (.agg #[.int .i64 0, .int .i64 0, .int .i64 0, .slice none 0 0]) 4 48 ho Tryd.underlying89 infoPart rfl (by decide) (by decide) (u5) (partsTo l ⟨za, zb⟩ k) (⟨(spMeet ⟨lenTo l k, lenTo l k + (rd_Slc l k).len⟩ ⟨za, zb⟩), (rd_Slc l k).sec⟩) [.int .i64 (spMeet ⟨lenTo l k, lenTo l k + (rd_Slc l k).len⟩ ⟨za, zb⟩).a, .int .i64 (spMeet ⟨lenTo l k, lenTo l k + (rd_Slc l k).len⟩ ⟨za, zb⟩).b, .int .i64 (rd_Slc l k).sec.low, .slice A2 (rd_Slc l k).sec.rows.length c2] h1 h2 HP.out rfl (by simp [Value.oneCell']) HVW.out HBW.out (Below.size HBW.out) HL3.out h
          go_wp2_with (at_builtin; refine T1.out _ _ _ _ _ rfl rfl rfl rfl ?_; intro v1 w2 ho hb hg hat; have q0 := hg.cell hv0 (OwnRow.ne_block HVW.out HXW.out (by decide)); have HZ2 := Aside0.mk (blk_grown HZW.out hg (OwnRow.ne_block HVW.out HZW.out (by decide))); have HV2 := Aside0.mk ho; have HB2 := Aside0.mk hb; clear ho hb hg hat hv0 hv1 hv2 hm0 hm1)
          go_roundw
          case rel => exact ⟨k + 1, by omega, by rw [HT.out], by go_num, HB2, HZ2, ⟨by rw [HM1.out]; exact HV2.out⟩⟩
          case measure => simp [intOf]; omega
        · have HM1 := Aside0.mk (HM.out.trans (by rw [if_neg g, List.append_nil]))
          go_wp2
          go_roundw
          case rel => exact ⟨k + 1, by omega, by rw [HT.out], by go_num, ⟨by have hb := HB1.out; exact BB⟩, ⟨by have hz := HZ1.out; exact KK⟩, ⟨by rw [HM1.out]; exact OwnRow.below HV1.out BB⟩⟩
          case measure => simp [intOf]; omega
      · obtain rfl : k = l.length := by omega
        rw [← HF.out] at HV
        obtain ⟨A', c', rfl, hc', hrow⟩ := OwnRow.reads HV.out
        have HC := Aside0.mk (show Kd.C kPrt wr A' (parts l ⟨za, zb⟩).length (parts l ⟨za, zb⟩) from ReadsRow.imp_ hrow (Below.refl _ _) (fun p cs hp => kPrt.K_below HB.out hp))
        clear hrow
        go_wp2
        go_ret
        exact ⟨⟨A', c', rfl, hc', HC.out⟩, HB.out⟩
  · have HF := Aside0.mk (show parts l ⟨za, zb⟩ = [] from if_neg h)
    have HH := Aside0.mk (show (solCheck l != 0) = true from bne_iff_ne.2 h)
    clear h
    rw [HF.out]
    go_enter Tryd.func33, Tryd.ntmps33
    go_wp2_with fail
    refine (solCheck_calls _ _ l _ ?c1).mono ?_
    case c1 => exact Kd.C_below HR.out BB
    rintro e w1 ⟨rfl, hb1⟩
    obtain ⟨hB1, hb2⟩ := adv HB.out hb1
    replace HB := Aside0.mk hB1
    clear hb1 hB1 hb2
    have hh := HH.out
    go_wp2
    go_ret
    exact ⟨⟨none, 0, rfl, by simp, Kd.C_nil kPrt _⟩, HB.out⟩
end Go.Proofs.YtngpoonjonojhaaDoor
/-! Walks. -/
namespace Go.Proofs.YtngpoonjonojhaaDoor
open Go.RowKit Go.Proofs.YtngpoonjonojhaaDoorW.PrintWords Go.Proofs.YtngpoonjonojhaaDoorW.PrintLast
set_option linter.unusedVariables false


theorem partsTo_last {l : List Slc} (ho : ∀ i, i < l.length → slcErr1 l i = 0) : ∀ k, k ≤ l.length → (partsTo l ⟨0, 20000⟩ k).length = k ∧ ∀ j, j < k → (rd_Prt (partsTo l ⟨0, 20000⟩ k) j).z = ⟨lenTo l j, lenTo l (j + 1)⟩ ∧ (rd_Prt (partsTo l ⟨0, 20000⟩ k) j).sec = (rd_Slc l j).sec
  | 0, _ => ⟨rfl, fun j h => by omega⟩
  | k + 1, hk => by
    obtain ⟨h1, h2⟩ := partsTo_last ho k (by omega)
    have b1 := lenTo_le ho k (by omega)
    have b2 := lenTo_le ho (k + 1) hk
    have b3 := slc_pos ho (i := k) (by omega)
    have hm : slcMeet l ⟨0, 20000⟩ k = ⟨lenTo l k, lenTo l (k + 1)⟩ := by
      have e : lenTo l (k + 1) = lenTo l k + (rd_Slc l k).len := rfl
      unfold slcMeet spMeet mni mxi
      rw [e] at b2 ⊢
      have b4 := b3.2.2
      (repeat' split) <;> simp only [Sp.mk.injEq] at * <;> omega
    have hlt : lenTo l k < lenTo l (k + 1) := by simp only [lenTo]; omega
    have e : partsTo l ⟨0, 20000⟩ (k + 1) = partsTo l ⟨0, 20000⟩ k ++ [⟨⟨lenTo l k, lenTo l (k + 1)⟩, (rd_Slc l k).sec⟩] := by
      simp only [partsTo, hm, if_pos hlt]
    refine ⟨by rw [e, List.length_append, h1]; rfl, fun j hj => ?_⟩
    rw [e]
    by_cases hjk : j < k
    · have := h2 j hjk
      unfold rd_Prt at this ⊢
      rw [List.getD_eq_getElem?_getD, List.getElem?_append_left (by simp [h1]; exact hjk), ← List.getD_eq_getElem?_getD]
      exact this
    · obtain rfl : j = k := by omega
      unfold rd_Prt
      rw [List.getD_eq_getElem?_getD, List.getElem?_append_right (by simp [h1])]
      simp [h1]

set_option maxHeartbeats 2000000 in
theorem solLen_calls (A : Option Addr) (c : Nat) (l : List Slc) (w : World) (hr : Kd.C kSlc w A l.length l) :
    Calls Tryd.prog 18 #[.slice A l.length c] w fun e w' => e = .returned (.int .i64 (solLen l)) ∧ Below w.heap.size w w' := by
  have HB := Aside0.mk (Below.refl w.heap.size w)
  have HR := Aside0.mk hr
  clear hr
  go_enter Tryd.func18, Tryd.ntmps18
  go_wp2_with fail
  refine (whole_calls _).mono ?_
  rintro e w1 ⟨rfl, hb1⟩
  obtain ⟨hB1, hb2⟩ := adv HB.out hb1
  replace HB := Aside0.mk hB1
  clear hb1 hB1 hb2
  go_wp2_with fail
  refine (parts_calls _ _ _ _ _ _ ?c1).mono ?_
  case c1 => exact Kd.C_below HR.out (by have hb := HB.out; exact BB)
  rintro e w2 ⟨⟨A', c', rfl, hc', hC⟩, hb1⟩
  have HC := Aside0.mk hC
  obtain ⟨hB1, hb2⟩ := adv HB.out hb1
  have HB1 := Aside0.mk hB1
  clear hb1 hb2 hB1 hC
  by_cases h : solCheck l = 0
  · have hp : parts l ⟨0, 20000⟩ = partsTo l ⟨0, 20000⟩ l.length := if_pos h
    obtain ⟨o1, o2, o3⟩ := solCheck_ok h
    obtain ⟨q1, q2⟩ := partsTo_last o3 l.length (Nat.le_refl _)
    have q3 := (q2 (l.length - 1) (by omega)).1
    rw [← hp] at q1 q3
    obtain ⟨ad, A', c', rfl, hx0, hx1, hx2, hx3, hx4⟩ := at_Prt HC.out (((parts l ⟨0, 20000⟩).length : Int) - 1) (by omega) (by omega)
    have hF : (rd_Prt (parts l ⟨0, 20000⟩) (((parts l ⟨0, 20000⟩).length : Int) - 1)).z.b = solLen l := by
      unfold solLen
      rw [if_pos h, show (((parts l ⟨0, 20000⟩).length : Int) - 1) = ((l.length - 1 : Nat) : Int) by omega, q3]
      show lenTo l (l.length - 1 + 1) = _
      rw [show l.length - 1 + 1 = l.length by omega]
    rw [hF] at hx1
    rw [show (((parts l ⟨0, 20000⟩).length : Int) - 1).toNat = (parts l ⟨0, 20000⟩).length - 1 by omega] at hx0 hx1 hx2 hx3
    have g1 : (((parts l ⟨0, 20000⟩).length : Int) == 0) = false := beq_eq_false_iff_ne.2 (by omega)
    have g2 : 0 < (parts l ⟨0, 20000⟩).length := by omega
    have g3 : (parts l ⟨0, 20000⟩).length ≤ 24 := by omega
    clear hp q1 q2 q3 hF h hx4 o3
    go_wp2
    go_ret
    exact ⟨rfl, HB1.out⟩
  · have hp : parts l ⟨0, 20000⟩ = [] := if_neg h
    have HF := Aside0.mk (show solLen l = 0 from if_neg h)
    have g1 : (((parts l ⟨0, 20000⟩).length : Int) == 0) = true := beq_iff_eq.2 (by rw [hp]; rfl)
    clear h hp
    go_wp2
    go_ret
    exact ⟨ri HF.out.symm, HB1.out⟩
end Go.Proofs.YtngpoonjonojhaaDoor
