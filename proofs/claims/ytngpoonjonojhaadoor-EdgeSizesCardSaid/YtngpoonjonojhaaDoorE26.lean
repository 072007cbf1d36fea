/- Words and walks that the row leans on: WCuc, PlDp. -/
import Derived.Test.YtngpoonjonojhaaDoorE25
set_option linter.all false
/-! Walks: the check of a cutting line. -/
namespace Go.Proofs.YtngpoonjonojhaaDoor
open Go.RowKit Go.Proofs.YtngpoonjonojhaaDoorW.PrintWords Go.Proofs.YtngpoonjonojhaaDoorW.PrintLast
set_option linter.unusedVariables false

abbrev Hd := Option Addr × Nat × Nat
def encH (x : Hd) : Value := .slice x.1 x.2.1 x.2.2
theorem encH1 (x : Hd) : (encH x).oneCell' = true := rfl
def zHd : Hd := (none, 0, 0)
/-- The heads of rows that are read. -/
theorem heads {w : World} {A : Option Addr} {n : Nat} {xs : List (List Int)} (h : Kd.C (Kd.slice 3 (Kd.int .i64)) w A n xs) : ∃ hs : List Hd, hs.length = n ∧ Kd.C (Kd.scalar encH encH1) w A n hs ∧ ∀ k : Nat, k < n → (hs.getD k zHd).2.1 = (rd_L2 xs (k : Nat)).length ∧ Kd.C (Kd.int .i64) w (hs.getD k zHd).1 (rd_L2 xs (k : Nat)).length (rd_L2 xs (k : Nat)) := by
  have h1 : ∀ k : Nat, ∃ x : Hd, k < n → (∃ ad, A = some ad ∧ w.cell? (ad.add k) = some (encH x)) ∧ x.2.1 = (rd_L2 xs (k : Nat)).length ∧ Kd.C (Kd.int .i64) w x.1 (rd_L2 xs (k : Nat)).length (rd_L2 xs (k : Nat)) := by
    intro k
    by_cases hk : k < n
    · obtain ⟨ad, A0, c0, e, hc, _, hC⟩ := at_L2 h (k : Int) (by omega) (by omega)
      rw [Int.toNat_natCast] at hc
      exact ⟨(A0, (rd_L2 xs (k : Nat)).length, c0), fun _ => ⟨⟨ad, e, hc⟩, rfl, hC⟩⟩
    · exact ⟨zHd, fun h => absurd h hk⟩
  obtain ⟨f, hf⟩ := Classical.axiomOfChoice h1
  have hget : ∀ k, k < n → ((List.range n).map f).getD k zHd = f k := by
    intro k hk
    rw [List.getD_eq_getElem?_getD]
    simp [hk]
  refine ⟨(List.range n).map f, by simp, ⟨by simp, h.2.1, fun h0 => ?_⟩, fun k hk => by rw [hget k hk]; exact (hf k hk).2⟩
  obtain ⟨ad, e, _⟩ := h.2.2 h0
  refine ⟨ad, e, fun j p hj => ?_⟩
  have hj1 : j < n := by
    have := (List.getElem?_eq_some_iff.1 hj).1
    simpa using this
  have hp : f j = p := by
    rw [List.getElem?_map] at hj
    simpa [hj1] using hj
  obtain ⟨⟨ad', e', hc⟩, _⟩ := hf j hj1
  rw [e] at e'
  cases e'
  refine ⟨[encH p], rfl, rfl, fun i u hu => ?_⟩
  have hi : i = 0 := by
    cases i with
    | zero => rfl
    | succ i => simp at hu
  subst hi
  have hu' : encH p = u := by simpa using hu
  show w.cell? (ad.add (j * 1 + 0)) = some u
  rw [Nat.mul_one, Nat.add_zero, ← hu', ← hp]
  exact hc
theorem at_hd {w : World} {A : Option Addr} {n : Nat} {hs : List Hd} (h : Kd.C (Kd.scalar encH encH1) w A n hs) (i : Nat) (hi : i < n) : ∃ ad, A = some ad ∧ w.cell? (ad.add i) = some (encH (hs.getD i zHd)) := by
  obtain ⟨ad, e, hc⟩ := ReadsOf.at_ (Kd.reads_of_C (enc := encH) (d := zHd) (h1 := encH1) h) (i : Int) (by omega) (by omega)
  rw [Int.toNat_natCast] at hc
  exact ⟨ad, e, hc⟩
theorem rows_lit (W : World) (base : Nat) (hb : base ≤ W.heap.size) (x y : Hd) : (Kd.scalar encH encH1).R 25 (W.alloc (.cells #[encH x, encH y] 25)) base (fun _ => True) (.slice (some ⟨W.heap.size, 0, none⟩) 2 2) [x, y] :=
  Kd.R_of_own (own_lit_of (enc := encH) W base 25 [x, y] hb (by simp)) (fun _ _ => trivial)

set_option maxHeartbeats 4000000 in
set_option maxRecDepth 100000 in
theorem ccheck_calls (x : Ln) (A1 : Option Addr) (c1 : Nat) (A2 : Option Addr) (c2 : Nat) (A3 : Option Addr) (c3 : Nat) (A4 : Option Addr) (c4 : Nat) (w : World) (h1 : Kd.C (Kd.int .i64) w A1 x.sizes.length x.sizes) (h2 : Kd.C (Kd.slice 3 (Kd.int .i64)) w A2 x.gain.length x.gain) (h3 : Kd.C (Kd.int .i64) w A3 x.chip.length x.chip) (h4 : Kd.C (Kd.int .i64) w A4 x.dust.length x.dust) (hz : x.sizes.length ≤ 1000000) :
    Calls Tryd.prog 67 #[.agg #[.int .i64 x.len, .int .i64 x.kerf, .int .i64 x.pitch, .slice A1 x.sizes.length c1, .slice A2 x.gain.length c2, .slice A3 x.chip.length c3, .slice A4 x.dust.length c4]] w fun e w' => e = .returned (.int .i64 (lnErr x)) ∧ Below w.heap.size w w' := by
  have HB := Aside0.mk (Below.refl w.heap.size w)
  have H1 := Aside0.mk h1
  have H2 := Aside0.mk h2
  have H3 := Aside0.mk h3
  have H4 := Aside0.mk h4
  clear h1 h2 h3 h4
  obtain ⟨R, hR⟩ : ∃ R, R = lnErr x := ⟨_, rfl⟩
  rw [← hR]
  have HR := Aside0.mk hR
  clear hR
  go_enter Tryd.func67, Tryd.ntmps67
  go_wp2_with fail
  refine (head_calls _ _ _ _ _ x.sizes _ _ _ _ _ _ _ _ _ x.gain x.chip x.dust hz _ ?c1).mono ?_
  case c1 => exact Kd.C_below H1.out BB
  rintro e w1 ⟨rfl, hb1⟩
  obtain ⟨hB1, hb2⟩ := adv HB.out hb1
  have hb : w1.heap[w.heap.size]? = some (.cells #[.int .i64 x.len, .int .i64 x.kerf, .int .i64 x.pitch, .slice A1 x.sizes.length c1, .slice A2 x.gain.length c2, .slice A3 x.chip.length c3, .slice A4 x.dust.length c4] 64 (0, 0)) := blk_below (by repeat (first | exact blk_newi _ (by simp) | refine blk_drewN ?_ _ | refine blk_drew ?_ | refine blk_alloc ?_ _)) hb1
  have hb_0 : w1.cell? ⟨w.heap.size, 0, none⟩ = some (.int .i64 x.len) := (blk_cell hb 0).trans rfl
  have hb_1 : w1.cell? ⟨w.heap.size, 1, none⟩ = some (.int .i64 x.kerf) := (blk_cell hb 1).trans rfl
  have hb_2 : w1.cell? ⟨w.heap.size, 2, none⟩ = some (.int .i64 x.pitch) := (blk_cell hb 2).trans rfl
  have hb_3 : w1.cell? ⟨w.heap.size, 3, none⟩ = some (.slice A1 x.sizes.length c1) := (blk_cell hb 3).trans rfl
  have hb_4 : w1.cell? ⟨w.heap.size, 4, none⟩ = some (.slice A2 x.gain.length c2) := (blk_cell hb 4).trans rfl
  have hb_5 : w1.cell? ⟨w.heap.size, 5, none⟩ = some (.slice A3 x.chip.length c3) := (blk_cell hb 5).trans rfl
  have hb_6 : w1.cell? ⟨w.heap.size, 6, none⟩ = some (.slice A4 x.dust.length c4) := (blk_cell hb 6).trans rfl
  replace hb := Aside0.mk hb
  replace HB := Aside0.mk hB1
  clear hb1 hB1 hb2
  rw [show headErr ⟨x.len, x.kerf, x.pitch, x.sizes, x.gain, x.chip, x.dust⟩ = headErr x from rfl]
  by_cases e1 : headErr x = 0
  rotate_left
  · have F := Aside0.mk (HR.out.trans (if_pos e1))
    have e2 : (headErr x != 0) = true := bne_iff_ne.2 e1
    clear e1
    go_wp2
    go_ret
    exact ⟨ri F.out.symm, HB.out⟩
  have F1 := Aside0.mk (HR.out.trans (if_neg (fun h => h e1)))
  have hd1 : 0 ≤ x.len ∧ x.len ≤ 2000 := by
    have h := e1
    unfold headErr at h
    split at h
    · rename_i g
      simp only [inR, Bool.and_eq_true, decide_eq_true_eq] at g
      omega
    · omega
  have hd2 : x.sizes.length ≤ 32 ∧ ∀ i : Nat, i < x.sizes.length → 1 ≤ rdI x.sizes (i : Nat) ∧ rdI x.sizes (i : Nat) ≤ 2000 := by
    have h := e1
    unfold headErr at h
    split at h
    · split at h
      · omega
      · refine ⟨by omega, fun i hi => ?_⟩
        have g := firstErr_zero h i hi
        unfold sizeErr1 at g
        split at g
        · rename_i q
          simp only [inR, Bool.and_eq_true, decide_eq_true_eq] at q
          exact q
        · omega
    · omega
  obtain ⟨l1, l2⟩ := hd1
  obtain ⟨z1, z2⟩ := hd2
  have Z2 := Aside0.mk z2
  rw [e1]
  clear e1 HR z2
  by_cases g1 : x.gain.length = x.sizes.length
  rotate_left
  · have F := Aside0.mk (F1.out.trans (if_pos (Or.inl g1)))
    have b1 : ((x.gain.length : Int) != (x.sizes.length : Int)) = true := bne_iff_ne.2 (by omega)
    clear g1
    go_wp2
    go_ret
    exact ⟨ri F.out.symm, HB.out⟩
  have b1 : ((x.gain.length : Int) != (x.sizes.length : Int)) = false := bne_eq_false_iff_eq.2 (by omega)
  by_cases g2 : (x.chip.length : Int) = x.len
  rotate_left
  · have F := Aside0.mk (F1.out.trans (if_pos (Or.inr (Or.inl g2))))
    have b2 : ((x.chip.length : Int) != x.len) = true := bne_iff_ne.2 (by omega)
    clear g2 g1
    go_wp2
    go_ret
    exact ⟨ri F.out.symm, HB.out⟩
  have b2 : ((x.chip.length : Int) != x.len) = false := bne_eq_false_iff_eq.2 (by omega)
  by_cases g3 : (x.dust.length : Int) = x.len
  rotate_left
  · have F := Aside0.mk (F1.out.trans (if_pos (Or.inr (Or.inr g3))))
    have b3 : ((x.dust.length : Int) != x.len) = true := bne_iff_ne.2 (by omega)
    clear g2 g1 g3
    go_wp2
    go_ret
    exact ⟨ri F.out.symm, HB.out⟩
  have b3 : ((x.dust.length : Int) != x.len) = false := bne_eq_false_iff_eq.2 (by omega)
  have F2 := Aside0.mk (F1.out.trans (if_neg (by omega)))
  have G1 := Aside0.mk g1
  have G2 := Aside0.mk g2
  have G3 := Aside0.mk g3
  have hgl : x.gain.length ≤ 32 := by omega
  clear g1 g2 g3 F1
  go_wp2
  clear b1 b2 b3 hb_0 hb_1 hb_2 hb_3 hb_4 hb_5 hb_6
  go_loopw [41] (fun i wr => ∃ k : Nat, k ≤ x.gain.length ∧ i = .int .i64 k ∧ Aside0 (firstErr (rowErr1 x) k = 0) ∧ Aside0 (Below w1.heap.size w1 wr)) (fun i _ => x.gain.length - (intOf i).toNat)
  case atStart => exact ⟨0, by omega, rfl, ⟨rfl⟩, ⟨Below.refl _ _⟩⟩
  case round =>
    obtain ⟨k, hk, rfl, HA, HD⟩ := hrel
    have HBr := Aside0.mk (below_then HB.out HB.out.size HD.out)
    have HKr := Aside0.mk (blk_below hb.out HD.out)
    have hb0 : wr.cell? ⟨w.heap.size, 0, none⟩ = some (.int .i64 x.len) := (blk_cell HKr.out 0).trans rfl
    have hb3 : wr.cell? ⟨w.heap.size, 3, none⟩ = some (.slice A1 x.sizes.length c1) := (blk_cell HKr.out 3).trans rfl
    have hb4 : wr.cell? ⟨w.heap.size, 4, none⟩ = some (.slice A2 x.gain.length c2) := (blk_cell HKr.out 4).trans rfl
    have hb5 : wr.cell? ⟨w.heap.size, 5, none⟩ = some (.slice A3 x.chip.length c3) := (blk_cell HKr.out 5).trans rfl
    have hb6 : wr.cell? ⟨w.heap.size, 6, none⟩ = some (.slice A4 x.dust.length c4) := (blk_cell HKr.out 6).trans rfl
    by_cases hlt : k < x.gain.length
    · obtain ⟨ad, A0, c0, rfl, hx, hl0, hC0⟩ := at_L2 (Kd.C_below H2.out HBr.out) (k : Int) (by omega) (by omega)
      have hg := G1.out
      obtain ⟨ad', rfl, hy⟩ := Kd.at_int (Kd.C_below H1.out HBr.out) (k : Int) (by omega) (by omega)
      simp only [Int.toNat_natCast] at hx hy
      have zb := Z2.out k (by omega)
      have hlt2 : k < x.sizes.length := by omega
      have hre : rowErr1 x k = if ((rd_L2 x.gain (k : Nat)).length : Int) = mxi 0 (x.len - rdI x.sizes (k : Nat) + 1) then 0 else 19 := rfl
      have HRE := Aside0.mk hre
      obtain ⟨s, hs⟩ : ∃ s, s = rd x.sizes k := ⟨_, rfl⟩
      have HS := Aside0.mk (show rdI x.sizes (k : Nat) = s from hs.symm)
      rw [HS.out] at zb HRE
      rw [← hs] at hy
      clear hs hre hl0 hC0 hg
      obtain ⟨zb1, zb2⟩ := zb
      obtain ⟨m, hm⟩ : ∃ m, m = (rd_L2 x.gain (k : Nat)).length := ⟨_, rfl⟩
      rw [← hm] at hx HRE
      clear hm
      have i1 : IntKind.i64.wrap (x.len - s) = x.len - s := IntWalk.i64_in _ (by omega)
      have i2 : IntKind.i64.wrap (x.len - s + 1) = x.len - s + 1 := IntWalk.i64_in _ (by omega)
      obtain ⟨q, hq⟩ : ∃ q, q = mxi 0 (x.len - s + 1) := ⟨_, rfl⟩
      rw [← hq] at HRE
      have hq2 : (0 < x.len - s + 1 ∧ x.len - s + 1 = q) ∨ (x.len - s + 1 ≤ 0 ∧ 0 = q) := by
        rw [hq]; unfold mxi
        by_cases g : 0 < x.len - s + 1
        · rw [if_pos g]; exact Or.inl ⟨g, rfl⟩
        · rw [if_neg g]; exact Or.inr ⟨by omega, rfl⟩
      clear hq
      by_cases g : (m : Int) = q
      · have HA1 := Aside0.mk (firstErr_step HA.out (HRE.out.trans (if_pos g)))
        rcases hq2 with ⟨g1, e⟩ | ⟨g1, e⟩
        · have b : ((m : Int) != x.len - s + 1) = false := bne_eq_false_iff_eq.2 (by omega)
          clear g e
          go_upto_region 9 with (fail)
          go_quiet (fail)
          go_wp2
          go_roundw
          case rel => exact ⟨k + 1, by omega, by go_num, HA1, ⟨by have h := HD.out; exact BB⟩⟩
          case measure => simp [intOf]; omega
        · have b : ((m : Int) != 0) = false := bne_eq_false_iff_eq.2 (by omega)
          clear g e
          go_upto_region 9 with (fail)
          go_quiet (fail)
          go_wp2
          go_roundw
          case rel => exact ⟨k + 1, by omega, by go_num, HA1, ⟨by have h := HD.out; exact BB⟩⟩
          case measure => simp [intOf]; omega
      · have HE := Aside0.mk (HRE.out.trans (if_neg g))
        have F := Aside0.mk (show R = 19 by
          have e := firstErr_found HA.out (by rw [HE.out]; omega) hlt
          rw [F2.out, e, HE.out]; rfl)
        rcases hq2 with ⟨g1, e⟩ | ⟨g1, e⟩
        · have b : ((m : Int) != x.len - s + 1) = true := bne_iff_ne.2 (by omega)
          clear g e
          go_upto_region 9 with (fail)
          go_quiet (fail)
          go_wp2
          go_ret
          exact ⟨ri F.out.symm, by have h := HBr.out; exact BB⟩
        · have b : ((m : Int) != 0) = true := bne_iff_ne.2 (by omega)
          clear g e
          go_upto_region 9 with (fail)
          go_quiet (fail)
          go_wp2
          go_ret
          exact ⟨ri F.out.symm, by have h := HBr.out; exact BB⟩
    · obtain rfl : k = x.gain.length := by omega
      have F3 := Aside0.mk (F2.out.trans (if_neg (fun h => h HA.out)))
      obtain ⟨hs, hsl, hsC, hsF⟩ := heads H2.out
      have HSF := Aside0.mk hsF
      have HSC := Aside0.mk hsC
      obtain ⟨L, hL⟩ : ∃ L, L = [x.chip, x.dust] ++ x.gain := ⟨_, rfl⟩
      obtain ⟨H, hH⟩ : ∃ H : List Hd, H = [(A3, x.chip.length, c3), (A4, x.dust.length, c4)] ++ hs := ⟨_, rfl⟩
      have HLH : Aside0 (∀ k : Nat, k < L.length → (H.getD k zHd).2.1 = (rd_L2 L (k : Nat)).length ∧ Kd.C (Kd.int .i64) w (H.getD k zHd).1 (rd_L2 L (k : Nat)).length (rd_L2 L (k : Nat))) := ⟨by
        intro k hk
        rw [hL] at hk
        rw [hL, hH]
        match k with
        | 0 => exact ⟨rfl, H3.out⟩
        | 1 => exact ⟨rfl, H4.out⟩
        | k + 2 =>
          have e := HSF.out k (by simp at hk; omega)
          exact e⟩
      have HHL := Aside0.mk (show H.length = L.length by rw [hH, hL]; simp [hsl])
      have hLl : L.length ≤ 34 := by rw [hL]; simp; omega
      have F4 := Aside0.mk (show R = firstErr (numsErr1 L) L.length by rw [hL]; exact F3.out)
      have HHH := Aside0.mk hH
      clear hL hH hsF hsC F3 F2
      have HLN := Aside0.mk (show ([(A3, x.chip.length, c3), (A4, x.dust.length, c4)] : List Hd).length = 2 from rfl)
      have T1 : Aside0 (∀ (ops : Array Oper) (Q : Exit → Act → World → Prop) (o : Oper) (rest : List Oper) (a : Act), o.guard = none → o.op = .call { callee := .builtin .append, args := #[.tmp 64, .tmp 66], argTypes := #[62, 62] } → a.eval (.tmp 64) = .slice (some ⟨wr.heap.size, 0, none⟩) 2 2 → a.eval (.tmp 66) = .slice A2 x.gain.length c2 → (∀ v1 w2, (Kd.scalar encH encH1).R 25 w2 w.heap.size (fun _ => True) v1 H → Below w.heap.size w w2 → wpList Tryd.prog ops Q rest (a.put o.dst v1) w2) → wpList Tryd.prog ops Q (o :: rest) a (wr.alloc (.cells #[.slice A3 x.chip.length c3, .slice A4 x.dust.length c4] 25))) := by
        refine ⟨fun ops Q o rest a hg ho h1 h2 h => ?_⟩
        exact Kd.R_append_row encH zHd (h1 := encH1) (w0 := w) w.heap.size hg (.tmp 64) (.tmp 66) 62 25 (.slice none 0 0) 24 ho Tryd.underlying62 infoRow rfl (by decide) _ [(A3, x.chip.length, c3), (A4, x.dust.length, c4)] hs A2 x.gain.length c2 (fun _ => True) h1 h2 (fun _ _ => trivial) (rows_lit wr w.heap.size HBr.out.size _ _) (Kd.C_below HSC.out (below_alloc HBr.out _)) (below_alloc HBr.out _) (Below.size (below_alloc HBr.out _)) (by rw [HLN.out]; omega) (fun v1 w2 ho hb _ _ => h v1 w2 (by rw [HHH.out]; exact ho) hb)
      have hblt := blk_lt HKr.out
      go_upto_region 13 with (first
        | (at_builtin
           refine T1.out _ _ _ _ _ rfl rfl rfl rfl ?_
           intro v1 w2 ho hb
           obtain ⟨A5, n5, c5, rfl⟩ : ∃ A1 nn c1, v1 = .slice A1 nn c1 := (by obtain ⟨A1, c1, e⟩ := Kd.R_slice ho; exact ⟨A1, _, c1, e⟩)
           have HO := Aside0.mk (Kd.R_reads' ho)
           have HB2 := Aside0.mk hb
           clear ho hb T1))
      obtain ⟨o1, o2, o3⟩ := HO.out
      rw [HHL.out] at o1 o3
      subst o1
      have HOC := Aside0.mk o3
      clear o2 o3 HO hb0 hb3 hb4 hb5 hb6 hblt HKr HBr HD HA
      go_wp2_with fail
      go_loopw [69] (fun i wq => ∃ k : Nat, k ≤ L.length ∧ i = .int .i64 k ∧ Aside0 (firstErr (numsErr1 L) k = 0) ∧ Aside0 (Below w2.heap.size w2 wq)) (fun i _ => L.length - (intOf i).toNat)
      case atStart => exact ⟨0, by omega, rfl, ⟨rfl⟩, ⟨Below.refl _ _⟩⟩
      case round =>
        obtain ⟨k, hk, rfl, HA, HD⟩ := hrel
        by_cases hlt : k < L.length
        · obtain ⟨ad, rfl, hx⟩ := at_hd (Kd.C_below HOC.out HD.out) k (by omega)
          have hh := HLH.out k hlt
          obtain ⟨⟨a0, n0, c0⟩, hq⟩ : ∃ q : Hd, q = H.getD k zHd := ⟨_, rfl⟩
          rw [← hq] at hx hh
          obtain ⟨rs, hrs⟩ : ∃ rs, rs = rd_L2 L (k : Nat) := ⟨_, rfl⟩
          have HNE := Aside0.mk (show numsErr1 L k = firstErr (numErr1 rs) rs.length by rw [hrs]; rfl)
          rw [← hrs] at hh
          obtain ⟨hn, hC⟩ := hh
          have hn' : n0 = rs.length := hn
          subst hn'
          replace hx : _ = some (Value.slice a0 rs.length c0) := hx
          have HCr := Aside0.mk hC
          have hmx := hC.2.1
          clear hn hC hq hrs
          go_wp2_with fail
          clear hx
          go_loopw [75] (fun i wz => ∃ j : Nat, j ≤ rs.length ∧ i = .int .i64 j ∧ Aside0 (firstErr (numErr1 rs) j = 0) ∧ Aside0 (Below w2.heap.size w2 wz)) (fun i _ => rs.length - (intOf i).toNat)
          case atStart => exact ⟨0, by omega, rfl, ⟨rfl⟩, HD⟩
          case round =>
            clear HD
            obtain ⟨j, hj, rfl, HJ, HD⟩ := hrel
            have HBz := Aside0.mk (below_then HB2.out HB2.out.size HD.out)
            by_cases hlj : j < rs.length
            · obtain ⟨ae, rfl, hy⟩ := Kd.at_int (Kd.C_below HCr.out HBz.out) (j : Int) (by omega) (by omega)
              simp only [Int.toNat_natCast] at hy
              go_wp2_with fail
              refine (inRange_calls _ _ _ _).mono ?_
              rintro e w5 ⟨rfl, hb1⟩
              have HD1 := Aside0.mk (below_then HD.out HD.out.size (adv (Below.refl _ _) hb1).1)
              have HB5 := Aside0.mk (adv HBz.out hb1).1
              clear hb1 hy
              rcases g : inR (rd rs j) (-1125899906842624) 1125899906842624 with _ | _
              · have HE := Aside0.mk (show numErr1 rs j = 9 from if_neg (by show ¬ inR (rd rs j) (-1125899906842624) 1125899906842624 = true; rw [g]; simp))
                have HE2 := Aside0.mk (show numsErr1 L k = 9 from HNE.out.trans ((firstErr_found HJ.out (by rw [HE.out]; omega) hlj).trans HE.out))
                have F := Aside0.mk (show R = 9 from F4.out.trans ((firstErr_found HA.out (by rw [HE2.out]; omega) hlt).trans HE2.out))
                clear g
                go_wp2
                go_ret
                exact ⟨ri F.out.symm, HB5.out⟩
              · have HJ1 := Aside0.mk (firstErr_step HJ.out (show numErr1 rs j = 0 from if_pos g))
                clear g
                go_wp2
                go_roundw
                case rel => exact ⟨j + 1, by omega, by go_num, HJ1, HD1⟩
                case measure => simp [intOf]; omega
            · obtain rfl : j = rs.length := by omega
              have HA1 := Aside0.mk (firstErr_step HA.out (HNE.out.trans HJ.out))
              go_wp2
              go_roundw
              case rel => exact ⟨k + 1, by omega, by go_num, HA1, HD⟩
              case measure => simp [intOf]; omega
        · obtain rfl : k = L.length := by omega
          go_wp2
          go_ret
          exact ⟨ri (F4.out.trans HA.out).symm, below_then HB2.out HB2.out.size HD.out⟩
end Go.Proofs.YtngpoonjonojhaaDoor
/-! Plain laws: the best pieces of a line. -/
namespace Go.Proofs.YtngpoonjonojhaaDoor
open Go.RowKit Go.Proofs.YtngpoonjonojhaaDoorW.PrintWords Go.Proofs.YtngpoonjonojhaaDoorW.PrintLast
def noneC : Ch := ⟨⟨-1, -1⟩, 0⟩
def isN (c : Ch) : Bool := (c.piece.size == -1 && c.piece.pos == -1) && c.value == 0
/-- The value of a piece of size i that begins at e. -/
def atV (x : Ln) (dust : List Int) (bs : List Ch) (e i : Nat) : Int :=
  if (e : Int) + rdI x.sizes (i : Nat) < x.len then
    wrap64 (rdI (rd_L2 x.gain (i : Nat)) (e : Nat) + wrap64 (wrap64 (rdI dust (mni (e + rdI x.sizes (i : Nat) + x.kerf) x.len) - rdI dust (e + rdI x.sizes (i : Nat))) + (rd_Ch bs (mni (e + rdI x.sizes (i : Nat) + x.kerf) x.len)).value))
  else rdI (rd_L2 x.gain (i : Nat)) (e : Nat)
def atStep (x : Ln) (dust : List Int) (bs : List Ch) (e : Nat) (c : Ch) (i : Nat) : Ch :=
  if x.len < e + rdI x.sizes (i : Nat) ∨ rdI (rd_L2 x.gain (i : Nat)) (e : Nat) < 0 then c
  else if isN c = true ∨ c.value < atV x dust bs e i then ⟨⟨i, e⟩, atV x dust bs e i⟩ else c
def atTo (x : Ln) (dust : List Int) (bs : List Ch) (e : Nat) : Nat → Ch
  | 0 => noneC
  | i + 1 => atStep x dust bs e (atTo x dust bs e i) i
def wasteOf (x : Ln) (chip : List Int) (e : Nat) : Int := wrap64 (rdI chip (e + x.pitch) - rdI chip (e : Nat))
def behind1 (x : Ln) (chip dust : List Int) (at_ : List Ch) (e : Nat) : Ch :=
  if e + x.pitch + x.kerf ≤ x.len ∧ isN (rd_Ch at_ (e + x.pitch + x.kerf)) = false then
    ⟨(rd_Ch at_ (e + x.pitch + x.kerf)).piece, wrap64 (wrap64 (wrap64 (wasteOf x chip e + rdI dust (e + x.pitch + x.kerf)) - rdI dust (e + x.pitch)) + (rd_Ch at_ (e + x.pitch + x.kerf)).value)⟩
  else noneC
def behind2 (x : Ln) (chip : List Int) (be : List Ch) (e : Nat) (b : Ch) : Ch :=
  if isN (rd_Ch be (e + x.pitch)) = false ∧ (isN b = true ∨ b.value < wrap64 (wasteOf x chip e + (rd_Ch be (e + x.pitch)).value)) then
    ⟨(rd_Ch be (e + x.pitch)).piece, wrap64 (wasteOf x chip e + (rd_Ch be (e + x.pitch)).value)⟩
  else b
def behindOf (x : Ln) (chip dust : List Int) (at_ be : List Ch) (e : Nat) : Ch :=
  if e + x.pitch ≤ x.len then behind2 x chip be e (behind1 x chip dust at_ e) else noneC
def bestPick (b c : Ch) : Ch := if isN c = false ∧ b.value < c.value then c else b
structure DSt where
  at_ : List Ch
  be : List Ch
  bs : List Ch
def dpStep (x : Ln) (chip dust : List Int) (s : DSt) (e : Nat) : DSt :=
  { at_ := s.at_.set e (atTo x dust s.bs e x.sizes.length)
    be := s.be.set e (behindOf x chip dust (s.at_.set e (atTo x dust s.bs e x.sizes.length)) s.be e)
    bs := s.bs.set e (bestPick (bestPick ⟨⟨-1, -1⟩, wrap64 (rdI chip x.len - rdI chip (e : Nat))⟩ (atTo x dust s.bs e x.sizes.length)) (behindOf x chip dust (s.at_.set e (atTo x dust s.bs e x.sizes.length)) s.be e)) }
/-- The state behind k steps: the positions len, len - 1, .. -/
def dpTo (x : Ln) (chip dust : List Int) (n : Nat) : Nat → DSt
  | 0 => ⟨List.replicate (n + 1) zCh, List.replicate (n + 1) zCh, List.replicate (n + 1) zCh⟩
  | k + 1 => dpStep x chip dust (dpTo x chip dust n k) (n - k)
/-- The pieces from a position on. -/
def outFrom (x : Ln) (bs : List Ch) : Nat → Int → List Pc
  | 0, _ => []
  | f + 1, e =>
    if (rd_Ch bs e).piece.size = -1 ∧ (rd_Ch bs e).piece.pos = -1 then []
    else if (rd_Ch bs e).piece.pos + rdI x.sizes (rd_Ch bs e).piece.size = x.len then [(rd_Ch bs e).piece]
    else (rd_Ch bs e).piece :: outFrom x bs f (mni ((rd_Ch bs e).piece.pos + rdI x.sizes (rd_Ch bs e).piece.size + x.kerf) x.len)
def bestPcs (x : Ln) : List Pc × Int × Int :=
  if lnErr x ≠ 0 then ([], 0, lnErr x)
  else (outFrom x (dpTo x (sumsOf x.chip) (sumsOf x.dust) x.len.toNat (x.len.toNat + 1)).bs (x.len.toNat + 1) 0, (rd_Ch (dpTo x (sumsOf x.chip) (sumsOf x.dust) x.len.toNat (x.len.toNat + 1)).bs 0).value, 0)
end Go.Proofs.YtngpoonjonojhaaDoor
