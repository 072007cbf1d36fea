/- Walks: the pieces of a line are put together; the best pieces of a line. -/
import Derived.Test.YtngpoonjonojhaaDoorE31
import Derived.Test.YtngpoonjonojhaaDoorE26
import Derived.Deep.RegionHeld3
import Derived.IntWalk
set_option linter.all false
namespace Go.Proofs.YtngpoonjonojhaaDoor
open Go.RowKit Go.Proofs.YtngpoonjonojhaaDoorW.PrintWords Go.Proofs.YtngpoonjonojhaaDoorW.PrintLast
set_option linter.unusedVariables false
theorem infoPc : (Tryd.prog.info? 98).map (fun i => (i.zero, i.size, i.bytes)) = some (some (.agg #[.int .i64 0, .int .i64 0]), kPc.sz, 16) := by kernel_rfl
theorem app_pc {ops : Array Oper} {Q : Exit → Act → World → Prop} {o : Oper} {rest : List Oper} {a : Act} {w0 W : World} {s x : Operand} {v : Value} {xs : List Pc} {y : Pc} (hg : o.guard = none) (ho : o.op = .call { callee := .builtin .append, args := #[s, x], argTypes := #[61, 61] }) (h1 : a.eval s = v) (h2 : a.eval x = .slice (some ⟨W.heap.size, 0, none⟩) 1 1)
    (HO : kPc.R 98 W w0.heap.size (fun _ => True) v xs) (HB : Below w0.heap.size w0 W) (hl : xs.length ≤ 100000000)
    (h : ∀ v1 w1, kPc.R 98 w1 w0.heap.size (fun _ => True) v1 (xs ++ [y]) → Below w0.heap.size w0 w1 → W.grownBy w1 v.ownBlock → wpList Tryd.prog ops Q rest (a.put o.dst v1) w1) : wpList Tryd.prog ops Q (o :: rest) a (W.alloc (.cells #[.int .i64 y.size, .int .i64 y.pos] 98)) :=
  Kd.R_append kPc (w0 := w0) w0.heap.size hg s x 61 98 (.agg #[.int .i64 0, .int .i64 0]) 16 ho Tryd.underlying61 infoPc rfl (by decide) (by decide) v xs y [.int .i64 y.size, .int .i64 y.pos] (fun _ => True) (fun _ => False) h1 h2 (kPc_mkM _ _ _ _) (fun k hk => hk.elim) (fun _ _ => trivial) HO HB HB.size (by omega) (fun v1 w1 ho hb hg _ => h v1 w1 ho hb hg)
theorem sums_n (A : Option Addr) (c : Nat) (xs : List Int) (n : Nat) (hn : xs.length = n) (hz : n ≤ 2000) (hb : ∀ i : Nat, i < xs.length → -1125899906842624 ≤ rdI xs i ∧ rdI xs i ≤ 1125899906842624) (w : World) (h1 : Kd.C (Kd.int .i64) w A xs.length xs) :
    Calls Tryd.prog 83 #[.slice A xs.length c] w fun e w' => (∃ A' c', e = .returned (.slice A' (n + 1) c') ∧ Kd.C (Kd.int .i64) w' A' (n + 1) (sumsOf xs)) ∧ Below w.heap.size w w' := by
  refine (sums_calls A c xs (by omega) hb w h1).mono ?_
  rintro e w' ⟨⟨A', c', he, _, hC⟩, hB⟩
  have hl : (sumsOf xs).length = n + 1 := by simp [sumsOf, hn]
  rw [hl] at he hC
  exact ⟨⟨A', c', he, hC⟩, hB⟩
theorem lnErr_nums {x : Ln} (h : lnErr x = 0) : (∀ i : Nat, i < x.chip.length → -1125899906842624 ≤ rdI x.chip i ∧ rdI x.chip i ≤ 1125899906842624) ∧ (∀ i : Nat, i < x.dust.length → -1125899906842624 ≤ rdI x.dust i ∧ rdI x.dust i ≤ 1125899906842624) := by
  unfold lnErr at h
  split at h
  · exact absurd h (by assumption)
  split at h
  · omega
  split at h
  · exact absurd h (by assumption)
  have key : ∀ (xs : List Int) (k : Nat), k < ([x.chip, x.dust] ++ x.gain).length → rd_L2 ([x.chip, x.dust] ++ x.gain) (k : Nat) = xs → ∀ i : Nat, i < xs.length → -1125899906842624 ≤ rdI xs i ∧ rdI xs i ≤ 1125899906842624 := by
    intro xs k hk hx i hi
    have e1 := firstErr_zero h k hk
    unfold numsErr1 at e1
    rw [hx] at e1
    have e2 := firstErr_zero e1 i hi
    unfold numErr1 at e2
    split at e2
    · rename_i q
      simp only [inR, Bool.and_eq_true, decide_eq_true_eq] at q
      exact q
    · omega
  exact ⟨key x.chip 0 (by simp) rfl, key x.dust 1 (by simp) rfl⟩
theorem lay2 {T G : Prop} (h : T) (k : T → G) : G := k h
theorem eqPcN (c : Pc) (w : World) : (Op.equalIn 10000 98 (.agg #[.int .i64 c.size, .int .i64 c.pos]) (.agg #[.int .i64 (-1), .int .i64 (-1)])).run Tryd.prog w = .ok (c.size == -1 && c.pos == -1) w := eqPc _ _ _ _ w 9998
set_option maxHeartbeats 8000000 in
set_option maxRecDepth 1000000 in
theorem cbest_calls (x : Ln) (A1 : Option Addr) (c1 : Nat) (A2 : Option Addr) (c2 : Nat) (A3 : Option Addr) (c3 : Nat) (A4 : Option Addr) (c4 : Nat) (w : World) (h1 : Kd.C (Kd.int .i64) w A1 x.sizes.length x.sizes) (h2 : Kd.C (Kd.slice 3 (Kd.int .i64)) w A2 x.gain.length x.gain) (h3 : Kd.C (Kd.int .i64) w A3 x.chip.length x.chip) (h4 : Kd.C (Kd.int .i64) w A4 x.dust.length x.dust) (hz : x.sizes.length ≤ 1000000)
    (hn0 : w.cell? ⟨0, 0, none⟩ = some (.int .i64 (-1))) (hn1 : w.cell? ⟨0, 1, none⟩ = some (.int .i64 (-1))) (hn2 : w.cell? ⟨0, 2, none⟩ = some (.int .i64 0)) :
    Calls Tryd.prog 53 #[.agg #[.int .i64 x.len, .int .i64 x.kerf, .int .i64 x.pitch, .slice A1 x.sizes.length c1, .slice A2 x.gain.length c2, .slice A3 x.chip.length c3, .slice A4 x.dust.length c4]] w fun e w' => (∃ A c, e = .returned (.tuple #[.slice A (bestPcs x).1.length c, .int .i64 (bestPcs x).2.1, .int .i64 (bestPcs x).2.2]) ∧ (bestPcs x).1.length ≤ c ∧ Kd.C kPc w' A (bestPcs x).1.length (bestPcs x).1) ∧ Below w.heap.size w w' := by
  have HB := Aside0.mk (Below.refl w.heap.size w)
  have H1 := Aside0.mk h1
  have H2 := Aside0.mk h2
  have H3 := Aside0.mk h3
  have H4 := Aside0.mk h4
  have HN0 := Aside0.mk hn0
  have HN1 := Aside0.mk hn1
  have HN2 := Aside0.mk hn2
  clear h1 h2 h3 h4 hn0 hn1 hn2
  obtain ⟨R, hR⟩ : ∃ R, R = bestPcs x := ⟨_, rfl⟩
  rw [← hR]
  have HR := Aside0.mk hR
  clear hR
  go_enter Tryd.func53, Tryd.ntmps53
  go_wp2_with fail
  refine (ccheck_calls x _ _ _ _ _ _ _ _ _ ?c1 ?c2 ?c3 ?c4 hz).mono ?_
  case c1 => exact Kd.C_below H1.out BB
  case c2 => exact Kd.C_below H2.out BB
  case c3 => exact Kd.C_below H3.out BB
  case c4 => exact Kd.C_below H4.out BB
  rintro e w1 ⟨rfl, hb1⟩
  obtain ⟨hB1, hb2⟩ := adv HB.out hb1
  have hb : w1.heap[w.heap.size]? = some (.cells #[.int .i64 x.len, .int .i64 x.kerf, .int .i64 x.pitch, .slice A1 x.sizes.length c1, .slice A2 x.gain.length c2, .slice A3 x.chip.length c3, .slice A4 x.dust.length c4] 64 (0, 0)) := blk_below (by repeat (first | exact blk_newi _ (by simp) | refine blk_drewN ?_ _ | refine blk_drew ?_ | refine blk_alloc ?_ _)) hb1
  have hb_0 : w1.cell? ⟨w.heap.size, 0, none⟩ = some (.int .i64 x.len) := (blk_cell hb 0).trans rfl
  have hb_1 : w1.cell? ⟨w.heap.size, 1, none⟩ = some (.int .i64 x.kerf) := (blk_cell hb 1).trans rfl
  have hb_2 : w1.cell? ⟨w.heap.size, 2, none⟩ = some (.int .i64 x.pitch) := (blk_cell hb 2).trans rfl
  have hb_3 : w1.cell? ⟨w.heap.size, 3, none⟩ = some (.slice A1 x.sizes.length c1) := (blk_cell hb 3).trans rfl
  have hb_4 : w1.cell? ⟨w.heap.size, 4, none⟩ = some (.slice A2 x.gain.length c2) := (blk_cell hb 4).trans rfl
  have hb_5 : w1.cell? ⟨w.heap.size, 5, none⟩ = some (.slice A3 x.chip.length c3) := (blk_cell hb 5).trans rfl
  have hb_6 : w1.cell? ⟨w.heap.size, 6, none⟩ = some (.slice A4 x.dust.length c4) := (blk_cell hb 6).trans rfl
  replace hb := Aside0.mk hb
  replace HB := Aside0.mk hB1
  clear hb1 hB1 hb2
  by_cases he : lnErr x = 0
  rotate_left
  · have F := Aside0.mk (show R = ([], 0, lnErr x) from HR.out.trans (if_pos he))
    have hbe : (lnErr x != 0) = true := bne_iff_ne.2 he
    clear he
    go_wp2_with fail
    refine bodyPost_ret (by simp [results, Tryd.results53, go_sem]; rfl) rfl ⟨⟨none, 0, ?_, ?_, ?_⟩, HB.out⟩
    · rw [F.out]; rfl
    · rw [F.out]; exact Nat.le_refl _
    · rw [F.out]; exact ⟨rfl, by simp, fun h => by simp at h⟩
  obtain ⟨⟨l1, l2, k1, k2, p1, p2⟩, s1, s2, s3, s4, s5, s6⟩ := lnErr_ok he
  obtain ⟨m1, m2⟩ := lnErr_nums he
  have F0 := HR.out.trans (if_neg (fun h => h he))
  obtain ⟨n, hn⟩ : ∃ n : Nat, n = x.len.toNat := ⟨_, rfl⟩
  rw [← hn] at F0
  have F := Aside0.mk F0
  have HNL := Aside0.mk (show x.len = (n : Nat) by omega)
  have HSZ := Aside0.mk s2
  have HGL := Aside0.mk s3
  have HRL := Aside0.mk s6
  have HCN := Aside0.mk (show x.chip.length = n by omega)
  have HDN := Aside0.mk (show x.dust.length = n by omega)
  have HM1 := Aside0.mk m1
  have HM2 := Aside0.mk m2
  have hn2 : n ≤ 2000 := by omega
  rw [he]
  clear he F0 hn s2 s3 s4 s5 s6 m1 m2 HR
  go_upto_region 4 with (fail)
  have KP : Aside0 (∀ X, Below w1.heap.size w1 X → Below w1.heap.size w1 X ∧ X.cell? ⟨w.heap.size, 5, none⟩ = some (.slice A3 x.chip.length c3) ∧ X.cell? ⟨w.heap.size, 6, none⟩ = some (.slice A4 x.dust.length c4)) := ⟨fun X h => ⟨h, pw_cell_below h hb_5, pw_cell_below h hb_6⟩⟩
  clear hb_0 hb_1 hb_2 hb_3 hb_4 hb_5 hb_6
  go_region_held3 (fun X => Below w1.heap.size w1 X ∧ X.cell? ⟨w.heap.size, 5, none⟩ = some (.slice A3 x.chip.length c3) ∧ X.cell? ⟨w.heap.size, 6, none⟩ = some (.slice A4 x.dust.length c4))
    ((refine KP.out _ ?_; (repeat (with_reducible first | assumption | exact Below.refl _ _ | apply below_alloc | apply below_drew))))
    (first
      | (go_at_call 83; (with_reducible refine (sums_n _ _ x.chip n HCN.out hn2 HM1.out _ ?c1).mono ?_); (case c1 => (go_split_ands; refine Kd.C_below H3.out (below_then HB.out HB.out.size ?_); (repeat (with_reducible first | assumption | exact Below.refl _ _ | apply below_drew)))); rintro e w2 ⟨⟨A6, c6, rfl, hC6⟩, hb2⟩; have hS2 : Below w1.heap.size w1 w2 := (by refine below_then ?hx (Below.size ?hx) hb2; case hx => (repeat (with_reducible first | assumption | exact Below.refl _ _ | apply below_drew))); have HC6 := Aside0.mk hC6; clear hC6 hb2)
      | (go_at_call 83; (with_reducible refine (sums_n _ _ x.dust n HDN.out hn2 HM2.out _ ?c1).mono ?_); (case c1 => (go_split_ands; refine Kd.C_below H4.out (below_then HB.out HB.out.size ?_); (repeat (with_reducible first | assumption | exact Below.refl _ _ | apply below_drew)))); rintro e w3 ⟨⟨A7, c7, rfl, hC7⟩, hb3⟩; have hS3 : Below w1.heap.size w1 w3 := (by refine below_then ?hx (Below.size ?hx) hb3; case hx => (repeat (with_reducible first | assumption | exact Below.refl _ _ | apply below_drew))); have HC7 := Aside0.mk hC7; clear hC7; refine lay2 (T := Aside0 (Kd.C (Kd.int .i64) w3 A6 (n + 1) (sumsOf x.chip))) ?lp ?_; (case lp => (refine ⟨Kd.C_below HC6.out ?_⟩; refine below_then ?hx (Below.size ?hx) hb3; case hx => (repeat (with_reducible first | exact Below.refl _ _ | apply below_drew)))); intro HC6b; clear hb3))
  have HB3 := Aside0.mk (below_then HB.out HB.out.size hS3)
  have HX3 := Aside0.mk (blk_below hb.out hS3)
  clear KP HC6 hb HB hS2 hS3
  have hx0 : w3.cell? ⟨w.heap.size, 0, none⟩ = some (.int .i64 x.len) := (blk_cell HX3.out 0).trans rfl
  have hmk : ∀ W : World, (Instr.makeSlice 163 (.int .i64 (x.len + 1)) (.int .i64 (x.len + 1))).run Tryd.prog W = .ok (.slice (some ⟨W.heap.size, 0, none⟩) (n + 1) (n + 1)) (W.alloc (.cells (flatC (List.replicate (n + 1) zCh)).toArray 165)) := by
    intro W
    have e := make_ch (n + 1) (by omega) W
    rw [show (((n + 1 : Nat) : Int)) = x.len + 1 by have := HNL.out; omega] at e
    exact e
  have hb0 := blk_lt HX3.out
  go_upto_region 8 with (fail)
  clear hmk hx0
  refine name_world (R := fun W => Below w3.heap.size w3 W ∧ ChBlk W w3.heap.size (List.replicate (n + 1) zCh) ∧ ChBlk W (w3.heap.size + 1) (List.replicate (n + 1) zCh) ∧ ChBlk W (w3.heap.size + 1 + 1) (List.replicate (n + 1) zCh)) ⟨BB, ?v1, ?v2, ?v3⟩ ?_
  case v1 => exact blk_alloc (blk_alloc (blk_new w3 _) _) _
  case v2 => exact blk_alloc (blk_newi (w := w3.alloc _) _ (by simp)) _
  case v3 => exact blk_newi _ (by simp)
  rintro w4 ⟨hb4, ha4, hbb4, hc4⟩
  have HB4 := Aside0.mk hb4
  have HA4 := Aside0.mk ha4
  have HBB4 := Aside0.mk hbb4
  have HC4 := Aside0.mk hc4
  have hx0 : w4.cell? ⟨w.heap.size, 0, none⟩ = some (.int .i64 x.len) := (blk_cell (blk_below HX3.out hb4) 0).trans rfl
  clear hb4 ha4 hbb4 hc4
  go_wp2_with fail
  clear hx0
  have HDL := Aside0.mk (show (sumsOf x.dust).length = n + 1 by simp [sumsOf, HDN.out])
  refine dp_loop x A1 c1 A2 c2 A3 c3 A4 c4 A6 c6 A7 c7 (sumsOf x.chip) (sumsOf x.dust) n w.heap.size w3.heap.size (w3.heap.size + 1) (w3.heap.size + 1 + 1) HNL l1 l2 p1 p2 k1 k2 s1 HSZ HGL HRL HDL w3 w4 (by omega) (by omega) (by omega) (by omega) (by omega) (by omega) hb0 ⟨Kd.C_below H1.out HB3.out⟩ ⟨Kd.C_below H2.out HB3.out⟩ ⟨pw_cell_below HB3.out HN0.out⟩ ⟨pw_cell_below HB3.out HN1.out⟩ ⟨pw_cell_below HB3.out HN2.out⟩ HB4 HX3 HC6b HC7 HA4 HBB4 HC4 _ _ _ _ _ _ _ _ _ _ _ _ _ _ _ _ _ _ _ _ _ _ _ _ _ _ _ _ _ _ _ _ _ _ _ _ _ _ _ _ _ _ _ _ _ _ _ _ _ _ _ _ _ _ _ _ _ _ _ _ _ _ _ _ _ _ _ _ _ _ _ _ _ _ _ _ _ _ _ _ _ _ _ _ _ _ _ _ _ _ _ _ _ _ _ _ _ _ _ _ _ _ _ _ _ _ _ _ _ _ _ _ _ _ _ _ _ _ _ _ _ _ _ _ _ _ _ _ _ _ _ _ _ _ _ _ _ _ _ _ _ _ _ _ _ _ _ _ _ _ _ _ _ _ _ _ _ _ _ _ _ _ _ _ _ _ _ _ _ _ _ _ _ _ _ _ _ _ _ _ _ _ _ _ _ _ _ _ _ _ _ _ _ _ _ _ _ _ _ _ _ _ _ _ _ _ _ _ _ _ _ _ _ _ _ _ _ _ _ _ _ _ _ _ _ _ _ _ _ _ _ _ _ _ _ _ _ _ _ _ _ _ _ _ _ _ _ _ _ _ _ _ _ _ _ _ _ _ _ _ _ _ _ _ _ _ _ _ _ _ _ _ _ _ _ _ _ _ _ _ _ _ _ _ _ _ _ _ _ _ _ _ _ _ _ _ _ _ _ _ _ _ _ _ _ _ _ _ _ _ _ _ _ _ _ _ _ _ _ _ _ _ _ _ _ _ _ _ _ _ _ _ ?_
  intro y11 y12 y13 y14 y15 y16 y17 y18 y19 y20 y21 y22 y52 y53 y54 y55 y56 y57 y58 y59 y60 y61 y62 y63 y64 y65 y66 y67 y68 y69 y70 y71 y72 y73 y74 y75 y76 y77 y78 y79 y80 y81 y82 y83 y84 y85 y86 y87 y88 y89 y90 y91 y92 y93 y94 y95 y96 y97 y98 y99 y100 y101 y102 y103 y104 y105 y106 y107 y108 y109 y110 y111 y112 y113 y114 y115 y116 y117 y118 y119 y120 y121 y122 y123 y124 y125 y126 y127 y128 y129 y130 y131 y132 y133 y134 y135 y136 y137 y138 y139 y140 y141 y142 y143 y144 y145 y146 y147 y148 y149 y150 y151 y152 y153 y154 y155 y156 y157 y158 y159 y160 y161 y162 y163 y164 y165 y166 y167 y168 y169 y170 y171 y172 y173 y174 y175 y176 y177 y178 y179 y180 y181 y182 y183 y184 y185 y186 y187 y188 y189 y190 y191 y192 y193 y194 y195 y196 y197 y198 y199 y200 y201 y202 y203 y204 y205 y206 y207 y208 y209 y210 y211 y212 y213 y214 y215 y216 y217 y218 y219 y220 y221 y222 y223 y224 y225 y226 y227 y228 y229 y230 y231 y232 y233 y234 y235 y236 y237 y238 y239 y240 y241 y242 y243 y244 y245 y246 y247 y248 y249 y250 y251 y252 y253 y254 y255 y256 y257 y258 y259 y260 y261 y262 y263 y264 y265 y266 y267 y268 y269 y270 y271 y272 y273 y274 y275 y276 y277 y278 y279 y280 y281 y282 y283 y284 y285 y286 y287 y288 y289 y290 y291 y292 y293 y294 y295 w5 hb5 hc5
  have HB5 := Aside0.mk (below_then HB3.out HB3.out.size hb5)
  have HX5 := Aside0.mk (blk_below HX3.out hb5)
  have hbw5 : w.heap.size < w5.heap.size := blk_lt HX5.out
  obtain ⟨bs, hbs⟩ : ∃ bs, bs = (dpTo x (sumsOf x.chip) (sumsOf x.dust) n (n + 1)).bs := ⟨_, rfl⟩
  have OK := dpTo_ok (chip := sumsOf x.chip) (dust := sumsOf x.dust) HNL.out p1 k1 (n + 1) (Nat.le_refl _)
  have HG := Aside0.mk (show ∀ i : Nat, i ≤ n → GoodC x i (bs.getD i zCh) from fun i hi => by rw [hbs]; exact OK.gc i hi (by omega))
  have HBL := Aside0.mk (show bs.length = n + 1 by rw [hbs]; exact OK.lc)
  rw [← hbs] at hc5 F
  have HC5 := Aside0.mk hc5
  have hgc5 : w3.heap.size + 1 + 1 < w5.heap.size := ch_lt hc5
  generalize w3.heap.size + 1 + 1 = gc at *
  clear hb5 hc5 hbs OK HB3 HX3 HB4 HA4 HBB4 HC4 HC6b HC7 HDL
  go_wp2_with fail
  have F1 := Aside0.mk F.out
  obtain ⟨OUT, hOUT⟩ : ∃ OUT, OUT = outFrom x bs (n + 1) 0 := ⟨_, rfl⟩
  have HOL := Aside0.mk (show OUT.length ≤ 2001 by rw [hOUT]; have := outFrom_len x bs (n + 1) 0; omega)
  rw [← hOUT] at F1
  have HOUT := Aside0.mk hOUT.symm
  clear hOUT F
  have hG1 := fun x y a b w => guardPc .neq x y a b w
  go_loopw [23, 24] (fun v i wr => ∃ (f : Nat) (ei : Int) (pre : List Pc), i = .int .i64 ei ∧ 0 ≤ ei ∧ ei ≤ x.len ∧ x.len < ei + f ∧ Aside0 (pre ++ outFrom x bs f ei = OUT) ∧ Aside0 (Below w5.heap.size w5 wr) ∧ Aside0 (kPc.R 98 wr w5.heap.size (fun _ => True) v pre)) (fun _ i _ => (x.len - intOf i).toNat)
  case atStart => exact ⟨n + 1, 0, [], rfl, by omega, by omega, by have := HNL.out; omega, ⟨by rw [HOUT.out]; rfl⟩, ⟨Below.refl _ _⟩, ⟨Kd.R_nil _ _ _ _ _⟩⟩
  case round =>
    obtain ⟨f, ei, pre, rfl, e1, e2, e3, HP, HBr, HO⟩ := hrel
    have hil : ei.toNat < n + 1 := by have := HNL.out; omega
    have hi2 : ei < (n : Int) + 1 := by have := HNL.out; omega
    obtain ⟨c, hc⟩ : ∃ c, c = bs.getD ei.toNat zCh := ⟨_, rfl⟩
    have hg := HG.out ei.toNat (by omega)
    rw [show ((ei.toNat : Nat) : Int) = ei by omega, ← hc] at hg
    have HCr := Aside0.mk (ch_below HC5.out HBr.out)
    obtain ⟨hq0, hq1, hq2⟩ := ch_cell HCr.out ei.toNat (by rw [HBL.out]; exact hil)
    rw [← hc] at hq0 hq1 hq2
    obtain ⟨f', rfl⟩ : ∃ f', f = f' + 1 := ⟨f - 1, by omega⟩
    have HT := Aside0.mk (show outFrom x bs (f' + 1) ei = if c.piece.size = -1 ∧ c.piece.pos = -1 then [] else if c.piece.pos + rdI x.sizes c.piece.size = x.len then [c.piece] else c.piece :: outFrom x bs f' (mni (c.piece.pos + rdI x.sizes c.piece.size + x.kerf) x.len) by rw [hc]; rfl)
    have HCC := Aside0.mk hc.symm
    clear hc
    have hz0 := pw_cell_below HBr.out (pw_cell_below HB5.out HN0.out)
    have hz1 := pw_cell_below HBr.out (pw_cell_below HB5.out HN1.out)
    have hE := eqPcN c.piece
    by_cases q : c.piece.size = -1 ∧ c.piece.pos = -1
    · have HF := Aside0.mk (show pre = OUT by have h := HP.out; rw [HT.out, if_pos q, List.append_nil] at h; exact h)
      have qb : (c.piece.size == -1 && c.piece.pos == -1) = true := by simp [q.1, q.2]
      rw [qb] at hE
      clear q qb hg
      go_upto_region 42 with (fail)
      go_quiet (fail)
      clear hq0 hq1 hq2 hz0 hz1 hE
      go_upto_region 48 with (fail)
      refine name_world (R := fun W => Below w5.heap.size w5 W ∧ kPc.R 98 W w5.heap.size (fun _ => True) u23 OUT) ⟨pw_below_drewN HBr.out _, by rw [← HF.out]; exact Kd.R_drewN HO.out _⟩ ?_
      rintro w6 ⟨hb6, ho6⟩
      have HB6 := Aside0.mk hb6
      have HO6 := Aside0.mk ho6
      clear hb6 ho6
      obtain ⟨hy0, hy1, hy2⟩ := ch_cell (ch_below HC5.out HB6.out) 0 (by rw [HBL.out]; omega)
      simp only [Nat.zero_mul, Nat.zero_add] at hy2
      obtain ⟨bv, hbv⟩ : ∃ bv, bv = (bs.getD 0 zCh).value := ⟨_, rfl⟩
      have F2 := Aside0.mk (show R = (OUT, bv, 0) by rw [hbv]; exact F1.out)
      rw [← hbv] at hy2
      obtain ⟨A9, c9, rfl⟩ := Kd.R_slice HO6.out
      have o1 := Kd.R_reads' HO6.out
      have O1 := Aside0.mk o1
      have hi9 : (0 : Int) < (n : Int) + 1 := by omega
      clear hy0 hy1 hbv o1
      go_upto_region 48 with (fail)
      go_quiet (fail)
      go_wp2_with fail
      refine bodyPost_ret (by simp [results, Tryd.results53, go_sem]; rfl) rfl ⟨⟨A9, c9, ?_, ?_, ?_⟩, pw_below_drewN (below_then HB5.out HB5.out.size HB6.out) _⟩
      · rw [F2.out]
      · rw [F2.out]; exact O1.out.2.1
      · rw [F2.out]; exact Kd.C_below O1.out.2.2 (pw_below_drewN (Below.refl _ _) _)
    · have qb : (c.piece.size == -1 && c.piece.pos == -1) = false := by
        rw [Bool.eq_false_iff]
        intro h
        simp only [Bool.and_eq_true, beq_iff_eq] at h
        exact q h
      rw [qb] at hE
      obtain ⟨g1, g2, g3, g4⟩ : 0 ≤ c.piece.size ∧ c.piece.size < x.sizes.length ∧ ei ≤ c.piece.pos ∧ c.piece.pos + rdI x.sizes c.piece.size ≤ x.len := by
        rcases hg with hg | hg
        · exact absurd hg q
        · exact hg
      have HT2 := Aside0.mk (HT.out.trans (if_neg q))
      clear q qb hg HT
      go_upto_region 42 with (fail)
      go_quiet (fail)
      go_upto_region 43 with (fail)
      refine name_world (R := fun W => Below w5.heap.size w5 W ∧ kPc.R 98 W w5.heap.size (fun _ => True) u23 pre) ⟨pw_below_drewN HBr.out _, Kd.R_drewN HO.out _⟩ ?_
      rintro w6 ⟨hb6, ho6⟩
      have HB6 := Aside0.mk hb6
      have HO6 := Aside0.mk ho6
      clear hb6 ho6 hq0 hq1 hq2 hz0 hz1 hE HBr HO HCr hG1
      have hcc : bs.getD ei.toNat zCh = c := HCC.out
      obtain ⟨hq0, hq1, hq2⟩ := ch_cell (ch_below HC5.out HB6.out) ei.toNat (by rw [HBL.out]; exact hil)
      rw [hcc] at hq0 hq1
      clear hq2 hcc
      have hpl : pre.length ≤ 100000000 := by have h := congrArg List.length HP.out; rw [List.length_append] at h; have := HOL.out; omega
      go_upto_region 44 with (fail)
      have HN7 := Aside0.mk (blk_new w6 (.cells #[.int .i64 c.piece.size, .int .i64 c.piece.pos] 98))
      have HB7 := Aside0.mk (below_alloc HB6.out (.cells #[.int .i64 c.piece.size, .int .i64 c.piece.pos] 98))
      have HO7 := Aside0.mk (Kd.R_alloc HO6.out (.cells #[.int .i64 c.piece.size, .int .i64 c.piece.pos] 98))
      have hne : some w6.heap.size ≠ u23.ownBlock := by have := Kd.R_ne_new HO6.out 0; simpa using this
      clear HB6 HO6 hq0 hq1
      generalize w6.alloc (.cells #[.int .i64 c.piece.size, .int .i64 c.piece.pos] 98) = w7 at *
      generalize w6.heap.size = gp at *
      have hn0 : w7.cell? ⟨gp, 0, none⟩ = some (.int .i64 c.piece.size) := (blk_cell HN7.out 0).trans rfl
      have hn1 : w7.cell? ⟨gp, 1, none⟩ = some (.int .i64 c.piece.pos) := (blk_cell HN7.out 1).trans rfl
      go_upto_region 45 with (first
        | (at_builtin
           refine app_pc (w0 := w5) (y := c.piece) rfl rfl rfl rfl HO7.out HB7.out hpl ?_
           intro v8 w8 ho8 hb8 hg8
           have HO8 := Aside0.mk ho8
           have HB8 := Aside0.mk hb8
           have HN8 := Aside0.mk (blk_grown HN7.out hg8 hne)
           clear ho8 hb8 hg8))
      clear hn0 hn1 HO7 HB7 HN7 hne
      have HB9 := Aside0.mk (below_then HB5.out HB5.out.size HB8.out)
      have HX8 := Aside0.mk (blk_below HX5.out HB8.out)
      have hn0 : w8.cell? ⟨gp, 0, none⟩ = some (.int .i64 c.piece.size) := (blk_cell HN8.out 0).trans rfl
      have hn1 : w8.cell? ⟨gp, 1, none⟩ = some (.int .i64 c.piece.pos) := (blk_cell HN8.out 1).trans rfl
      have hx0 : w8.cell? ⟨w.heap.size, 0, none⟩ = some (.int .i64 x.len) := (blk_cell HX8.out 0).trans rfl
      have hx1 : w8.cell? ⟨w.heap.size, 1, none⟩ = some (.int .i64 x.kerf) := (blk_cell HX8.out 1).trans rfl
      have hx3 : w8.cell? ⟨w.heap.size, 3, none⟩ = some (.slice A1 x.sizes.length c1) := (blk_cell HX8.out 3).trans rfl
      obtain ⟨ad, hA1, hsv⟩ := Kd.at_int (Kd.C_below H1.out HB9.out) c.piece.size g1 g2
      subst hA1
      have s0 := (HSZ.out c.piece.size.toNat (by omega))
      rw [show ((c.piece.size.toNat : Nat) : Int) = c.piece.size by omega] at s0
      obtain ⟨sv, hs⟩ : ∃ sv, sv = rdI x.sizes c.piece.size := ⟨_, rfl⟩
      rw [← hs] at s0 g4 HT2
      replace hsv : _ = some (Value.int .i64 sv) := hsv.trans (by rw [hs]; rfl)
      clear hs
      obtain ⟨s0, s9⟩ := s0
      have hW : IntKind.i64.wrap (c.piece.pos + sv) = c.piece.pos + sv := IntWalk.i64_in _ (by omega)
      go_quiet (fail)
      clear hW hsv hn0 hn1
      by_cases q : c.piece.pos + sv = x.len
      · have HF := Aside0.mk (show pre ++ [c.piece] = OUT by have h := HP.out; rw [HT2.out, if_pos q] at h; exact h)
        have qb : (c.piece.pos + sv == x.len) = true := by rw [q]; simp
        clear q
        go_upto_region 48 with (fail)
        refine name_world (R := fun W => Below w5.heap.size w5 W ∧ kPc.R 98 W w5.heap.size (fun _ => True) v8 OUT) ⟨pw_below_drewN HB8.out _, by rw [← HF.out]; exact Kd.R_drewN HO8.out _⟩ ?_
        rintro w9 ⟨hb6, ho6⟩
        have HB6 := Aside0.mk hb6
        have HO6 := Aside0.mk ho6
        clear hb6 ho6 hx0 hx1 hx3
        obtain ⟨hy0, hy1, hy2⟩ := ch_cell (ch_below HC5.out HB6.out) 0 (by rw [HBL.out]; omega)
        simp only [Nat.zero_mul, Nat.zero_add] at hy2
        obtain ⟨bv, hbv⟩ : ∃ bv, bv = (bs.getD 0 zCh).value := ⟨_, rfl⟩
        have F2 := Aside0.mk (show R = (OUT, bv, 0) by rw [hbv]; exact F1.out)
        rw [← hbv] at hy2
        obtain ⟨A9, c9, rfl⟩ := Kd.R_slice HO6.out
        have o1 := Kd.R_reads' HO6.out
        have O1 := Aside0.mk o1
        have hi9 : (0 : Int) < (n : Int) + 1 := by omega
        clear hy0 hy1 hbv o1
        go_upto_region 48 with (fail)
        go_quiet (fail)
        go_wp2_with fail
        refine bodyPost_ret (by simp [results, Tryd.results53, go_sem]; rfl) rfl ⟨⟨A9, c9, ?_, ?_, ?_⟩, pw_below_drewN (below_then HB5.out HB5.out.size HB6.out) _⟩
        · rw [F2.out]
        · rw [F2.out]; exact O1.out.2.1
        · rw [F2.out]; exact Kd.C_below O1.out.2.2 (pw_below_drewN (Below.refl _ _) _)

      · have HP2 := Aside0.mk (show (pre ++ [c.piece]) ++ outFrom x bs f' (mni (c.piece.pos + sv + x.kerf) x.len) = OUT by have h := HP.out; rw [HT2.out, if_neg q] at h; rw [List.append_assoc]; exact h)
        have qb : (c.piece.pos + sv == x.len) = false := beq_eq_false_iff_ne.2 q
        have qlt : c.piece.pos + sv < x.len := by omega
        clear q
        by_cases q : x.len < c.piece.pos + sv + x.kerf
        · have hm : mni (c.piece.pos + sv + x.kerf) x.len = x.len := by unfold mni; rw [if_pos q]
          rw [hm] at HP2
          clear hm
          go_wp2_with fail
          go_roundw
          case rel => exact ⟨f', x.len, pre ++ [c.piece], by go_num, by omega, by omega, by omega, HP2, ⟨pw_below_drewN HB8.out _⟩, ⟨Kd.R_drewN HO8.out _⟩⟩
          case measure => (simp [intOf]; try omega)
        · have hm : mni (c.piece.pos + sv + x.kerf) x.len = c.piece.pos + sv + x.kerf := by unfold mni; rw [if_neg q]
          rw [hm] at HP2
          have q' : c.piece.pos + sv + x.kerf ≤ x.len := by omega
          clear hm q
          go_wp2_with fail
          go_roundw
          case rel => exact ⟨f', c.piece.pos + sv + x.kerf, pre ++ [c.piece], by go_num, by omega, by omega, by omega, HP2, ⟨pw_below_drewN HB8.out _⟩, ⟨Kd.R_drewN HO8.out _⟩⟩
          case measure => (simp [intOf]; try omega)
end Go.Proofs.YtngpoonjonojhaaDoor
