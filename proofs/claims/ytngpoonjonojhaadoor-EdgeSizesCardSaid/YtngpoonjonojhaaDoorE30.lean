/- Walks: the best of all from a position on. -/
import Derived.Test.YtngpoonjonojhaaDoorE29
import Derived.Deep.RegionHeld3
set_option linter.all false
namespace Go.Proofs.YtngpoonjonojhaaDoor
open Go.RowKit Go.Proofs.YtngpoonjonojhaaDoorW.PrintWords Go.Proofs.YtngpoonjonojhaaDoorW.PrintLast
set_option linter.unusedVariables false
noncomputable def dpX33 : Code := ((Tryd.f53.body.bind (cutIn 33)).map (·.1)).getD .skip
noncomputable def dpY33 : Code := ((Tryd.f53.body.bind (cutIn 33)).map (·.2)).getD .skip
def pick2 (b a c : Ch) : Nat → Ch
  | 0 => b
  | 1 => bestPick b a
  | _ => bestPick (bestPick b a) c
theorem pick2_step (b a c : Ch) (k : Nat) (h : k < 2) : pick2 b a c (k + 1) = bestPick (pick2 b a c k) ([a, c].getD k zCh) := by
  match k with
  | 0 => rfl
  | 1 => rfl
theorem ch_lit (W : World) (a b : Ch) : ChBlk (W.alloc (.cells #[.int .i64 a.piece.size, .int .i64 a.piece.pos, .int .i64 a.value, .int .i64 b.piece.size, .int .i64 b.piece.pos, .int .i64 b.value] 165)) W.heap.size [a, b] := blk_new _ _
set_option maxHeartbeats 8000000 in
set_option maxRecDepth 1000000 in
theorem dp_best (x : Ln) (A1 : Option Addr) (c1 : Nat) (A2 : Option Addr) (c2 : Nat) (A3 : Option Addr) (c3 : Nat) (A4 : Option Addr) (c4 : Nat) (A6 : Option Addr) (c6 : Nat) (ch : List Int) (e n b0 ga gb gc : Nat) (AL BL CL : List Ch)
    (HNL : Aside0 (x.len = (n : Nat))) (hn3 : 0 ≤ x.len) (hn4 : x.len ≤ 2000) (he : (e : Int) ≤ x.len) (HAL : Aside0 (AL.length = n + 1)) (HBL : Aside0 (BL.length = n + 1)) (HCL : Aside0 (CL.length = n + 1)) (w w1 : World) (hgc : w.heap.size ≤ gc) (hac : ga ≠ gc) (hbc : gb ≠ gc)
    (HCH : Aside0 (Kd.C (Kd.int .i64) w A6 (n + 1) ch))
    (HN0 : Aside0 (w.cell? ⟨0, 0, none⟩ = some (.int .i64 (-1)))) (HN1 : Aside0 (w.cell? ⟨0, 1, none⟩ = some (.int .i64 (-1)))) (HN2 : Aside0 (w.cell? ⟨0, 2, none⟩ = some (.int .i64 0)))
    (HB : Aside0 (Below w.heap.size w w1)) (HX : Aside0 (w.heap[b0]? = some (.cells #[.int .i64 x.len, .int .i64 x.kerf, .int .i64 x.pitch, .slice A1 x.sizes.length c1, .slice A2 x.gain.length c2, .slice A3 x.chip.length c3, .slice A4 x.dust.length c4] 64 (0, 0)))) (HA : Aside0 (ChBlk w1 ga AL)) (HBB : Aside0 (ChBlk w1 gb BL)) (HC : Aside0 (ChBlk w1 gc CL))
    (u0 u2 u3 u4 u5 u7 u12 u13 u14 u15 u16 u17 u18 u19 u20 u21 u22 u23 u24 u25 u26 u27 u28 u29 u30 u31 u32 u33 u34 u35 u36 u37 u38 u39 u40 u41 u42 u43 u44 u45 u46 u47 u48 u49 u50 u51 u52 u53 u54 u55 u56 u57 u58 u59 u60 u61 u62 u63 u64 u65 u66 u67 u68 u69 u70 u71 u72 u73 u74 u75 u76 u77 u78 u79 u80 u81 u82 u83 u84 u85 u86 u87 u88 u89 u90 u91 u92 u93 u94 u95 u96 u97 u98 u99 u100 u101 u102 u103 u104 u105 u106 u107 u108 u109 u110 u111 u112 u113 u114 u115 u116 u117 u118 u119 u120 u121 u122 u123 u124 u125 u126 u127 u128 u129 u130 u131 u132 u133 u134 u135 u136 u137 u138 u139 u140 u141 u142 u143 u144 u145 u146 u147 u148 u149 u150 u151 u152 u153 u154 u155 u156 u157 u158 u159 u160 u161 u162 u163 u164 u165 u166 u167 u168 u169 u170 u171 u172 u173 u174 u175 u176 u177 u178 u179 u180 u181 u182 u183 u184 u185 u186 u187 u188 u189 u190 u191 u192 u193 u194 u195 u196 u197 u198 u199 u200 u201 u202 u203 u204 u205 u206 u207 u208 u209 u210 u211 u212 u213 u214 u215 u216 u217 u218 u219 u220 u221 u222 u223 u224 u225 u226 u227 u228 u229 u230 u231 u232 u233 u234 u235 u236 u237 u238 u239 u240 u241 u242 u243 u244 u245 u246 u247 u248 u249 u250 u251 u252 u253 u254 u255 u256 u257 u258 u259 u260 u261 u262 u263 u264 u265 u266 u267 u268 u269 u270 u271 u272 u273 u274 u275 u276 u277 u278 u279 u280 u281 u282 u283 u284 u285 u286 u287 u288 u289 u290 u291 u292 u293 u294 u295 u296 u297 u298 u299 u300 u301 u302 u303 u304 u305 u306 u307 u308 u309 u310 u311 u312 u313 u314 u315 u316 u317 u318 u319 u320 u321 u322 u323 u324 u325 u326 u327 u328 u329 u330 u331 u332 u333 u334 u335 u336 u337 : Value) (Q0 : Exit → Act → World → Prop) (K : Act → World → Prop) (hK : ∀ a w', Code.wp Tryd.prog dpY33 Q0 a w' → K a w')
    (hexit : ∀ (x22 x248 x249 x250 x251 x252 x253 x254 x255 x256 x257 x258 x259 x260 x261 x262 x263 x264 x265 x266 x267 x268 x269 x270 x271 x272 x273 x274 x275 x276 x277 x278 x279 x280 x281 x282 x283 x284 x285 x286 x287 x288 x289 x290 x291 x292 x293 x294 x295 : Value) (w' : World), KeepBut w1 w' gc none → Below w.heap.size w w' → ChBlk w' gc (CL.set e (bestPick (bestPick ⟨⟨-1, -1⟩, wrap64 (rdI ch x.len - rdI ch (e : Nat))⟩ (AL.getD e zCh)) (BL.getD e zCh))) → Q0 .normal { tmps := (u0 :: .pointer (some ⟨b0, 0, none⟩) :: u2 :: u3 :: u4 :: u5 :: .slice A6 (n + 1) c6 :: u7 :: .slice (some ⟨ga, 0, none⟩) (n + 1) (n + 1) :: .slice (some ⟨gb, 0, none⟩) (n + 1) (n + 1) :: .slice (some ⟨gc, 0, none⟩) (n + 1) (n + 1) :: .int .i64 (e : Nat) :: u12 :: u13 :: u14 :: u15 :: u16 :: u17 :: u18 :: u19 :: u20 :: u21 :: x22 :: u23 :: u24 :: u25 :: u26 :: u27 :: u28 :: u29 :: u30 :: u31 :: u32 :: u33 :: u34 :: u35 :: u36 :: u37 :: u38 :: u39 :: u40 :: u41 :: u42 :: u43 :: u44 :: u45 :: u46 :: u47 :: u48 :: u49 :: u50 :: u51 :: u52 :: u53 :: u54 :: u55 :: u56 :: u57 :: u58 :: u59 :: u60 :: u61 :: u62 :: u63 :: u64 :: u65 :: u66 :: u67 :: u68 :: u69 :: u70 :: u71 :: u72 :: u73 :: u74 :: u75 :: u76 :: u77 :: u78 :: u79 :: u80 :: u81 :: u82 :: u83 :: u84 :: u85 :: u86 :: u87 :: u88 :: u89 :: u90 :: u91 :: u92 :: u93 :: u94 :: u95 :: u96 :: u97 :: u98 :: u99 :: u100 :: u101 :: u102 :: u103 :: u104 :: u105 :: u106 :: u107 :: u108 :: u109 :: u110 :: u111 :: u112 :: u113 :: u114 :: u115 :: u116 :: u117 :: u118 :: u119 :: u120 :: u121 :: u122 :: u123 :: u124 :: u125 :: u126 :: u127 :: u128 :: u129 :: u130 :: u131 :: u132 :: u133 :: u134 :: u135 :: u136 :: u137 :: u138 :: u139 :: u140 :: u141 :: u142 :: u143 :: u144 :: u145 :: u146 :: u147 :: u148 :: u149 :: u150 :: u151 :: u152 :: u153 :: u154 :: u155 :: u156 :: u157 :: u158 :: u159 :: u160 :: u161 :: u162 :: u163 :: u164 :: u165 :: u166 :: u167 :: u168 :: u169 :: u170 :: u171 :: u172 :: u173 :: u174 :: u175 :: u176 :: u177 :: u178 :: u179 :: u180 :: u181 :: u182 :: u183 :: u184 :: u185 :: u186 :: u187 :: u188 :: u189 :: u190 :: u191 :: u192 :: u193 :: u194 :: u195 :: u196 :: u197 :: u198 :: u199 :: u200 :: u201 :: u202 :: u203 :: u204 :: u205 :: u206 :: u207 :: u208 :: u209 :: u210 :: u211 :: u212 :: u213 :: u214 :: u215 :: u216 :: u217 :: u218 :: u219 :: u220 :: u221 :: u222 :: u223 :: u224 :: u225 :: u226 :: u227 :: u228 :: u229 :: u230 :: u231 :: u232 :: u233 :: u234 :: u235 :: u236 :: u237 :: u238 :: u239 :: u240 :: u241 :: u242 :: u243 :: u244 :: u245 :: u246 :: u247 :: x248 :: x249 :: x250 :: x251 :: x252 :: x253 :: x254 :: x255 :: x256 :: x257 :: x258 :: x259 :: x260 :: x261 :: x262 :: x263 :: x264 :: x265 :: x266 :: x267 :: x268 :: x269 :: x270 :: x271 :: x272 :: x273 :: x274 :: x275 :: x276 :: x277 :: x278 :: x279 :: x280 :: x281 :: x282 :: x283 :: x284 :: x285 :: x286 :: x287 :: x288 :: x289 :: x290 :: x291 :: x292 :: x293 :: x294 :: x295 :: u296 :: u297 :: u298 :: u299 :: u300 :: u301 :: u302 :: u303 :: u304 :: u305 :: u306 :: u307 :: u308 :: u309 :: u310 :: u311 :: u312 :: u313 :: u314 :: u315 :: u316 :: u317 :: u318 :: u319 :: u320 :: u321 :: u322 :: u323 :: u324 :: u325 :: u326 :: u327 :: u328 :: u329 :: u330 :: u331 :: u332 :: u333 :: u334 :: u335 :: u336 :: u337 :: []).toArray, defers := [] } w') :
    Code.wp Tryd.prog dpX33 (Exit.then K Q0) { tmps := (u0 :: .pointer (some ⟨b0, 0, none⟩) :: u2 :: u3 :: u4 :: u5 :: .slice A6 (n + 1) c6 :: u7 :: .slice (some ⟨ga, 0, none⟩) (n + 1) (n + 1) :: .slice (some ⟨gb, 0, none⟩) (n + 1) (n + 1) :: .slice (some ⟨gc, 0, none⟩) (n + 1) (n + 1) :: .int .i64 (e : Nat) :: u12 :: u13 :: u14 :: u15 :: u16 :: u17 :: u18 :: u19 :: u20 :: u21 :: u22 :: u23 :: u24 :: u25 :: u26 :: u27 :: u28 :: u29 :: u30 :: u31 :: u32 :: u33 :: u34 :: u35 :: u36 :: u37 :: u38 :: u39 :: u40 :: u41 :: u42 :: u43 :: u44 :: u45 :: u46 :: u47 :: u48 :: u49 :: u50 :: u51 :: u52 :: u53 :: u54 :: u55 :: u56 :: u57 :: u58 :: u59 :: u60 :: u61 :: u62 :: u63 :: u64 :: u65 :: u66 :: u67 :: u68 :: u69 :: u70 :: u71 :: u72 :: u73 :: u74 :: u75 :: u76 :: u77 :: u78 :: u79 :: u80 :: u81 :: u82 :: u83 :: u84 :: u85 :: u86 :: u87 :: u88 :: u89 :: u90 :: u91 :: u92 :: u93 :: u94 :: u95 :: u96 :: u97 :: u98 :: u99 :: u100 :: u101 :: u102 :: u103 :: u104 :: u105 :: u106 :: u107 :: u108 :: u109 :: u110 :: u111 :: u112 :: u113 :: u114 :: u115 :: u116 :: u117 :: u118 :: u119 :: u120 :: u121 :: u122 :: u123 :: u124 :: u125 :: u126 :: u127 :: u128 :: u129 :: u130 :: u131 :: u132 :: u133 :: u134 :: u135 :: u136 :: u137 :: u138 :: u139 :: u140 :: u141 :: u142 :: u143 :: u144 :: u145 :: u146 :: u147 :: u148 :: u149 :: u150 :: u151 :: u152 :: u153 :: u154 :: u155 :: u156 :: u157 :: u158 :: u159 :: u160 :: u161 :: u162 :: u163 :: u164 :: u165 :: u166 :: u167 :: u168 :: u169 :: u170 :: u171 :: u172 :: u173 :: u174 :: u175 :: u176 :: u177 :: u178 :: u179 :: u180 :: u181 :: u182 :: u183 :: u184 :: u185 :: u186 :: u187 :: u188 :: u189 :: u190 :: u191 :: u192 :: u193 :: u194 :: u195 :: u196 :: u197 :: u198 :: u199 :: u200 :: u201 :: u202 :: u203 :: u204 :: u205 :: u206 :: u207 :: u208 :: u209 :: u210 :: u211 :: u212 :: u213 :: u214 :: u215 :: u216 :: u217 :: u218 :: u219 :: u220 :: u221 :: u222 :: u223 :: u224 :: u225 :: u226 :: u227 :: u228 :: u229 :: u230 :: u231 :: u232 :: u233 :: u234 :: u235 :: u236 :: u237 :: u238 :: u239 :: u240 :: u241 :: u242 :: u243 :: u244 :: u245 :: u246 :: u247 :: u248 :: u249 :: u250 :: u251 :: u252 :: u253 :: u254 :: u255 :: u256 :: u257 :: u258 :: u259 :: u260 :: u261 :: u262 :: u263 :: u264 :: u265 :: u266 :: u267 :: u268 :: u269 :: u270 :: u271 :: u272 :: u273 :: u274 :: u275 :: u276 :: u277 :: u278 :: u279 :: u280 :: u281 :: u282 :: u283 :: u284 :: u285 :: u286 :: u287 :: u288 :: u289 :: u290 :: u291 :: u292 :: u293 :: u294 :: u295 :: u296 :: u297 :: u298 :: u299 :: u300 :: u301 :: u302 :: u303 :: u304 :: u305 :: u306 :: u307 :: u308 :: u309 :: u310 :: u311 :: u312 :: u313 :: u314 :: u315 :: u316 :: u317 :: u318 :: u319 :: u320 :: u321 :: u322 :: u323 :: u324 :: u325 :: u326 :: u327 :: u328 :: u329 :: u330 :: u331 :: u332 :: u333 :: u334 :: u335 :: u336 :: u337 :: []).toArray, defers := [] } w1 := by
  conv => arg 2; whnf
  have ey := (rfl : dpY33 = dpY33)
  conv at ey => rhs; whnf
  rw [ey] at hK
  clear ey
  have HEX := Aside0.mk hexit
  clear hexit
  have HX1 := Aside0.mk (blk_below HX.out HB.out)
  have hx0 : w1.cell? ⟨b0, 0, none⟩ = some (.int .i64 x.len) := (blk_cell HX1.out 0).trans rfl
  have hle : e < n + 1 := by have := HNL.out; omega
  have hi1 : (e : Int) < (n : Int) + 1 := by omega
  have hi2 : x.len < (n : Int) + 1 := by have := HNL.out; omega
  have hz0 := pw_cell_below HB.out HN0.out
  have hz1 := pw_cell_below HB.out HN1.out
  obtain ⟨ad6, rfl, hd1⟩ := Kd.at_int (Kd.C_below HCH.out HB.out) x.len hn3 (by omega)
  obtain ⟨ad6', e6, hd2⟩ := Kd.at_int (Kd.C_below HCH.out HB.out) (e : Int) (by omega) (by omega)
  cases e6
  obtain ⟨v1, hv1⟩ : ∃ v1, v1 = rdI ch x.len := ⟨_, rfl⟩
  obtain ⟨v2, hv2⟩ : ∃ v2, v2 = rdI ch (e : Nat) := ⟨_, rfl⟩
  replace hd1 : _ = some (Value.int .i64 v1) := hd1.trans (by rw [hv1]; rfl)
  replace hd2 : _ = some (Value.int .i64 v2) := hd2.trans (by rw [hv2]; rfl)
  simp only [Int.toNat_natCast] at hd2
  obtain ⟨bv, hbv⟩ : ∃ bv, bv = wrap64 (v1 - v2) := ⟨_, rfl⟩
  have hW : IntKind.i64.wrap (v1 - v2) = bv := by rw [hbv, IntKind.wrap_i64]; unfold wrap64; omega
  rw [← hv1, ← hv2, ← hbv] at HEX
  clear hv1 hv2 hbv
  obtain ⟨ca, hca⟩ : ∃ ca, ca = AL.getD e zCh := ⟨_, rfl⟩
  obtain ⟨cb, hcb⟩ : ∃ cb, cb = BL.getD e zCh := ⟨_, rfl⟩
  have HE2 := Aside0.mk (show pick2 ⟨⟨-1, -1⟩, bv⟩ ca cb 2 = bestPick (bestPick ⟨⟨-1, -1⟩, bv⟩ (AL.getD e zCh)) (BL.getD e zCh) by rw [← hca, ← hcb]; rfl)
  rw [← HE2.out] at HEX
  obtain ⟨hc0, hc1, hc2⟩ := ch_cell HC.out e (by rw [HCL.out]; exact hle)
  have hf0 := ch_frozen HC.out (e * 3)
  have hf1 := ch_frozen HC.out (e * 3 + 1)
  have hf2 := ch_frozen HC.out (e * 3 + 2)
  obtain ⟨d0, hd0⟩ : ∃ d, d = (CL.getD e zCh).piece.size := ⟨_, rfl⟩
  obtain ⟨d1, hd1'⟩ : ∃ d, d = (CL.getD e zCh).piece.pos := ⟨_, rfl⟩
  obtain ⟨d2, hd2'⟩ : ∃ d, d = (CL.getD e zCh).value := ⟨_, rfl⟩
  rw [← hd0] at hc0
  rw [← hd1'] at hc1
  rw [← hd2'] at hc2
  clear hd0 hd1' hd2'
  have HCA := Aside0.mk hca
  have HCB := Aside0.mk hcb
  clear hca hcb
  go_still_tail 16, (by kernel_rfl)
  change wpList _ _ _ _ _ w1.drew
  go_upto_region 34 with (fail)
  refine name_world (R := fun W => KeepBut w1 W gc none ∧ Below w.heap.size w W ∧ ChBlk W gc (CL.set e ⟨⟨-1, -1⟩, bv⟩)) ⟨keep_drew (((KeepBut.refl _ _ _).set_ _ _).set_ _ _ |>.set_ _ _), below_drew (below_set (below_set (below_set HB.out hgc) hgc) hgc), ch_put HC.out e (by rw [HCL.out]; exact hle) ⟨⟨-1, -1⟩, bv⟩⟩ ?_
  rintro W2 ⟨hk2, hb2, hc2'⟩
  have HK2 := Aside0.mk hk2
  have HB2 := Aside0.mk hb2
  have HC2 := Aside0.mk hc2'
  have HA2 := Aside0.mk (show ChBlk W2 ga AL from KeepBut.blk hk2 HA.out hac (by simp))
  have HBB2 := Aside0.mk (show ChBlk W2 gb BL from KeepBut.blk hk2 HBB.out hbc (by simp))
  obtain ⟨ha0, ha1, ha2⟩ := ch_cell HA2.out e (by rw [HAL.out]; exact hle)
  obtain ⟨hb0, hb1, hb2'⟩ := ch_cell HBB2.out e (by rw [HBL.out]; exact hle)
  rw [← HCA.out] at ha0 ha1 ha2
  rw [← HCB.out] at hb0 hb1 hb2'
  clear hc0 hc1 hc2 hf0 hf1 hf2 hx0 hz0 hz1 hd1 hd2 hW HX1 hk2 hb2 hc2' HE2 HC HB HA HBB
  have KP : Aside0 (∀ X, Below W2.heap.size W2 X → Below W2.heap.size W2 X ∧ X.cell? ⟨ga, e * 3, none⟩ = some (.int .i64 ca.piece.size) ∧ X.cell? ⟨ga, e * 3 + 1, none⟩ = some (.int .i64 ca.piece.pos) ∧ X.cell? ⟨ga, e * 3 + 2, none⟩ = some (.int .i64 ca.value) ∧ X.cell? ⟨gb, e * 3, none⟩ = some (.int .i64 cb.piece.size) ∧ X.cell? ⟨gb, e * 3 + 1, none⟩ = some (.int .i64 cb.piece.pos) ∧ X.cell? ⟨gb, e * 3 + 2, none⟩ = some (.int .i64 cb.value)) := ⟨fun X h => ⟨h, pw_cell_below h ha0, pw_cell_below h ha1, pw_cell_below h ha2, pw_cell_below h hb0, pw_cell_below h hb1, pw_cell_below h hb2'⟩⟩
  go_region_held3 (fun X => Below W2.heap.size W2 X ∧ X.cell? ⟨ga, e * 3, none⟩ = some (.int .i64 ca.piece.size) ∧ X.cell? ⟨ga, e * 3 + 1, none⟩ = some (.int .i64 ca.piece.pos) ∧ X.cell? ⟨ga, e * 3 + 2, none⟩ = some (.int .i64 ca.value) ∧ X.cell? ⟨gb, e * 3, none⟩ = some (.int .i64 cb.piece.size) ∧ X.cell? ⟨gb, e * 3 + 1, none⟩ = some (.int .i64 cb.piece.pos) ∧ X.cell? ⟨gb, e * 3 + 2, none⟩ = some (.int .i64 cb.value))
    ((refine KP.out _ ?_; (repeat (with_reducible first | assumption | exact Below.refl _ _ | apply below_alloc | apply below_drew))))
    (fail)
  clear ha0 ha1 ha2 hb0 hb1 hb2' KP
  obtain ⟨pb, hpb⟩ : ∃ pb : Ch, pb = ⟨⟨-1, -1⟩, bv⟩ := ⟨_, rfl⟩
  rw [← hpb] at HEX HC2
  clear hpb
  go_wp2_with fail
  refine name_world (R := fun W => KeepBut W2 W gc none ∧ Below W2.heap.size W2 W ∧ ChBlk W W2.heap.size [ca, cb]) ⟨keep_drew (keep_alloc (KeepBut.refl _ _ _) _), below_drew (below_alloc (Below.refl _ _) _), ch_lit W2 ca cb⟩ ?_
  rintro W3 ⟨hk3, hb3, hl3⟩
  have HK3 := Aside0.mk (KeepBut.trans HK2.out hk3 (.inl rfl))
  have HB3 := Aside0.mk (below_then HB2.out HB2.out.size hb3)
  have HL3 := Aside0.mk hl3
  have HC3 := Aside0.mk (ch_below HC2.out hb3)
  have hgl : gc ≠ W2.heap.size := by have := ch_lt HC2.out; omega
  clear hk3 hb3 hl3 HK2 HB2 HC2 HA2 HBB2
  generalize W2.heap.size = gl at *
  go_loopw [274] (fun i wr => ∃ k : Nat, k ≤ 2 ∧ i = .int .i64 (k : Nat) ∧ Aside0 (KeepBut w1 wr gc none) ∧ Aside0 (Below w.heap.size w wr) ∧ Aside0 (ChBlk wr gl [ca, cb]) ∧ Aside0 (ChBlk wr gc (CL.set e (pick2 pb ca cb k)))) (fun i _ => 2 - (intOf i).toNat)
  case atStart => exact ⟨0, by omega, rfl, HK3, HB3, HL3, HC3⟩
  case round =>
    clear HK3 HB3 HL3 HC3
    obtain ⟨k, hk, rfl, HK, HB, HL, HC⟩ := hrel
    by_cases hlt : k < 2
    · have hlt2 : (k : Int) < 2 := by omega
      obtain ⟨hl0, hl1, hl2⟩ := ch_cell HL.out k (by simp; omega)
      obtain ⟨cc, hcc⟩ : ∃ cc, cc = [ca, cb].getD k zCh := ⟨_, rfl⟩
      have HS := Aside0.mk (pick2_step pb ca cb k hlt)
      rw [← hcc] at hl0 hl1 hl2 HS
      obtain ⟨p, hp⟩ : ∃ p, p = pick2 pb ca cb k := ⟨_, rfl⟩
      rw [← hp] at HC HS
      clear hcc hp
      go_upto_region 37 with (fail)
      have HN := Aside0.mk (blk_new wr (.cells #[.int .i64 cc.piece.size, .int .i64 cc.piece.pos, .int .i64 cc.value] 165))
      have HB4 := Aside0.mk (below_alloc HB.out (.cells #[.int .i64 cc.piece.size, .int .i64 cc.piece.pos, .int .i64 cc.value] 165))
      have HK4 := Aside0.mk (keep_alloc HK.out (.cells #[.int .i64 cc.piece.size, .int .i64 cc.piece.pos, .int .i64 cc.value] 165))
      have HC4 := Aside0.mk (show ChBlk (wr.alloc (.cells #[.int .i64 cc.piece.size, .int .i64 cc.piece.pos, .int .i64 cc.value] 165)) gc (CL.set e p) from blk_alloc HC.out (.cells #[.int .i64 cc.piece.size, .int .i64 cc.piece.pos, .int .i64 cc.value] 165))
      have HL4 := Aside0.mk (show ChBlk (wr.alloc (.cells #[.int .i64 cc.piece.size, .int .i64 cc.piece.pos, .int .i64 cc.value] 165)) gl [ca, cb] from blk_alloc HL.out (.cells #[.int .i64 cc.piece.size, .int .i64 cc.piece.pos, .int .i64 cc.value] 165))
      clear HB HK HC HL hl0 hl1 hl2
      generalize wr.alloc (.cells #[.int .i64 cc.piece.size, .int .i64 cc.piece.pos, .int .i64 cc.value] 165) = w4 at *
      generalize wr.heap.size = gn at *
      have hn0 : w4.cell? ⟨gn, 0, none⟩ = some (.int .i64 cc.piece.size) := (blk_cell HN.out 0).trans rfl
      have hn1 : w4.cell? ⟨gn, 1, none⟩ = some (.int .i64 cc.piece.pos) := (blk_cell HN.out 1).trans rfl
      have hn2 : w4.cell? ⟨gn, 2, none⟩ = some (.int .i64 cc.value) := (blk_cell HN.out 2).trans rfl
      have hq := ch_cell HC4.out e (by rw [List.length_set, HCL.out]; exact hle)
      rw [getD_set_self (by rw [HCL.out]; exact hle)] at hq
      obtain ⟨hq0, hq1, hq2⟩ := hq
      have hf0 := ch_frozen HC4.out (e * 3)
      have hf1 := ch_frozen HC4.out (e * 3 + 1)
      have hf2 := ch_frozen HC4.out (e * 3 + 2)
      have hz0 := pw_cell_below HB4.out HN0.out
      have hz1 := pw_cell_below HB4.out HN1.out
      have hz2 := pw_cell_below HB4.out HN2.out
      have hE := chE cc
      have hG1 := fun x y a b w => guardCh .neq x y a b w
      cases qn : isN cc with
      | true =>
        have HTk := Aside0.mk (show pick2 pb ca cb (k + 1) = p from HS.out.trans (if_neg (by rw [qn]; simp)))
        rw [qn] at hE
        go_quiet (fail)
        go_wp2_with fail
        go_roundw
        case rel => exact ⟨k + 1, by omega, by go_num, ⟨keep_drewN HK4.out _⟩, ⟨pw_below_drewN HB4.out _⟩, ⟨ch_drewN HL4.out _⟩, ⟨by rw [HTk.out]; exact ch_drewN HC4.out _⟩⟩
        case measure => simp [intOf]; omega
      | false =>
        rw [qn] at hE
        by_cases qv : p.value < cc.value
        · have HTk := Aside0.mk (show pick2 pb ca cb (k + 1) = cc from HS.out.trans (if_pos ⟨qn, qv⟩))
          go_quiet (fail)
          go_wp2_with fail
          go_roundw
          case rel => exact ⟨k + 1, by omega, by go_num, ⟨((keep_drewN HK4.out _).set_ _ _).set_ _ _ |>.set_ _ _⟩, ⟨below_set (below_set (below_set (pw_below_drewN HB4.out _) hgc) hgc) hgc⟩, ⟨ch_far (ch_far (ch_far (ch_drewN HL4.out _) hgl.symm _) hgl.symm _) hgl.symm _⟩, ⟨by rw [HTk.out]; exact ch_turn2 HC4.out (by rw [HCL.out]; exact hle) _ cc⟩⟩
          case measure => simp [intOf]; omega
        · have HTk := Aside0.mk (show pick2 pb ca cb (k + 1) = p from HS.out.trans (if_neg (fun h => qv h.2)))
          have qv' : cc.value ≤ p.value := by omega
          go_quiet (fail)
          go_wp2_with fail
          go_roundw
          case rel => exact ⟨k + 1, by omega, by go_num, ⟨keep_drewN HK4.out _⟩, ⟨pw_below_drewN HB4.out _⟩, ⟨ch_drewN HL4.out _⟩, ⟨by rw [HTk.out]; exact ch_drewN HC4.out _⟩⟩
          case measure => simp [intOf]; omega
    · obtain rfl : k = 2 := by omega
      go_wp2_with fail
      exact HEX.out _ _ _ _ _ _ _ _ _ _ _ _ _ _ _ _ _ _ _ _ _ _ _ _ _ _ _ _ _ _ _ _ _ _ _ _ _ _ _ _ _ _ _ _ _ _ _ _ _ _ HK.out HB.out HC.out
end Go.Proofs.YtngpoonjonojhaaDoor
