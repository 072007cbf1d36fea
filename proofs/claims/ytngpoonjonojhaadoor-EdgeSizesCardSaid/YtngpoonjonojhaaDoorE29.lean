/- Walks: what lies behind a waste. -/
import Derived.Test.YtngpoonjonojhaaDoorE28
import Derived.Deep.RegionHeld3
import Derived.StillTailTactics
set_option linter.all false
namespace Go.Proofs.YtngpoonjonojhaaDoor
open Go.RowKit Go.Proofs.YtngpoonjonojhaaDoorW.PrintWords Go.Proofs.YtngpoonjonojhaaDoorW.PrintLast
set_option linter.unusedVariables false
theorem name_world {P : Program} {c : Code} {Q : Exit → Act → World → Prop} {a : Act} {w : World} {R : World → Prop} (h : R w) (k : ∀ W, R W → Code.wp P c Q a W) : Code.wp P c Q a w := k w h
theorem frozen_drew {W : World} {p : Addr} (h : W.frozen? p = false) : W.drew.frozen? p = false := h
theorem frozen_set {W : World} {p : Addr} (h : W.frozen? p = false) (q : Addr) (v : Value) : (W.setCell q v).frozen? p = false := (World.frozen?_setCell _ _ _ _).trans h
theorem ch_turn3 {w : World} {g : Nat} {l : List Ch} {i : Nat} {c0 : Ch} (h : ChBlk w g (l.set i c0)) (hi : i < l.length) (c : Ch) : ChBlk (((w.drew.setCell ⟨g, i * 3, none⟩ (.int .i64 c.piece.size)).setCell ⟨g, i * 3 + 1, none⟩ (.int .i64 c.piece.pos)).setCell ⟨g, i * 3 + 2, none⟩ (.int .i64 c.value)) g (l.set i c) := by
  have hd : ChBlk w.drew g (l.set i c0) := h
  have hp := ch_put hd i (by rw [List.length_set]; exact hi) c
  rw [List.set_set] at hp
  exact hp
theorem keep_drew {w W : World} {g : Nat} {row : Option Nat} (h : KeepBut w W g row) : KeepBut w W.drew g row := h
noncomputable def dpX24 : Code := ((Tryd.f53.body.bind (cutIn 24)).map (·.1)).getD .skip
noncomputable def dpY24 : Code := ((Tryd.f53.body.bind (cutIn 24)).map (·.2)).getD .skip
set_option maxHeartbeats 8000000 in
set_option maxRecDepth 1000000 in
theorem dp_behind (x : Ln) (A1 : Option Addr) (c1 : Nat) (A2 : Option Addr) (c2 : Nat) (A3 : Option Addr) (c3 : Nat) (A4 : Option Addr) (c4 : Nat) (A6 : Option Addr) (c6 : Nat) (A7 : Option Addr) (c7 : Nat) (ch du : List Int) (e n b0 ga gb : Nat) (AL BL : List Ch)
    (HNL : Aside0 (x.len = (n : Nat))) (hn3 : 0 ≤ x.len) (hn4 : x.len ≤ 2000) (hp1 : 1 ≤ x.pitch) (hp2 : x.pitch ≤ 2000) (hk1 : 0 ≤ x.kerf) (hk2 : x.kerf ≤ 20) (he : (e : Int) ≤ x.len) (HAL : Aside0 (AL.length = n + 1)) (HBL : Aside0 (BL.length = n + 1)) (w w1 : World) (hgb : w.heap.size ≤ gb) (hab : ga ≠ gb)
    (HCH : Aside0 (Kd.C (Kd.int .i64) w A6 (n + 1) ch)) (HDU : Aside0 (Kd.C (Kd.int .i64) w A7 (n + 1) du))
    (HN0 : Aside0 (w.cell? ⟨0, 0, none⟩ = some (.int .i64 (-1)))) (HN1 : Aside0 (w.cell? ⟨0, 1, none⟩ = some (.int .i64 (-1)))) (HN2 : Aside0 (w.cell? ⟨0, 2, none⟩ = some (.int .i64 0)))
    (HB : Aside0 (Below w.heap.size w w1)) (HX : Aside0 (w.heap[b0]? = some (.cells #[.int .i64 x.len, .int .i64 x.kerf, .int .i64 x.pitch, .slice A1 x.sizes.length c1, .slice A2 x.gain.length c2, .slice A3 x.chip.length c3, .slice A4 x.dust.length c4] 64 (0, 0)))) (HA : Aside0 (ChBlk w1 ga AL)) (HBB : Aside0 (ChBlk w1 gb (BL.set e noneC)))
    (u0 u2 u3 u4 u5 u10 u12 u13 u14 u15 u16 u17 u18 u19 u20 u21 u22 u23 u24 u25 u26 u27 u28 u29 u30 u31 u32 u33 u34 u35 u36 u37 u38 u39 u40 u41 u42 u43 u44 u45 u46 u47 u48 u49 u50 u51 u52 u53 u54 u55 u56 u57 u58 u59 u60 u61 u62 u63 u64 u65 u66 u67 u68 u69 u70 u71 u72 u73 u74 u75 u76 u77 u78 u79 u80 u81 u82 u83 u84 u85 u86 u87 u88 u89 u90 u91 u92 u93 u94 u95 u96 u97 u98 u99 u100 u101 u102 u103 u104 u105 u106 u107 u108 u109 u110 u111 u112 u113 u114 u115 u116 u117 u118 u119 u120 u121 u122 u123 u124 u125 u126 u127 u128 u129 u130 u131 u132 u133 u134 u135 u136 u137 u138 u139 u140 u141 u142 u143 u144 u145 u146 u147 u148 u149 u150 u151 u152 u153 u154 u155 u156 u157 u158 u159 u160 u161 u162 u163 u164 u165 u166 u167 u168 u169 u170 u171 u172 u173 u174 u175 u176 u177 u178 u179 u180 u181 u182 u183 u184 u185 u186 u187 u188 u189 u190 u191 u192 u193 u194 u195 u196 u197 u198 u199 u200 u201 u202 u203 u204 u205 u206 u207 u208 u209 u210 u211 u212 u213 u214 u215 u216 u217 u218 u219 u220 u221 u222 u223 u224 u225 u226 u227 u228 u229 u230 u231 u232 u233 u234 u235 u236 u237 u238 u239 u240 u241 u242 u243 u244 u245 u246 u247 u248 u249 u250 u251 u252 u253 u254 u255 u256 u257 u258 u259 u260 u261 u262 u263 u264 u265 u266 u267 u268 u269 u270 u271 u272 u273 u274 u275 u276 u277 u278 u279 u280 u281 u282 u283 u284 u285 u286 u287 u288 u289 u290 u291 u292 u293 u294 u295 u296 u297 u298 u299 u300 u301 u302 u303 u304 u305 u306 u307 u308 u309 u310 u311 u312 u313 u314 u315 u316 u317 u318 u319 u320 u321 u322 u323 u324 u325 u326 u327 u328 u329 u330 u331 u332 u333 u334 u335 u336 u337 : Value) (Q0 : Exit → Act → World → Prop) (K : Act → World → Prop) (hK : ∀ a w', Code.wp Tryd.prog dpY24 Q0 a w' → K a w')
    (hexit : ∀ (x17 x18 x19 x20 x152 x153 x154 x155 x156 x157 x158 x159 x160 x161 x162 x163 x164 x165 x166 x167 x168 x169 x170 x171 x172 x173 x174 x175 x176 x177 x178 x179 x180 x181 x182 x183 x184 x185 x186 x187 x188 x189 x190 x191 x192 x193 x194 x195 x196 x197 x198 x199 x200 x201 x202 x203 x204 x205 x206 x207 x208 x209 x210 x211 x212 x213 x214 x215 x216 x217 x218 x219 x220 x221 x222 x223 x224 x225 x226 x227 x228 x229 x230 x231 x232 x233 x234 x235 x236 x237 x238 x239 x240 x241 x242 x243 x244 x245 x246 x247 : Value) (w' : World), KeepBut w1 w' gb none → Below w.heap.size w w' → ChBlk w' gb (BL.set e (behindOf x ch du AL BL e)) → Q0 .normal { tmps := (u0 :: .pointer (some ⟨b0, 0, none⟩) :: u2 :: u3 :: u4 :: u5 :: .slice A6 (n + 1) c6 :: .slice A7 (n + 1) c7 :: .slice (some ⟨ga, 0, none⟩) (n + 1) (n + 1) :: .slice (some ⟨gb, 0, none⟩) (n + 1) (n + 1) :: u10 :: .int .i64 (e : Nat) :: u12 :: u13 :: u14 :: u15 :: u16 :: x17 :: x18 :: x19 :: x20 :: u21 :: u22 :: u23 :: u24 :: u25 :: u26 :: u27 :: u28 :: u29 :: u30 :: u31 :: u32 :: u33 :: u34 :: u35 :: u36 :: u37 :: u38 :: u39 :: u40 :: u41 :: u42 :: u43 :: u44 :: u45 :: u46 :: u47 :: u48 :: u49 :: u50 :: u51 :: u52 :: u53 :: u54 :: u55 :: u56 :: u57 :: u58 :: u59 :: u60 :: u61 :: u62 :: u63 :: u64 :: u65 :: u66 :: u67 :: u68 :: u69 :: u70 :: u71 :: u72 :: u73 :: u74 :: u75 :: u76 :: u77 :: u78 :: u79 :: u80 :: u81 :: u82 :: u83 :: u84 :: u85 :: u86 :: u87 :: u88 :: u89 :: u90 :: u91 :: u92 :: u93 :: u94 :: u95 :: u96 :: u97 :: u98 :: u99 :: u100 :: u101 :: u102 :: u103 :: u104 :: u105 :: u106 :: u107 :: u108 :: u109 :: u110 :: u111 :: u112 :: u113 :: u114 :: u115 :: u116 :: u117 :: u118 :: u119 :: u120 :: u121 :: u122 :: u123 :: u124 :: u125 :: u126 :: u127 :: u128 :: u129 :: u130 :: u131 :: u132 :: u133 :: u134 :: u135 :: u136 :: u137 :: u138 :: u139 :: u140 :: u141 :: u142 :: u143 :: u144 :: u145 :: u146 :: u147 :: u148 :: u149 :: u150 :: u151 :: x152 :: x153 :: x154 :: x155 :: x156 :: x157 :: x158 :: x159 :: x160 :: x161 :: x162 :: x163 :: x164 :: x165 :: x166 :: x167 :: x168 :: x169 :: x170 :: x171 :: x172 :: x173 :: x174 :: x175 :: x176 :: x177 :: x178 :: x179 :: x180 :: x181 :: x182 :: x183 :: x184 :: x185 :: x186 :: x187 :: x188 :: x189 :: x190 :: x191 :: x192 :: x193 :: x194 :: x195 :: x196 :: x197 :: x198 :: x199 :: x200 :: x201 :: x202 :: x203 :: x204 :: x205 :: x206 :: x207 :: x208 :: x209 :: x210 :: x211 :: x212 :: x213 :: x214 :: x215 :: x216 :: x217 :: x218 :: x219 :: x220 :: x221 :: x222 :: x223 :: x224 :: x225 :: x226 :: x227 :: x228 :: x229 :: x230 :: x231 :: x232 :: x233 :: x234 :: x235 :: x236 :: x237 :: x238 :: x239 :: x240 :: x241 :: x242 :: x243 :: x244 :: x245 :: x246 :: x247 :: u248 :: u249 :: u250 :: u251 :: u252 :: u253 :: u254 :: u255 :: u256 :: u257 :: u258 :: u259 :: u260 :: u261 :: u262 :: u263 :: u264 :: u265 :: u266 :: u267 :: u268 :: u269 :: u270 :: u271 :: u272 :: u273 :: u274 :: u275 :: u276 :: u277 :: u278 :: u279 :: u280 :: u281 :: u282 :: u283 :: u284 :: u285 :: u286 :: u287 :: u288 :: u289 :: u290 :: u291 :: u292 :: u293 :: u294 :: u295 :: u296 :: u297 :: u298 :: u299 :: u300 :: u301 :: u302 :: u303 :: u304 :: u305 :: u306 :: u307 :: u308 :: u309 :: u310 :: u311 :: u312 :: u313 :: u314 :: u315 :: u316 :: u317 :: u318 :: u319 :: u320 :: u321 :: u322 :: u323 :: u324 :: u325 :: u326 :: u327 :: u328 :: u329 :: u330 :: u331 :: u332 :: u333 :: u334 :: u335 :: u336 :: u337 :: []).toArray, defers := [] } w') :
    Code.wp Tryd.prog dpX24 (Exit.then K Q0) { tmps := (u0 :: .pointer (some ⟨b0, 0, none⟩) :: u2 :: u3 :: u4 :: u5 :: .slice A6 (n + 1) c6 :: .slice A7 (n + 1) c7 :: .slice (some ⟨ga, 0, none⟩) (n + 1) (n + 1) :: .slice (some ⟨gb, 0, none⟩) (n + 1) (n + 1) :: u10 :: .int .i64 (e : Nat) :: u12 :: u13 :: u14 :: u15 :: u16 :: u17 :: u18 :: u19 :: u20 :: u21 :: u22 :: u23 :: u24 :: u25 :: u26 :: u27 :: u28 :: u29 :: u30 :: u31 :: u32 :: u33 :: u34 :: u35 :: u36 :: u37 :: u38 :: u39 :: u40 :: u41 :: u42 :: u43 :: u44 :: u45 :: u46 :: u47 :: u48 :: u49 :: u50 :: u51 :: u52 :: u53 :: u54 :: u55 :: u56 :: u57 :: u58 :: u59 :: u60 :: u61 :: u62 :: u63 :: u64 :: u65 :: u66 :: u67 :: u68 :: u69 :: u70 :: u71 :: u72 :: u73 :: u74 :: u75 :: u76 :: u77 :: u78 :: u79 :: u80 :: u81 :: u82 :: u83 :: u84 :: u85 :: u86 :: u87 :: u88 :: u89 :: u90 :: u91 :: u92 :: u93 :: u94 :: u95 :: u96 :: u97 :: u98 :: u99 :: u100 :: u101 :: u102 :: u103 :: u104 :: u105 :: u106 :: u107 :: u108 :: u109 :: u110 :: u111 :: u112 :: u113 :: u114 :: u115 :: u116 :: u117 :: u118 :: u119 :: u120 :: u121 :: u122 :: u123 :: u124 :: u125 :: u126 :: u127 :: u128 :: u129 :: u130 :: u131 :: u132 :: u133 :: u134 :: u135 :: u136 :: u137 :: u138 :: u139 :: u140 :: u141 :: u142 :: u143 :: u144 :: u145 :: u146 :: u147 :: u148 :: u149 :: u150 :: u151 :: u152 :: u153 :: u154 :: u155 :: u156 :: u157 :: u158 :: u159 :: u160 :: u161 :: u162 :: u163 :: u164 :: u165 :: u166 :: u167 :: u168 :: u169 :: u170 :: u171 :: u172 :: u173 :: u174 :: u175 :: u176 :: u177 :: u178 :: u179 :: u180 :: u181 :: u182 :: u183 :: u184 :: u185 :: u186 :: u187 :: u188 :: u189 :: u190 :: u191 :: u192 :: u193 :: u194 :: u195 :: u196 :: u197 :: u198 :: u199 :: u200 :: u201 :: u202 :: u203 :: u204 :: u205 :: u206 :: u207 :: u208 :: u209 :: u210 :: u211 :: u212 :: u213 :: u214 :: u215 :: u216 :: u217 :: u218 :: u219 :: u220 :: u221 :: u222 :: u223 :: u224 :: u225 :: u226 :: u227 :: u228 :: u229 :: u230 :: u231 :: u232 :: u233 :: u234 :: u235 :: u236 :: u237 :: u238 :: u239 :: u240 :: u241 :: u242 :: u243 :: u244 :: u245 :: u246 :: u247 :: u248 :: u249 :: u250 :: u251 :: u252 :: u253 :: u254 :: u255 :: u256 :: u257 :: u258 :: u259 :: u260 :: u261 :: u262 :: u263 :: u264 :: u265 :: u266 :: u267 :: u268 :: u269 :: u270 :: u271 :: u272 :: u273 :: u274 :: u275 :: u276 :: u277 :: u278 :: u279 :: u280 :: u281 :: u282 :: u283 :: u284 :: u285 :: u286 :: u287 :: u288 :: u289 :: u290 :: u291 :: u292 :: u293 :: u294 :: u295 :: u296 :: u297 :: u298 :: u299 :: u300 :: u301 :: u302 :: u303 :: u304 :: u305 :: u306 :: u307 :: u308 :: u309 :: u310 :: u311 :: u312 :: u313 :: u314 :: u315 :: u316 :: u317 :: u318 :: u319 :: u320 :: u321 :: u322 :: u323 :: u324 :: u325 :: u326 :: u327 :: u328 :: u329 :: u330 :: u331 :: u332 :: u333 :: u334 :: u335 :: u336 :: u337 :: []).toArray, defers := [] } w1 := by
  conv => arg 2; whnf
  have ey := (rfl : dpY24 = dpY24)
  conv at ey => rhs; whnf
  rw [ey] at hK
  clear ey
  have HEX := Aside0.mk hexit
  clear hexit
  have HX1 := Aside0.mk (blk_below HX.out HB.out)
  have hx0 : w1.cell? ⟨b0, 0, none⟩ = some (.int .i64 x.len) := (blk_cell HX1.out 0).trans rfl
  have hx1 : w1.cell? ⟨b0, 1, none⟩ = some (.int .i64 x.kerf) := (blk_cell HX1.out 1).trans rfl
  have hx2 : w1.cell? ⟨b0, 2, none⟩ = some (.int .i64 x.pitch) := (blk_cell HX1.out 2).trans rfl
  by_cases q1 : x.len < (e : Int) + x.pitch
  · have HTk := Aside0.mk (show behindOf x ch du AL BL e = noneC from if_neg (by omega))
    go_wp2_with fail
    exact HEX.out _ _ _ _ _ _ _ _ _ _ _ _ _ _ _ _ _ _ _ _ _ _ _ _ _ _ _ _ _ _ _ _ _ _ _ _ _ _ _ _ _ _ _ _ _ _ _ _ _ _ _ _ _ _ _ _ _ _ _ _ _ _ _ _ _ _ _ _ _ _ _ _ _ _ _ _ _ _ _ _ _ _ _ _ _ _ _ _ _ _ _ _ _ _ _ _ _ _ _ _ _ (KeepBut.refl _ _ _) HB.out (by rw [HTk.out]; exact HBB.out)
  have q1' : (e : Int) + x.pitch ≤ x.len := by omega
  have HT := Aside0.mk (show behindOf x ch du AL BL e = behind2 x ch BL e (behind1 x ch du AL e) from if_pos q1')
  clear q1
  have hi1 : (e : Int) < (n : Int) + 1 := by have := HNL.out; omega
  have hi2 : (e : Int) + x.pitch < (n : Int) + 1 := by have := HNL.out; omega
  have hi3 : 0 ≤ (e : Int) + x.pitch := by omega
  obtain ⟨ad6, rfl, hd1⟩ := Kd.at_int (Kd.C_below HCH.out HB.out) ((e : Int) + x.pitch) hi3 (by omega)
  obtain ⟨ad6', e6, hd2⟩ := Kd.at_int (Kd.C_below HCH.out HB.out) (e : Int) (by omega) (by omega)
  cases e6
  obtain ⟨v1, hv1⟩ : ∃ v1, v1 = rdI ch ((e : Int) + x.pitch) := ⟨_, rfl⟩
  obtain ⟨v2, hv2⟩ : ∃ v2, v2 = rdI ch (e : Nat) := ⟨_, rfl⟩
  replace hd1 : _ = some (Value.int .i64 v1) := hd1.trans (by rw [hv1]; rfl)
  replace hd2 : _ = some (Value.int .i64 v2) := hd2.trans (by rw [hv2]; rfl)
  simp only [Int.toNat_natCast] at hd2
  obtain ⟨wv, hwv⟩ : ∃ wv, wv = wrap64 (v1 - v2) := ⟨_, rfl⟩
  have HWV := Aside0.mk (show wv = wasteOf x ch e by rw [hwv, hv1, hv2]; rfl)
  have hW : IntKind.i64.wrap (v1 - v2) = wv := by rw [hwv, IntKind.wrap_i64]; unfold wrap64; omega
  clear hv1 hv2 hwv
  go_upto_region 26 with (fail)
  go_quiet (fail)
  clear hW hd1 hd2
  by_cases q2 : x.len < (e : Int) + x.pitch + x.kerf
  · have HTk := Aside0.mk (show behind1 x ch du AL e = noneC from if_neg (by omega))
    have hbq : decide ((e : Int) + x.pitch + x.kerf ≤ x.len) = false := decide_eq_false (by omega)
    go_upto_region 28 with (fail)
    go_quiet (fail)
    go_upto_region 30 with (fail)
    refine dp_behind2 x A1 c1 A2 c2 A3 c3 A4 c4 ch e n b0 gb wv noneC BL HNL hn3 hn4 hp1 q1' HWV HBL w _ hgb HN0 HN1 HN2 ⟨pw_below_drewN (pw_below_drewN HB.out _) _⟩ HX ⟨ch_drewN (ch_drewN HBB.out _) _⟩ _ _ _ _ _ _ _ _ _ _ _ _ _ _ _ _ _ _ _ _ _ _ _ _ _ _ _ _ _ _ _ _ _ _ _ _ _ _ _ _ _ _ _ _ _ _ _ _ _ _ _ _ _ _ _ _ _ _ _ _ _ _ _ _ _ _ _ _ _ _ _ _ _ _ _ _ _ _ _ _ _ _ _ _ _ _ _ _ _ _ _ _ _ _ _ _ _ _ _ _ _ _ _ _ _ _ _ _ _ _ _ _ _ _ _ _ _ _ _ _ _ _ _ _ _ _ _ _ _ _ _ _ _ _ _ _ _ _ _ _ _ _ _ _ _ _ _ _ _ _ _ _ _ _ _ _ _ _ _ _ _ _ _ _ _ _ _ _ _ _ _ _ _ _ _ _ _ _ _ _ _ _ _ _ _ _ _ _ _ _ _ _ _ _ _ _ _ _ _ _ _ _ _ _ _ _ _ _ _ _ _ _ _ _ _ _ _ _ _ _ _ _ _ _ _ _ _ _ _ _ _ _ _ _ _ _ _ _ _ _ _ _ _ _ _ _ _ _ _ _ _ _ _ _ _ _ _ _ _ _ _ _ _ _ _ _ _ _ _ _ _ _ _ _ _ _ _ _ _ _ _ _ _ _ _ _ _ _ _ _ _ _ _ _ _ _ _ _ _ _ _ _ _ _ _ _ _ _ _ _ _ _ _ _ _ _ _ _ _ _ _ _ _ _ _ _ _ _ _ _ _ _ _ _ _ (by assumption) ?_
    intro y20 y211 y212 y213 y214 y215 y216 y217 y218 y219 y220 y221 y222 y223 y224 y225 y226 y227 y228 y229 y230 y231 y232 y233 y234 y235 y236 y237 y238 y239 y240 y241 y242 y243 y244 y245 y246 y247 w' hk' hb' hc'
    exact HEX.out _ _ _ _ _ _ _ _ _ _ _ _ _ _ _ _ _ _ _ _ _ _ _ _ _ _ _ _ _ _ _ _ _ _ _ _ _ _ _ _ _ _ _ _ _ _ _ _ _ _ _ _ _ _ _ _ _ _ _ _ _ _ _ _ _ _ _ _ _ _ _ _ _ _ _ _ _ _ _ _ _ _ _ _ _ _ _ _ _ _ _ _ _ _ _ _ _ _ _ _ _ (KeepBut.trans (keep_drewN (keep_drewN (KeepBut.refl w1 gb none) _) _) hk' (.inl rfl)) hb' (by rw [HT.out, HTk.out]; exact hc')
  have q2' : (e : Int) + x.pitch + x.kerf ≤ x.len := by omega
  have hi4 : (e : Int) + x.pitch + x.kerf < (n : Int) + 1 := by have := HNL.out; omega
  have hi5 : 0 ≤ (e : Int) + x.pitch + x.kerf := by omega
  clear q2
  obtain ⟨cc, hcc⟩ : ∃ cc, cc = rd_Ch AL (e + x.pitch + x.kerf) := ⟨_, rfl⟩
  have hAe := ch_cell HA.out ((e : Int) + x.pitch + x.kerf).toNat (by rw [HAL.out]; omega)
  rw [show AL.getD ((e : Int) + x.pitch + x.kerf).toNat zCh = cc from hcc.symm] at hAe
  obtain ⟨ha0, ha1, ha2⟩ := hAe
  have HCC := Aside0.mk hcc.symm
  clear hcc
  have hz0 := pw_cell_below HB.out HN0.out
  have hz1 := pw_cell_below HB.out HN1.out
  have hz2 := pw_cell_below HB.out HN2.out
  have hE := chE cc
  have hG1 := fun x y a b w => guardCh .neq x y a b w
  cases qn : isN cc with
  | true =>
    have HTk := Aside0.mk (show behind1 x ch du AL e = noneC from if_neg (by rw [HCC.out, qn]; simp))
    rw [qn] at hE
    go_upto_region 28 with (fail)
    go_quiet (fail)
    go_upto_region 30 with (fail)
    refine dp_behind2 x A1 c1 A2 c2 A3 c3 A4 c4 ch e n b0 gb wv noneC BL HNL hn3 hn4 hp1 q1' HWV HBL w _ hgb HN0 HN1 HN2 ⟨pw_below_drewN (pw_below_drewN HB.out _) _⟩ HX ⟨ch_drewN (ch_drewN HBB.out _) _⟩ _ _ _ _ _ _ _ _ _ _ _ _ _ _ _ _ _ _ _ _ _ _ _ _ _ _ _ _ _ _ _ _ _ _ _ _ _ _ _ _ _ _ _ _ _ _ _ _ _ _ _ _ _ _ _ _ _ _ _ _ _ _ _ _ _ _ _ _ _ _ _ _ _ _ _ _ _ _ _ _ _ _ _ _ _ _ _ _ _ _ _ _ _ _ _ _ _ _ _ _ _ _ _ _ _ _ _ _ _ _ _ _ _ _ _ _ _ _ _ _ _ _ _ _ _ _ _ _ _ _ _ _ _ _ _ _ _ _ _ _ _ _ _ _ _ _ _ _ _ _ _ _ _ _ _ _ _ _ _ _ _ _ _ _ _ _ _ _ _ _ _ _ _ _ _ _ _ _ _ _ _ _ _ _ _ _ _ _ _ _ _ _ _ _ _ _ _ _ _ _ _ _ _ _ _ _ _ _ _ _ _ _ _ _ _ _ _ _ _ _ _ _ _ _ _ _ _ _ _ _ _ _ _ _ _ _ _ _ _ _ _ _ _ _ _ _ _ _ _ _ _ _ _ _ _ _ _ _ _ _ _ _ _ _ _ _ _ _ _ _ _ _ _ _ _ _ _ _ _ _ _ _ _ _ _ _ _ _ _ _ _ _ _ _ _ _ _ _ _ _ _ _ _ _ _ _ _ _ _ _ _ _ _ _ _ _ _ _ _ _ _ _ _ _ _ _ _ _ _ _ _ _ _ _ _ (by assumption) ?_
    intro y20 y211 y212 y213 y214 y215 y216 y217 y218 y219 y220 y221 y222 y223 y224 y225 y226 y227 y228 y229 y230 y231 y232 y233 y234 y235 y236 y237 y238 y239 y240 y241 y242 y243 y244 y245 y246 y247 w' hk' hb' hc'
    exact HEX.out _ _ _ _ _ _ _ _ _ _ _ _ _ _ _ _ _ _ _ _ _ _ _ _ _ _ _ _ _ _ _ _ _ _ _ _ _ _ _ _ _ _ _ _ _ _ _ _ _ _ _ _ _ _ _ _ _ _ _ _ _ _ _ _ _ _ _ _ _ _ _ _ _ _ _ _ _ _ _ _ _ _ _ _ _ _ _ _ _ _ _ _ _ _ _ _ _ _ _ _ _ (KeepBut.trans (keep_drewN (keep_drewN (KeepBut.refl w1 gb none) _) _) hk' (.inl rfl)) hb' (by rw [HT.out, HTk.out]; exact hc')
  | false =>
    obtain ⟨ad7, rfl, hdw1⟩ := Kd.at_int HDU.out ((e : Int) + x.pitch + x.kerf) hi5 (by omega)
    obtain ⟨ad7', e7, hdw2⟩ := Kd.at_int HDU.out ((e : Int) + x.pitch) hi3 (by omega)
    cases e7
    have hnb1 : (ad7.add ((e : Int) + x.pitch + x.kerf).toNat).block ≠ gb := by have := World.block_lt_of_cell? w _ hdw1; omega
    have hnb2 : (ad7.add ((e : Int) + x.pitch).toNat).block ≠ gb := by have := World.block_lt_of_cell? w _ hdw2; omega
    obtain ⟨v1, hv1⟩ : ∃ v1, v1 = rdI du ((e : Int) + x.pitch + x.kerf) := ⟨_, rfl⟩
    obtain ⟨v2, hv2⟩ : ∃ v2, v2 = rdI du ((e : Int) + x.pitch) := ⟨_, rfl⟩
    replace hdw1 : _ = some (Value.int .i64 v1) := hdw1.trans (by rw [hv1]; rfl)
    replace hdw2 : _ = some (Value.int .i64 v2) := hdw2.trans (by rw [hv2]; rfl)
    obtain ⟨a1, h1⟩ : ∃ a1, a1 = wrap64 (wv + v1) := ⟨_, rfl⟩
    obtain ⟨a2, h2⟩ : ∃ a2, a2 = wrap64 (a1 - v2) := ⟨_, rfl⟩
    obtain ⟨a3, h3⟩ : ∃ a3, a3 = wrap64 (a2 + cc.value) := ⟨_, rfl⟩
    have HTk := Aside0.mk (show behind1 x ch du AL e = ⟨cc.piece, a3⟩ by
      unfold behind1
      rw [if_pos ⟨q2', by rw [HCC.out]; exact qn⟩, HCC.out, h3, h2, h1, hv1, hv2, HWV.out])
    have hW1 : IntKind.i64.wrap (wv + v1) = a1 := by rw [h1, IntKind.wrap_i64]; unfold wrap64; omega
    have hW2 : IntKind.i64.wrap (a1 - v2) = a2 := by rw [h2, IntKind.wrap_i64]; unfold wrap64; omega
    have hW3 : IntKind.i64.wrap (a2 + cc.value) = a3 := by rw [h3, IntKind.wrap_i64]; unfold wrap64; omega
    clear hv1 hv2 h1 h2 h3
    rw [qn] at hE
    go_upto_region 28 with (fail)
    go_quiet (fail)
    go_upto_region 29 with (fail)
    refine name_world (R := fun W => KeepBut w1 W gb none ∧ Below w.heap.size w W ∧ ChBlk W ga AL ∧ ChBlk W gb (BL.set e noneC)) ⟨keep_drewN (keep_drewN (KeepBut.refl _ _ _) _) _, pw_below_drewN (pw_below_drewN HB.out _) _, ch_drewN (ch_drewN HA.out _) _, ch_drewN (ch_drewN HBB.out _) _⟩ ?_
    rintro W3 ⟨hk3, hb3, ha3, hc3⟩
    have HK3 := Aside0.mk hk3
    have HC3 := Aside0.mk hc3
    have HB3 := Aside0.mk hb3
    obtain ⟨ha0, ha1, ha2⟩ := ch_cell ha3 ((e : Int) + x.pitch + x.kerf).toNat (by rw [HAL.out]; omega)
    rw [show AL.getD ((e : Int) + x.pitch + x.kerf).toNat zCh = cc from HCC.out] at ha0 ha1 ha2
    have hd1 : W3.cell? (ad7.add ((e : Int) + x.pitch + x.kerf).toNat) = some (.int .i64 v1) := pw_cell_below hb3 hdw1
    have hd2 : W3.cell? (ad7.add ((e : Int) + x.pitch).toNat) = some (.int .i64 v2) := pw_cell_below hb3 hdw2
    obtain ⟨hb0, hb1, hb2⟩ := ch_cell hc3 e (by rw [List.length_set, HBL.out]; omega)
    have hf0 := ch_frozen hc3 (e * 3)
    have hf1 := ch_frozen hc3 (e * 3 + 1)
    have hf2 := ch_frozen hc3 (e * 3 + 2)
    clear hk3 hb3 ha3 hc3 hx0 hx1 hx2 hz0 hz1 hz2 hE hG1 hdw1 hdw2
    go_still_tail 26, (by kernel_rfl)
    change wpList _ _ _ _ _ W3.drew
    go_upto_region 30 with (fail)
    refine dp_behind2 x A1 c1 A2 c2 A3 c3 A4 c4 ch e n b0 gb wv ⟨cc.piece, a3⟩ BL HNL hn3 hn4 hp1 q1' HWV HBL w _ hgb HN0 HN1 HN2 ⟨below_set (below_set (below_set (below_drew HB3.out) hgb) hgb) hgb⟩ HX ⟨ch_turn3 HC3.out (by rw [HBL.out]; omega) ⟨cc.piece, a3⟩⟩ _ _ _ _ _ _ _ _ _ _ _ _ _ _ _ _ _ _ _ _ _ _ _ _ _ _ _ _ _ _ _ _ _ _ _ _ _ _ _ _ _ _ _ _ _ _ _ _ _ _ _ _ _ _ _ _ _ _ _ _ _ _ _ _ _ _ _ _ _ _ _ _ _ _ _ _ _ _ _ _ _ _ _ _ _ _ _ _ _ _ _ _ _ _ _ _ _ _ _ _ _ _ _ _ _ _ _ _ _ _ _ _ _ _ _ _ _ _ _ _ _ _ _ _ _ _ _ _ _ _ _ _ _ _ _ _ _ _ _ _ _ _ _ _ _ _ _ _ _ _ _ _ _ _ _ _ _ _ _ _ _ _ _ _ _ _ _ _ _ _ _ _ _ _ _ _ _ _ _ _ _ _ _ _ _ _ _ _ _ _ _ _ _ _ _ _ _ _ _ _ _ _ _ _ _ _ _ _ _ _ _ _ _ _ _ _ _ _ _ _ _ _ _ _ _ _ _ _ _ _ _ _ _ _ _ _ _ _ _ _ _ _ _ _ _ _ _ _ _ _ _ _ _ _ _ _ _ _ _ _ _ _ _ _ _ _ _ _ _ _ _ _ _ _ _ _ _ _ _ _ _ _ _ _ _ _ _ _ _ _ _ _ _ _ _ _ _ _ _ _ _ _ _ _ _ _ _ _ _ _ _ _ _ _ _ _ _ _ _ _ _ _ _ _ _ _ _ _ _ _ _ _ _ _ _ (by assumption) ?_
    intro y20 y211 y212 y213 y214 y215 y216 y217 y218 y219 y220 y221 y222 y223 y224 y225 y226 y227 y228 y229 y230 y231 y232 y233 y234 y235 y236 y237 y238 y239 y240 y241 y242 y243 y244 y245 y246 y247 w' hk' hb' hc'
    exact HEX.out _ _ _ _ _ _ _ _ _ _ _ _ _ _ _ _ _ _ _ _ _ _ _ _ _ _ _ _ _ _ _ _ _ _ _ _ _ _ _ _ _ _ _ _ _ _ _ _ _ _ _ _ _ _ _ _ _ _ _ _ _ _ _ _ _ _ _ _ _ _ _ _ _ _ _ _ _ _ _ _ _ _ _ _ _ _ _ _ _ _ _ _ _ _ _ _ _ _ _ _ _ (KeepBut.trans (((keep_drew HK3.out).set_ _ _).set_ _ _ |>.set_ _ _) hk' (.inl rfl)) hb' (by rw [HT.out, HTk.out]; exact hc')
end Go.Proofs.YtngpoonjonojhaaDoor
