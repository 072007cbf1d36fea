/- Walks: the loop over the positions of a line. -/
import Derived.Test.YtngpoonjonojhaaDoorE27
import Derived.Test.YtngpoonjonojhaaDoorE30
set_option linter.all false
namespace Go.Proofs.YtngpoonjonojhaaDoor
open Go.RowKit Go.Proofs.YtngpoonjonojhaaDoorW.PrintWords Go.Proofs.YtngpoonjonojhaaDoorW.PrintLast
set_option linter.unusedVariables false
theorem int_keep {w w1 W' : World} {g : Nat} {A : Option Addr} {n : Nat} {xs : List Int} (h : Kd.C (Kd.int .i64) w A n xs) (hb : Below w.heap.size w w1) (k : KeepBut w1 W' g none) (hg : w.heap.size ≤ g) : Kd.C (Kd.int .i64) W' A n xs := by
  have hb' : Below w.heap.size w { W' with os := w.os, tape := w.tape, output := w.output } := ⟨rfl, rfl, rfl, Nat.le_trans hb.size k.1, fun i hi => (k.2 i (Nat.lt_of_lt_of_le hi hb.size) (by omega) (by simp)).trans (hb.block i hi)⟩
  have h2 := Kd.C_below h hb'
  exact h2
noncomputable def dpOuter : Code := (Tryd.f53.body.bind (loopIn 9)).getD .skip
set_option maxHeartbeats 8000000 in
set_option maxRecDepth 1000000 in
theorem dp_loop (x : Ln) (A1 : Option Addr) (c1 : Nat) (A2 : Option Addr) (c2 : Nat) (A3 : Option Addr) (c3 : Nat) (A4 : Option Addr) (c4 : Nat) (A6 : Option Addr) (c6 : Nat) (A7 : Option Addr) (c7 : Nat) (ch du : List Int) (n b0 ga gb gc : Nat)
    (HNL : Aside0 (x.len = (n : Nat))) (hn3 : 0 ≤ x.len) (hn4 : x.len ≤ 2000) (hp1 : 1 ≤ x.pitch) (hp2 : x.pitch ≤ 2000) (hk1 : 0 ≤ x.kerf) (hk2 : x.kerf ≤ 20) (hsl : x.sizes.length ≤ 32) (HSZ : Aside0 (∀ i : Nat, i < x.sizes.length → 1 ≤ rdI x.sizes (i : Nat) ∧ rdI x.sizes (i : Nat) ≤ 2000)) (HGL : Aside0 (x.gain.length = x.sizes.length)) (HRL : Aside0 (∀ i : Nat, i < x.gain.length → ((rd_L2 x.gain (i : Nat)).length : Int) = mxi 0 (x.len - rdI x.sizes (i : Nat) + 1)))
    (HDU : Aside0 (du.length = n + 1)) (w w1 : World) (hga : w.heap.size ≤ ga) (hgb : w.heap.size ≤ gb) (hgc : w.heap.size ≤ gc) (hab : ga ≠ gb) (hac : ga ≠ gc) (hbc : gb ≠ gc) (hb0 : b0 < w.heap.size)
    (H1 : Aside0 (Kd.C (Kd.int .i64) w A1 x.sizes.length x.sizes)) (H2 : Aside0 (Kd.C (Kd.slice 3 (Kd.int .i64)) w A2 x.gain.length x.gain)) (HN0 : Aside0 (w.cell? ⟨0, 0, none⟩ = some (.int .i64 (-1)))) (HN1 : Aside0 (w.cell? ⟨0, 1, none⟩ = some (.int .i64 (-1)))) (HN2 : Aside0 (w.cell? ⟨0, 2, none⟩ = some (.int .i64 0)))
    (HB : Aside0 (Below w.heap.size w w1)) (HX : Aside0 (w.heap[b0]? = some (.cells #[.int .i64 x.len, .int .i64 x.kerf, .int .i64 x.pitch, .slice A1 x.sizes.length c1, .slice A2 x.gain.length c2, .slice A3 x.chip.length c3, .slice A4 x.dust.length c4] 64 (0, 0)))) (HCH : Aside0 (Kd.C (Kd.int .i64) w A6 (n + 1) ch)) (HDD : Aside0 (Kd.C (Kd.int .i64) w A7 (n + 1) du))
    (HA : Aside0 (ChBlk w1 ga (List.replicate (n + 1) zCh))) (HBB : Aside0 (ChBlk w1 gb (List.replicate (n + 1) zCh))) (HC : Aside0 (ChBlk w1 gc (List.replicate (n + 1) zCh)))
    (u0 u2 u3 u4 u5 u12 u13 u14 u15 u16 u17 u18 u19 u20 u21 u22 u23 u24 u25 u26 u27 u28 u29 u30 u31 u32 u33 u34 u35 u36 u37 u38 u39 u40 u41 u42 u43 u44 u45 u46 u47 u48 u49 u50 u51 u52 u53 u54 u55 u56 u57 u58 u59 u60 u61 u62 u63 u64 u65 u66 u67 u68 u69 u70 u71 u72 u73 u74 u75 u76 u77 u78 u79 u80 u81 u82 u83 u84 u85 u86 u87 u88 u89 u90 u91 u92 u93 u94 u95 u96 u97 u98 u99 u100 u101 u102 u103 u104 u105 u106 u107 u108 u109 u110 u111 u112 u113 u114 u115 u116 u117 u118 u119 u120 u121 u122 u123 u124 u125 u126 u127 u128 u129 u130 u131 u132 u133 u134 u135 u136 u137 u138 u139 u140 u141 u142 u143 u144 u145 u146 u147 u148 u149 u150 u151 u152 u153 u154 u155 u156 u157 u158 u159 u160 u161 u162 u163 u164 u165 u166 u167 u168 u169 u170 u171 u172 u173 u174 u175 u176 u177 u178 u179 u180 u181 u182 u183 u184 u185 u186 u187 u188 u189 u190 u191 u192 u193 u194 u195 u196 u197 u198 u199 u200 u201 u202 u203 u204 u205 u206 u207 u208 u209 u210 u211 u212 u213 u214 u215 u216 u217 u218 u219 u220 u221 u222 u223 u224 u225 u226 u227 u228 u229 u230 u231 u232 u233 u234 u235 u236 u237 u238 u239 u240 u241 u242 u243 u244 u245 u246 u247 u248 u249 u250 u251 u252 u253 u254 u255 u256 u257 u258 u259 u260 u261 u262 u263 u264 u265 u266 u267 u268 u269 u270 u271 u272 u273 u274 u275 u276 u277 u278 u279 u280 u281 u282 u283 u284 u285 u286 u287 u288 u289 u290 u291 u292 u293 u294 u295 u296 u297 u298 u299 u300 u301 u302 u303 u304 u305 u306 u307 u308 u309 u310 u311 u312 u313 u314 u315 u316 u317 u318 u319 u320 u321 u322 u323 u324 u325 u326 u327 u328 u329 u330 u331 u332 u333 u334 u335 u336 u337 : Value) (Q0 : Exit → Act → World → Prop)
    (hexit : ∀ (x11 x12 x13 x14 x15 x16 x17 x18 x19 x20 x21 x22 x52 x53 x54 x55 x56 x57 x58 x59 x60 x61 x62 x63 x64 x65 x66 x67 x68 x69 x70 x71 x72 x73 x74 x75 x76 x77 x78 x79 x80 x81 x82 x83 x84 x85 x86 x87 x88 x89 x90 x91 x92 x93 x94 x95 x96 x97 x98 x99 x100 x101 x102 x103 x104 x105 x106 x107 x108 x109 x110 x111 x112 x113 x114 x115 x116 x117 x118 x119 x120 x121 x122 x123 x124 x125 x126 x127 x128 x129 x130 x131 x132 x133 x134 x135 x136 x137 x138 x139 x140 x141 x142 x143 x144 x145 x146 x147 x148 x149 x150 x151 x152 x153 x154 x155 x156 x157 x158 x159 x160 x161 x162 x163 x164 x165 x166 x167 x168 x169 x170 x171 x172 x173 x174 x175 x176 x177 x178 x179 x180 x181 x182 x183 x184 x185 x186 x187 x188 x189 x190 x191 x192 x193 x194 x195 x196 x197 x198 x199 x200 x201 x202 x203 x204 x205 x206 x207 x208 x209 x210 x211 x212 x213 x214 x215 x216 x217 x218 x219 x220 x221 x222 x223 x224 x225 x226 x227 x228 x229 x230 x231 x232 x233 x234 x235 x236 x237 x238 x239 x240 x241 x242 x243 x244 x245 x246 x247 x248 x249 x250 x251 x252 x253 x254 x255 x256 x257 x258 x259 x260 x261 x262 x263 x264 x265 x266 x267 x268 x269 x270 x271 x272 x273 x274 x275 x276 x277 x278 x279 x280 x281 x282 x283 x284 x285 x286 x287 x288 x289 x290 x291 x292 x293 x294 x295 : Value) (w' : World), Below w.heap.size w w' → ChBlk w' gc (dpTo x ch du n (n + 1)).bs → Q0 (.exit 0) { tmps := (u0 :: .pointer (some ⟨b0, 0, none⟩) :: u2 :: u3 :: u4 :: u5 :: .slice A6 (n + 1) c6 :: .slice A7 (n + 1) c7 :: .slice (some ⟨ga, 0, none⟩) (n + 1) (n + 1) :: .slice (some ⟨gb, 0, none⟩) (n + 1) (n + 1) :: .slice (some ⟨gc, 0, none⟩) (n + 1) (n + 1) :: x11 :: x12 :: x13 :: x14 :: x15 :: x16 :: x17 :: x18 :: x19 :: x20 :: x21 :: x22 :: u23 :: u24 :: u25 :: u26 :: u27 :: u28 :: u29 :: u30 :: u31 :: u32 :: u33 :: u34 :: u35 :: u36 :: u37 :: u38 :: u39 :: u40 :: u41 :: u42 :: u43 :: u44 :: u45 :: u46 :: u47 :: u48 :: u49 :: u50 :: u51 :: x52 :: x53 :: x54 :: x55 :: x56 :: x57 :: x58 :: x59 :: x60 :: x61 :: x62 :: x63 :: x64 :: x65 :: x66 :: x67 :: x68 :: x69 :: x70 :: x71 :: x72 :: x73 :: x74 :: x75 :: x76 :: x77 :: x78 :: x79 :: x80 :: x81 :: x82 :: x83 :: x84 :: x85 :: x86 :: x87 :: x88 :: x89 :: x90 :: x91 :: x92 :: x93 :: x94 :: x95 :: x96 :: x97 :: x98 :: x99 :: x100 :: x101 :: x102 :: x103 :: x104 :: x105 :: x106 :: x107 :: x108 :: x109 :: x110 :: x111 :: x112 :: x113 :: x114 :: x115 :: x116 :: x117 :: x118 :: x119 :: x120 :: x121 :: x122 :: x123 :: x124 :: x125 :: x126 :: x127 :: x128 :: x129 :: x130 :: x131 :: x132 :: x133 :: x134 :: x135 :: x136 :: x137 :: x138 :: x139 :: x140 :: x141 :: x142 :: x143 :: x144 :: x145 :: x146 :: x147 :: x148 :: x149 :: x150 :: x151 :: x152 :: x153 :: x154 :: x155 :: x156 :: x157 :: x158 :: x159 :: x160 :: x161 :: x162 :: x163 :: x164 :: x165 :: x166 :: x167 :: x168 :: x169 :: x170 :: x171 :: x172 :: x173 :: x174 :: x175 :: x176 :: x177 :: x178 :: x179 :: x180 :: x181 :: x182 :: x183 :: x184 :: x185 :: x186 :: x187 :: x188 :: x189 :: x190 :: x191 :: x192 :: x193 :: x194 :: x195 :: x196 :: x197 :: x198 :: x199 :: x200 :: x201 :: x202 :: x203 :: x204 :: x205 :: x206 :: x207 :: x208 :: x209 :: x210 :: x211 :: x212 :: x213 :: x214 :: x215 :: x216 :: x217 :: x218 :: x219 :: x220 :: x221 :: x222 :: x223 :: x224 :: x225 :: x226 :: x227 :: x228 :: x229 :: x230 :: x231 :: x232 :: x233 :: x234 :: x235 :: x236 :: x237 :: x238 :: x239 :: x240 :: x241 :: x242 :: x243 :: x244 :: x245 :: x246 :: x247 :: x248 :: x249 :: x250 :: x251 :: x252 :: x253 :: x254 :: x255 :: x256 :: x257 :: x258 :: x259 :: x260 :: x261 :: x262 :: x263 :: x264 :: x265 :: x266 :: x267 :: x268 :: x269 :: x270 :: x271 :: x272 :: x273 :: x274 :: x275 :: x276 :: x277 :: x278 :: x279 :: x280 :: x281 :: x282 :: x283 :: x284 :: x285 :: x286 :: x287 :: x288 :: x289 :: x290 :: x291 :: x292 :: x293 :: x294 :: x295 :: u296 :: u297 :: u298 :: u299 :: u300 :: u301 :: u302 :: u303 :: u304 :: u305 :: u306 :: u307 :: u308 :: u309 :: u310 :: u311 :: u312 :: u313 :: u314 :: u315 :: u316 :: u317 :: u318 :: u319 :: u320 :: u321 :: u322 :: u323 :: u324 :: u325 :: u326 :: u327 :: u328 :: u329 :: u330 :: u331 :: u332 :: u333 :: u334 :: u335 :: u336 :: u337 :: []).toArray, defers := [] } w') :
    Code.wp Tryd.prog (Code.loop dpOuter) Q0 { tmps := (u0 :: .pointer (some ⟨b0, 0, none⟩) :: u2 :: u3 :: u4 :: u5 :: .slice A6 (n + 1) c6 :: .slice A7 (n + 1) c7 :: .slice (some ⟨ga, 0, none⟩) (n + 1) (n + 1) :: .slice (some ⟨gb, 0, none⟩) (n + 1) (n + 1) :: .slice (some ⟨gc, 0, none⟩) (n + 1) (n + 1) :: .int .i64 x.len :: u12 :: u13 :: u14 :: u15 :: u16 :: u17 :: u18 :: u19 :: u20 :: u21 :: u22 :: u23 :: u24 :: u25 :: u26 :: u27 :: u28 :: u29 :: u30 :: u31 :: u32 :: u33 :: u34 :: u35 :: u36 :: u37 :: u38 :: u39 :: u40 :: u41 :: u42 :: u43 :: u44 :: u45 :: u46 :: u47 :: u48 :: u49 :: u50 :: u51 :: u52 :: u53 :: u54 :: u55 :: u56 :: u57 :: u58 :: u59 :: u60 :: u61 :: u62 :: u63 :: u64 :: u65 :: u66 :: u67 :: u68 :: u69 :: u70 :: u71 :: u72 :: u73 :: u74 :: u75 :: u76 :: u77 :: u78 :: u79 :: u80 :: u81 :: u82 :: u83 :: u84 :: u85 :: u86 :: u87 :: u88 :: u89 :: u90 :: u91 :: u92 :: u93 :: u94 :: u95 :: u96 :: u97 :: u98 :: u99 :: u100 :: u101 :: u102 :: u103 :: u104 :: u105 :: u106 :: u107 :: u108 :: u109 :: u110 :: u111 :: u112 :: u113 :: u114 :: u115 :: u116 :: u117 :: u118 :: u119 :: u120 :: u121 :: u122 :: u123 :: u124 :: u125 :: u126 :: u127 :: u128 :: u129 :: u130 :: u131 :: u132 :: u133 :: u134 :: u135 :: u136 :: u137 :: u138 :: u139 :: u140 :: u141 :: u142 :: u143 :: u144 :: u145 :: u146 :: u147 :: u148 :: u149 :: u150 :: u151 :: u152 :: u153 :: u154 :: u155 :: u156 :: u157 :: u158 :: u159 :: u160 :: u161 :: u162 :: u163 :: u164 :: u165 :: u166 :: u167 :: u168 :: u169 :: u170 :: u171 :: u172 :: u173 :: u174 :: u175 :: u176 :: u177 :: u178 :: u179 :: u180 :: u181 :: u182 :: u183 :: u184 :: u185 :: u186 :: u187 :: u188 :: u189 :: u190 :: u191 :: u192 :: u193 :: u194 :: u195 :: u196 :: u197 :: u198 :: u199 :: u200 :: u201 :: u202 :: u203 :: u204 :: u205 :: u206 :: u207 :: u208 :: u209 :: u210 :: u211 :: u212 :: u213 :: u214 :: u215 :: u216 :: u217 :: u218 :: u219 :: u220 :: u221 :: u222 :: u223 :: u224 :: u225 :: u226 :: u227 :: u228 :: u229 :: u230 :: u231 :: u232 :: u233 :: u234 :: u235 :: u236 :: u237 :: u238 :: u239 :: u240 :: u241 :: u242 :: u243 :: u244 :: u245 :: u246 :: u247 :: u248 :: u249 :: u250 :: u251 :: u252 :: u253 :: u254 :: u255 :: u256 :: u257 :: u258 :: u259 :: u260 :: u261 :: u262 :: u263 :: u264 :: u265 :: u266 :: u267 :: u268 :: u269 :: u270 :: u271 :: u272 :: u273 :: u274 :: u275 :: u276 :: u277 :: u278 :: u279 :: u280 :: u281 :: u282 :: u283 :: u284 :: u285 :: u286 :: u287 :: u288 :: u289 :: u290 :: u291 :: u292 :: u293 :: u294 :: u295 :: u296 :: u297 :: u298 :: u299 :: u300 :: u301 :: u302 :: u303 :: u304 :: u305 :: u306 :: u307 :: u308 :: u309 :: u310 :: u311 :: u312 :: u313 :: u314 :: u315 :: u316 :: u317 :: u318 :: u319 :: u320 :: u321 :: u322 :: u323 :: u324 :: u325 :: u326 :: u327 :: u328 :: u329 :: u330 :: u331 :: u332 :: u333 :: u334 :: u335 :: u336 :: u337 :: []).toArray, defers := [] } w1 := by
  conv => arg 2; arg 1; whnf
  have HEX := Aside0.mk hexit
  clear hexit
  go_loopw [11] (fun i wr => ∃ (k : Nat) (ei : Int), i = .int .i64 ei ∧ ei + (k : Nat) = (n : Nat) ∧ k ≤ n + 1 ∧ Aside0 (Below w.heap.size w wr) ∧ Aside0 (ChBlk wr ga (dpTo x ch du n k).at_) ∧ Aside0 (ChBlk wr gb (dpTo x ch du n k).be) ∧ Aside0 (ChBlk wr gc (dpTo x ch du n k).bs)) (fun i _ => (intOf i + 1).toNat)
  case atStart => exact ⟨0, x.len, rfl, by have := HNL.out; omega, by omega, HB, HA, HBB, HC⟩
  case round =>
    clear HB HA HBB HC
    obtain ⟨k, ei, rfl, hek, hk, HB, HA, HBB, HC⟩ := hrel
    by_cases hlt : 0 ≤ ei
    · obtain ⟨e, rfl⟩ : ∃ e : Nat, ei = (e : Nat) := ⟨ei.toNat, by omega⟩
      have hkn : k ≤ n := by omega
      have hen : n - k = e := by omega
      have OK := Aside0.mk (dpTo_ok (chip := ch) (dust := du) HNL.out hp1 hk1 k hk)
      have HT := Aside0.mk (show dpTo x ch du n (k + 1) = dpStep x ch du (dpTo x ch du n k) e by rw [← hen]; rfl)
      obtain ⟨st, hst⟩ : ∃ st, st = dpTo x ch du n k := ⟨_, rfl⟩
      rw [← hst] at HA HBB HC OK HT
      have hle : e < n + 1 := by omega
      have hi1 : (e : Int) < (n : Int) + 1 := by omega
      have he2 : (e : Int) ≤ x.len := by have := HNL.out; omega
      have HAL := Aside0.mk OK.out.la
      have HBL := Aside0.mk OK.out.lb
      have HCL := Aside0.mk OK.out.lc
      have HEK := Aside0.mk hek
      clear hst hen hek hlt OK
      obtain ⟨ha0, ha1, ha2⟩ := ch_cell HA.out e (by rw [HAL.out]; exact hle)
      obtain ⟨hb0', hb1, hb2⟩ := ch_cell HBB.out e (by rw [HBL.out]; exact hle)
      have hf0 := ch_frozen HA.out (e * 3)
      have hf1 := ch_frozen HA.out (e * 3 + 1)
      have hf2 := ch_frozen HA.out (e * 3 + 2)
      have hg0 := ch_frozen HBB.out (e * 3)
      have hg1 := ch_frozen HBB.out (e * 3 + 1)
      have hg2 := ch_frozen HBB.out (e * 3 + 2)
      have hz0 := pw_cell_below HB.out HN0.out
      have hz1 := pw_cell_below HB.out HN1.out
      have hz2 := pw_cell_below HB.out HN2.out
      obtain ⟨d1, hd1⟩ : ∃ c, c = st.at_.getD e zCh := ⟨_, rfl⟩
      obtain ⟨d2, hd2⟩ : ∃ c, c = st.be.getD e zCh := ⟨_, rfl⟩
      rw [← hd1] at ha0 ha1 ha2
      rw [← hd2] at hb0' hb1 hb2
      clear hd1 hd2
      have hba : gb ≠ ga := hab.symm
      go_upto_region 12 with (fail)
      refine name_world (R := fun W => Below w.heap.size w W ∧ ChBlk W ga (st.at_.set e noneC) ∧ ChBlk W gb (st.be.set e noneC) ∧ ChBlk W gc st.bs) ⟨?w1, ?w2, ?w3, ?w4⟩ ?_
      case w1 => exact below_set (below_set (below_set (below_set (below_set (below_set HB.out hga) hga) hga) hgb) hgb) hgb
      case w2 => exact ch_far (ch_far (ch_far (ch_put HA.out e (by rw [HAL.out]; exact hle) noneC) hab _) hab _) hab _
      case w3 => exact ch_put (ch_far (ch_far (ch_far HBB.out hba _) hba _) hba _) e (by rw [HBL.out]; exact hle) noneC
      case w4 => exact ch_far (ch_far (ch_far (ch_far (ch_far (ch_far HC.out hac.symm _) hac.symm _) hac.symm _) hbc.symm _) hbc.symm _) hbc.symm _
      rintro W2 ⟨hB2, hA2, hBB2, hC2⟩
      clear ha0 ha1 ha2 hb0' hb1 hb2 hf0 hf1 hf2 hg0 hg1 hg2 hz0 hz1 hz2 HB HA HBB HC
      have HB2 := Aside0.mk hB2
      have HA2 := Aside0.mk hA2
      have HBB2 := Aside0.mk hBB2
      have HC2 := Aside0.mk hC2
      clear hB2 hA2 hBB2 hC2
      have HX2 := Aside0.mk (blk_below HX.out HB2.out)
      have hx3 : W2.cell? ⟨b0, 3, none⟩ = some (.slice A1 x.sizes.length c1) := (blk_cell HX2.out 3).trans rfl
      go_wp2_with fail
      clear hx3
      refine dp_sizes_loop x A1 c1 A2 c2 A3 c3 A4 c4 A7 c7 du e n b0 ga gc st.at_ st.bs HNL hn3 hn4 he2 hk1 hk2 hsl HSZ HGL HRL HDU HAL HCL w W2 hga hac.symm (by omega) H1 H2 HN0 HN1 HN2 HB2 HX2 ⟨fun W' hk => int_keep HDD.out HB2.out hk hga⟩ HA2 HC2 _ _ _ _ _ _ _ _ _ _ _ _ _ _ _ _ _ _ _ _ _ _ _ _ _ _ _ _ _ _ _ _ _ _ _ _ _ _ _ _ _ _ _ _ _ _ _ _ _ _ _ _ _ _ _ _ _ _ _ _ _ _ _ _ _ _ _ _ _ _ _ _ _ _ _ _ _ _ _ _ _ _ _ _ _ _ _ _ _ _ _ _ _ _ _ _ _ _ _ _ _ _ _ _ _ _ _ _ _ _ _ _ _ _ _ _ _ _ _ _ _ _ _ _ _ _ _ _ _ _ _ _ _ _ _ _ _ _ _ _ _ _ _ _ _ _ _ _ _ _ _ _ _ _ _ _ _ _ _ _ _ _ _ _ _ _ _ _ _ _ _ _ _ _ _ _ _ _ _ _ _ _ _ _ _ _ _ _ _ _ _ _ _ _ _ _ _ _ _ _ _ _ _ _ _ _ _ _ _ _ _ _ _ _ _ _ _ _ _ _ _ _ _ _ _ _ _ _ _ _ _ _ _ _ _ _ _ _ _ _ _ _ _ _ _ _ _ _ _ _ _ _ _ _ _ _ _ _ _ _ _ _ _ _ _ _ _ _ _ _ _ _ _ _ _ _ _ _ _ _ _ _ _ _ _ _ _ _ _ _ _ _ _ _ _ _ _ _ _ _ _ _ _ _ _ _ _ _ _ _ _ _ _ _ _ _ _ _ _ _ _ _ _ _ _ _ _ _ _ _ _ ?_
      intro y12 y13 y14 y15 y16 y67 y68 y69 y70 y71 y72 y73 y74 y75 y76 y77 y78 y79 y80 y81 y82 y83 y84 y85 y86 y87 y88 y89 y90 y91 y92 y93 y94 y95 y96 y97 y98 y99 y100 y101 y102 y103 y104 y105 y106 y107 y108 y109 y110 y111 y112 y113 y114 y115 y116 y117 y118 y119 y120 y121 y122 y123 y124 y125 y126 y127 y128 y129 y130 y131 y132 y133 y134 y135 y136 y137 y138 y139 y140 y141 y142 y143 y144 y145 y146 y147 y148 y149 y150 y151 w3 hk3 hb3 ha3
      have HB3 := Aside0.mk hb3
      have HA3 := Aside0.mk ha3
      have HBB3 := Aside0.mk (show ChBlk w3 gb _ from KeepBut.blk hk3 HBB2.out hba (by simp))
      have HC3 := Aside0.mk (show ChBlk w3 gc _ from KeepBut.blk hk3 HC2.out hac.symm (by simp))
      clear hk3 hb3 ha3 HB2 HA2 HBB2 HC2 HX2
      go_upto_region 24 with (fail)
      refine dp_behind x A1 c1 A2 c2 A3 c3 A4 c4 A6 c6 A7 c7 ch du e n b0 ga gb (st.at_.set e (atTo x du st.bs e x.sizes.length)) st.be HNL hn3 hn4 hp1 hp2 hk1 hk2 he2 ⟨by rw [List.length_set]; exact HAL.out⟩ HBL w w3 hgb hab HCH HDD HN0 HN1 HN2 HB3 HX HA3 HBB3 _ _ _ _ _ _ _ _ _ _ _ _ _ _ _ _ _ _ _ _ _ _ _ _ _ _ _ _ _ _ _ _ _ _ _ _ _ _ _ _ _ _ _ _ _ _ _ _ _ _ _ _ _ _ _ _ _ _ _ _ _ _ _ _ _ _ _ _ _ _ _ _ _ _ _ _ _ _ _ _ _ _ _ _ _ _ _ _ _ _ _ _ _ _ _ _ _ _ _ _ _ _ _ _ _ _ _ _ _ _ _ _ _ _ _ _ _ _ _ _ _ _ _ _ _ _ _ _ _ _ _ _ _ _ _ _ _ _ _ _ _ _ _ _ _ _ _ _ _ _ _ _ _ _ _ _ _ _ _ _ _ _ _ _ _ _ _ _ _ _ _ _ _ _ _ _ _ _ _ _ _ _ _ _ _ _ _ _ _ _ _ _ _ _ _ _ _ _ _ _ _ _ _ _ _ _ _ _ _ _ _ _ _ _ _ _ _ _ _ _ _ _ _ _ _ _ _ _ _ _ _ _ _ _ _ _ _ _ _ _ _ _ _ _ _ _ _ _ _ _ _ _ _ _ _ _ _ _ _ _ _ _ _ _ _ _ _ _ _ _ _ _ _ _ _ _ _ _ _ _ _ _ _ _ _ _ _ _ _ _ _ _ _ _ _ _ _ _ _ _ _ _ _ _ _ _ _ _ _ _ _ _ _ _ _ _ _ _ _ _ _ _ _ _ _ _ _ _ _ _ _ _ _ _ (by assumption) ?_
      intro z17 z18 z19 z20 z152 z153 z154 z155 z156 z157 z158 z159 z160 z161 z162 z163 z164 z165 z166 z167 z168 z169 z170 z171 z172 z173 z174 z175 z176 z177 z178 z179 z180 z181 z182 z183 z184 z185 z186 z187 z188 z189 z190 z191 z192 z193 z194 z195 z196 z197 z198 z199 z200 z201 z202 z203 z204 z205 z206 z207 z208 z209 z210 z211 z212 z213 z214 z215 z216 z217 z218 z219 z220 z221 z222 z223 z224 z225 z226 z227 z228 z229 z230 z231 z232 z233 z234 z235 z236 z237 z238 z239 z240 z241 z242 z243 z244 z245 z246 z247 w4 hk4 hb4 hbb4
      have HB4 := Aside0.mk hb4
      have HBB4 := Aside0.mk hbb4
      have HA4 := Aside0.mk (show ChBlk w4 ga _ from KeepBut.blk hk4 HA3.out hab (by simp))
      have HC4 := Aside0.mk (show ChBlk w4 gc _ from KeepBut.blk hk4 HC3.out hbc.symm (by simp))
      clear hk4 hb4 hbb4 HB3 HA3 HBB3 HC3
      go_upto_region 33 with (fail)
      refine dp_best x A1 c1 A2 c2 A3 c3 A4 c4 A6 c6 ch e n b0 ga gb gc (st.at_.set e (atTo x du st.bs e x.sizes.length)) (st.be.set e (behindOf x ch du (st.at_.set e (atTo x du st.bs e x.sizes.length)) st.be e)) st.bs HNL hn3 hn4 he2 ⟨by rw [List.length_set]; exact HAL.out⟩ ⟨by rw [List.length_set]; exact HBL.out⟩ HCL w w4 hgc hac hbc HCH HN0 HN1 HN2 HB4 HX HA4 HBB4 HC4 _ _ _ _ _ _ _ _ _ _ _ _ _ _ _ _ _ _ _ _ _ _ _ _ _ _ _ _ _ _ _ _ _ _ _ _ _ _ _ _ _ _ _ _ _ _ _ _ _ _ _ _ _ _ _ _ _ _ _ _ _ _ _ _ _ _ _ _ _ _ _ _ _ _ _ _ _ _ _ _ _ _ _ _ _ _ _ _ _ _ _ _ _ _ _ _ _ _ _ _ _ _ _ _ _ _ _ _ _ _ _ _ _ _ _ _ _ _ _ _ _ _ _ _ _ _ _ _ _ _ _ _ _ _ _ _ _ _ _ _ _ _ _ _ _ _ _ _ _ _ _ _ _ _ _ _ _ _ _ _ _ _ _ _ _ _ _ _ _ _ _ _ _ _ _ _ _ _ _ _ _ _ _ _ _ _ _ _ _ _ _ _ _ _ _ _ _ _ _ _ _ _ _ _ _ _ _ _ _ _ _ _ _ _ _ _ _ _ _ _ _ _ _ _ _ _ _ _ _ _ _ _ _ _ _ _ _ _ _ _ _ _ _ _ _ _ _ _ _ _ _ _ _ _ _ _ _ _ _ _ _ _ _ _ _ _ _ _ _ _ _ _ _ _ _ _ _ _ _ _ _ _ _ _ _ _ _ _ _ _ _ _ _ _ _ _ _ _ _ _ _ _ _ _ _ _ _ _ _ _ _ _ _ _ _ _ _ _ _ _ _ _ _ _ _ _ _ _ _ _ _ _ _ _ (by assumption) ?_
      intro q22 q248 q249 q250 q251 q252 q253 q254 q255 q256 q257 q258 q259 q260 q261 q262 q263 q264 q265 q266 q267 q268 q269 q270 q271 q272 q273 q274 q275 q276 q277 q278 q279 q280 q281 q282 q283 q284 q285 q286 q287 q288 q289 q290 q291 q292 q293 q294 q295 w5 hk5 hb5 hc5
      have HB5 := Aside0.mk hb5
      have HA5 := Aside0.mk (show ChBlk w5 ga _ from KeepBut.blk hk5 HA4.out hac (by simp))
      have HBB5 := Aside0.mk (show ChBlk w5 gb _ from KeepBut.blk hk5 HBB4.out hbc (by simp))
      rw [getD_set_self (by rw [HAL.out]; exact hle), getD_set_self (by rw [HBL.out]; exact hle)] at hc5
      have HC5 := Aside0.mk hc5
      clear hk5 hb5 hc5 HB4 HA4 HBB4 HC4
      go_wp2_with fail
      go_roundw
      case rel => exact ⟨k + 1, (e : Int) - 1, by go_num, by have := HEK.out; omega, by omega, HB5, ⟨by rw [HT.out]; exact HA5.out⟩, ⟨by rw [HT.out]; exact HBB5.out⟩, ⟨by rw [HT.out]; exact HC5.out⟩⟩
      case measure => (simp [intOf]; try omega)
    · obtain rfl : k = n + 1 := by omega
      go_wp2_with fail
      exact HEX.out _ _ _ _ _ _ _ _ _ _ _ _ _ _ _ _ _ _ _ _ _ _ _ _ _ _ _ _ _ _ _ _ _ _ _ _ _ _ _ _ _ _ _ _ _ _ _ _ _ _ _ _ _ _ _ _ _ _ _ _ _ _ _ _ _ _ _ _ _ _ _ _ _ _ _ _ _ _ _ _ _ _ _ _ _ _ _ _ _ _ _ _ _ _ _ _ _ _ _ _ _ _ _ _ _ _ _ _ _ _ _ _ _ _ _ _ _ _ _ _ _ _ _ _ _ _ _ _ _ _ _ _ _ _ _ _ _ _ _ _ _ _ _ _ _ _ _ _ _ _ _ _ _ _ _ _ _ _ _ _ _ _ _ _ _ _ _ _ _ _ _ _ _ _ _ _ _ _ _ _ _ _ _ _ _ _ _ _ _ _ _ _ _ _ _ _ _ _ _ _ _ _ _ _ _ _ _ _ _ _ _ _ _ _ _ _ _ _ _ _ _ _ _ _ _ _ _ _ _ _ _ _ _ _ _ _ _ _ _ _ _ _ _ _ _ _ _ _ _ _ _ _ _ _ _ _ _ HB.out HC.out
end Go.Proofs.YtngpoonjonojhaaDoor
