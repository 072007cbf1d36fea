/- Walks: the best piece that begins at a position. -/
import Derived.Test.YtngpoonjonojhaaDoorE25
import Derived.Test.YtngpoonjonojhaaDoorE26
set_option linter.all false
namespace Go.Proofs.YtngpoonjonojhaaDoor
open Go.RowKit Go.Proofs.YtngpoonjonojhaaDoorW.PrintWords Go.Proofs.YtngpoonjonojhaaDoorW.PrintLast
set_option linter.unusedVariables false
theorem ch_turn {w : World} {g : Nat} {l : List Ch} {i : Nat} {c0 : Ch} (h : ChBlk w g (l.set i c0)) (hi : i < l.length) (m : Nat) (c : Ch) : ChBlk ((((w.drewN m).setCell ⟨g, i * 3, none⟩ (.int .i64 c.piece.size)).setCell ⟨g, i * 3 + 1, none⟩ (.int .i64 c.piece.pos)).setCell ⟨g, i * 3 + 2, none⟩ (.int .i64 c.value)) g (l.set i c) := by
  have h1 : ChBlk (w.drewN m) g (l.set i c0) := blk_drewN h m
  have hp := ch_put h1 i (by rw [List.length_set]; exact hi) c
  rw [List.set_set] at hp
  exact hp
noncomputable def dpSizes : Code := (Tryd.f53.body.bind (loopIn 13)).getD .skip
set_option maxHeartbeats 8000000 in
set_option maxRecDepth 1000000 in
theorem dp_sizes_loop (x : Ln) (A1 : Option Addr) (c1 : Nat) (A2 : Option Addr) (c2 : Nat) (A3 : Option Addr) (c3 : Nat) (A4 : Option Addr) (c4 : Nat) (A7 : Option Addr) (c7 : Nat) (du : List Int) (e n b0 ga gc : Nat) (AL CL : List Ch)
    (HNL : Aside0 (x.len = (n : Nat))) (hn3 : 0 ≤ x.len) (hn4 : x.len ≤ 2000) (he : (e : Int) ≤ x.len) (hk1 : 0 ≤ x.kerf) (hk2 : x.kerf ≤ 20) (hsl : x.sizes.length ≤ 32) (HSZ : Aside0 (∀ i : Nat, i < x.sizes.length → 1 ≤ rdI x.sizes (i : Nat) ∧ rdI x.sizes (i : Nat) ≤ 2000)) (HGL : Aside0 (x.gain.length = x.sizes.length)) (HRL : Aside0 (∀ i : Nat, i < x.gain.length → ((rd_L2 x.gain (i : Nat)).length : Int) = mxi 0 (x.len - rdI x.sizes (i : Nat) + 1)))
    (HDU : Aside0 (du.length = n + 1)) (HAL : Aside0 (AL.length = n + 1)) (HCL : Aside0 (CL.length = n + 1)) (w w1 : World) (hga : w.heap.size ≤ ga) (hgc : gc ≠ ga) (hb0 : b0 ≠ ga)
    (H1 : Aside0 (Kd.C (Kd.int .i64) w A1 x.sizes.length x.sizes)) (H2 : Aside0 (Kd.C (Kd.slice 3 (Kd.int .i64)) w A2 x.gain.length x.gain)) (HN0 : Aside0 (w.cell? ⟨0, 0, none⟩ = some (.int .i64 (-1)))) (HN1 : Aside0 (w.cell? ⟨0, 1, none⟩ = some (.int .i64 (-1)))) (HN2 : Aside0 (w.cell? ⟨0, 2, none⟩ = some (.int .i64 0)))
    (HB : Aside0 (Below w.heap.size w w1)) (HX : Aside0 (w1.heap[b0]? = some (.cells #[.int .i64 x.len, .int .i64 x.kerf, .int .i64 x.pitch, .slice A1 x.sizes.length c1, .slice A2 x.gain.length c2, .slice A3 x.chip.length c3, .slice A4 x.dust.length c4] 64 (0, 0)))) (HD : Aside0 (∀ W', KeepBut w1 W' ga none → Kd.C (Kd.int .i64) W' A7 (n + 1) du)) (HA : Aside0 (ChBlk w1 ga (AL.set e noneC))) (HC : Aside0 (ChBlk w1 gc CL))
    (u0 u2 u3 u4 u5 u6 u9 u12 u13 u14 u15 u16 u17 u18 u19 u20 u21 u22 u23 u24 u25 u26 u27 u28 u29 u30 u31 u32 u33 u34 u35 u36 u37 u38 u39 u40 u41 u42 u43 u44 u45 u46 u47 u48 u49 u50 u51 u52 u53 u54 u55 u56 u57 u58 u59 u60 u61 u62 u63 u64 u68 u69 u70 u71 u72 u73 u74 u75 u76 u77 u78 u79 u80 u81 u82 u83 u84 u85 u86 u87 u88 u89 u90 u91 u92 u93 u94 u95 u96 u97 u98 u99 u100 u101 u102 u103 u104 u105 u106 u107 u108 u109 u110 u111 u112 u113 u114 u115 u116 u117 u118 u119 u120 u121 u122 u123 u124 u125 u126 u127 u128 u129 u130 u131 u132 u133 u134 u135 u136 u137 u138 u139 u140 u141 u142 u143 u144 u145 u146 u147 u148 u149 u150 u151 u152 u153 u154 u155 u156 u157 u158 u159 u160 u161 u162 u163 u164 u165 u166 u167 u168 u169 u170 u171 u172 u173 u174 u175 u176 u177 u178 u179 u180 u181 u182 u183 u184 u185 u186 u187 u188 u189 u190 u191 u192 u193 u194 u195 u196 u197 u198 u199 u200 u201 u202 u203 u204 u205 u206 u207 u208 u209 u210 u211 u212 u213 u214 u215 u216 u217 u218 u219 u220 u221 u222 u223 u224 u225 u226 u227 u228 u229 u230 u231 u232 u233 u234 u235 u236 u237 u238 u239 u240 u241 u242 u243 u244 u245 u246 u247 u248 u249 u250 u251 u252 u253 u254 u255 u256 u257 u258 u259 u260 u261 u262 u263 u264 u265 u266 u267 u268 u269 u270 u271 u272 u273 u274 u275 u276 u277 u278 u279 u280 u281 u282 u283 u284 u285 u286 u287 u288 u289 u290 u291 u292 u293 u294 u295 u296 u297 u298 u299 u300 u301 u302 u303 u304 u305 u306 u307 u308 u309 u310 u311 u312 u313 u314 u315 u316 u317 u318 u319 u320 u321 u322 u323 u324 u325 u326 u327 u328 u329 u330 u331 u332 u333 u334 u335 u336 u337 : Value) (Q0 : Exit → Act → World → Prop)
    (hexit : ∀ (x12 x13 x14 x15 x16 x67 x68 x69 x70 x71 x72 x73 x74 x75 x76 x77 x78 x79 x80 x81 x82 x83 x84 x85 x86 x87 x88 x89 x90 x91 x92 x93 x94 x95 x96 x97 x98 x99 x100 x101 x102 x103 x104 x105 x106 x107 x108 x109 x110 x111 x112 x113 x114 x115 x116 x117 x118 x119 x120 x121 x122 x123 x124 x125 x126 x127 x128 x129 x130 x131 x132 x133 x134 x135 x136 x137 x138 x139 x140 x141 x142 x143 x144 x145 x146 x147 x148 x149 x150 x151 : Value) (w' : World), KeepBut w1 w' ga none → Below w.heap.size w w' → ChBlk w' ga (AL.set e (atTo x du CL e x.sizes.length)) → Q0 (.exit 2) { tmps := (u0 :: .pointer (some ⟨b0, 0, none⟩) :: u2 :: u3 :: u4 :: u5 :: u6 :: .slice A7 (n + 1) c7 :: .slice (some ⟨ga, 0, none⟩) (n + 1) (n + 1) :: u9 :: .slice (some ⟨gc, 0, none⟩) (n + 1) (n + 1) :: .int .i64 (e : Nat) :: x12 :: x13 :: x14 :: x15 :: x16 :: u17 :: u18 :: u19 :: u20 :: u21 :: u22 :: u23 :: u24 :: u25 :: u26 :: u27 :: u28 :: u29 :: u30 :: u31 :: u32 :: u33 :: u34 :: u35 :: u36 :: u37 :: u38 :: u39 :: u40 :: u41 :: u42 :: u43 :: u44 :: u45 :: u46 :: u47 :: u48 :: u49 :: u50 :: u51 :: u52 :: u53 :: u54 :: u55 :: u56 :: u57 :: u58 :: u59 :: u60 :: u61 :: u62 :: u63 :: u64 :: .slice A1 x.sizes.length c1 :: .int .i64 (x.sizes.length : Nat) :: x67 :: x68 :: x69 :: x70 :: x71 :: x72 :: x73 :: x74 :: x75 :: x76 :: x77 :: x78 :: x79 :: x80 :: x81 :: x82 :: x83 :: x84 :: x85 :: x86 :: x87 :: x88 :: x89 :: x90 :: x91 :: x92 :: x93 :: x94 :: x95 :: x96 :: x97 :: x98 :: x99 :: x100 :: x101 :: x102 :: x103 :: x104 :: x105 :: x106 :: x107 :: x108 :: x109 :: x110 :: x111 :: x112 :: x113 :: x114 :: x115 :: x116 :: x117 :: x118 :: x119 :: x120 :: x121 :: x122 :: x123 :: x124 :: x125 :: x126 :: x127 :: x128 :: x129 :: x130 :: x131 :: x132 :: x133 :: x134 :: x135 :: x136 :: x137 :: x138 :: x139 :: x140 :: x141 :: x142 :: x143 :: x144 :: x145 :: x146 :: x147 :: x148 :: x149 :: x150 :: x151 :: u152 :: u153 :: u154 :: u155 :: u156 :: u157 :: u158 :: u159 :: u160 :: u161 :: u162 :: u163 :: u164 :: u165 :: u166 :: u167 :: u168 :: u169 :: u170 :: u171 :: u172 :: u173 :: u174 :: u175 :: u176 :: u177 :: u178 :: u179 :: u180 :: u181 :: u182 :: u183 :: u184 :: u185 :: u186 :: u187 :: u188 :: u189 :: u190 :: u191 :: u192 :: u193 :: u194 :: u195 :: u196 :: u197 :: u198 :: u199 :: u200 :: u201 :: u202 :: u203 :: u204 :: u205 :: u206 :: u207 :: u208 :: u209 :: u210 :: u211 :: u212 :: u213 :: u214 :: u215 :: u216 :: u217 :: u218 :: u219 :: u220 :: u221 :: u222 :: u223 :: u224 :: u225 :: u226 :: u227 :: u228 :: u229 :: u230 :: u231 :: u232 :: u233 :: u234 :: u235 :: u236 :: u237 :: u238 :: u239 :: u240 :: u241 :: u242 :: u243 :: u244 :: u245 :: u246 :: u247 :: u248 :: u249 :: u250 :: u251 :: u252 :: u253 :: u254 :: u255 :: u256 :: u257 :: u258 :: u259 :: u260 :: u261 :: u262 :: u263 :: u264 :: u265 :: u266 :: u267 :: u268 :: u269 :: u270 :: u271 :: u272 :: u273 :: u274 :: u275 :: u276 :: u277 :: u278 :: u279 :: u280 :: u281 :: u282 :: u283 :: u284 :: u285 :: u286 :: u287 :: u288 :: u289 :: u290 :: u291 :: u292 :: u293 :: u294 :: u295 :: u296 :: u297 :: u298 :: u299 :: u300 :: u301 :: u302 :: u303 :: u304 :: u305 :: u306 :: u307 :: u308 :: u309 :: u310 :: u311 :: u312 :: u313 :: u314 :: u315 :: u316 :: u317 :: u318 :: u319 :: u320 :: u321 :: u322 :: u323 :: u324 :: u325 :: u326 :: u327 :: u328 :: u329 :: u330 :: u331 :: u332 :: u333 :: u334 :: u335 :: u336 :: u337 :: []).toArray, defers := [] } w') :
    Code.wp Tryd.prog (Code.loop dpSizes) Q0 { tmps := (u0 :: .pointer (some ⟨b0, 0, none⟩) :: u2 :: u3 :: u4 :: u5 :: u6 :: .slice A7 (n + 1) c7 :: .slice (some ⟨ga, 0, none⟩) (n + 1) (n + 1) :: u9 :: .slice (some ⟨gc, 0, none⟩) (n + 1) (n + 1) :: .int .i64 (e : Nat) :: u12 :: u13 :: u14 :: u15 :: u16 :: u17 :: u18 :: u19 :: u20 :: u21 :: u22 :: u23 :: u24 :: u25 :: u26 :: u27 :: u28 :: u29 :: u30 :: u31 :: u32 :: u33 :: u34 :: u35 :: u36 :: u37 :: u38 :: u39 :: u40 :: u41 :: u42 :: u43 :: u44 :: u45 :: u46 :: u47 :: u48 :: u49 :: u50 :: u51 :: u52 :: u53 :: u54 :: u55 :: u56 :: u57 :: u58 :: u59 :: u60 :: u61 :: u62 :: u63 :: u64 :: .slice A1 x.sizes.length c1 :: .int .i64 (x.sizes.length : Nat) :: .int .i64 0 :: u68 :: u69 :: u70 :: u71 :: u72 :: u73 :: u74 :: u75 :: u76 :: u77 :: u78 :: u79 :: u80 :: u81 :: u82 :: u83 :: u84 :: u85 :: u86 :: u87 :: u88 :: u89 :: u90 :: u91 :: u92 :: u93 :: u94 :: u95 :: u96 :: u97 :: u98 :: u99 :: u100 :: u101 :: u102 :: u103 :: u104 :: u105 :: u106 :: u107 :: u108 :: u109 :: u110 :: u111 :: u112 :: u113 :: u114 :: u115 :: u116 :: u117 :: u118 :: u119 :: u120 :: u121 :: u122 :: u123 :: u124 :: u125 :: u126 :: u127 :: u128 :: u129 :: u130 :: u131 :: u132 :: u133 :: u134 :: u135 :: u136 :: u137 :: u138 :: u139 :: u140 :: u141 :: u142 :: u143 :: u144 :: u145 :: u146 :: u147 :: u148 :: u149 :: u150 :: u151 :: u152 :: u153 :: u154 :: u155 :: u156 :: u157 :: u158 :: u159 :: u160 :: u161 :: u162 :: u163 :: u164 :: u165 :: u166 :: u167 :: u168 :: u169 :: u170 :: u171 :: u172 :: u173 :: u174 :: u175 :: u176 :: u177 :: u178 :: u179 :: u180 :: u181 :: u182 :: u183 :: u184 :: u185 :: u186 :: u187 :: u188 :: u189 :: u190 :: u191 :: u192 :: u193 :: u194 :: u195 :: u196 :: u197 :: u198 :: u199 :: u200 :: u201 :: u202 :: u203 :: u204 :: u205 :: u206 :: u207 :: u208 :: u209 :: u210 :: u211 :: u212 :: u213 :: u214 :: u215 :: u216 :: u217 :: u218 :: u219 :: u220 :: u221 :: u222 :: u223 :: u224 :: u225 :: u226 :: u227 :: u228 :: u229 :: u230 :: u231 :: u232 :: u233 :: u234 :: u235 :: u236 :: u237 :: u238 :: u239 :: u240 :: u241 :: u242 :: u243 :: u244 :: u245 :: u246 :: u247 :: u248 :: u249 :: u250 :: u251 :: u252 :: u253 :: u254 :: u255 :: u256 :: u257 :: u258 :: u259 :: u260 :: u261 :: u262 :: u263 :: u264 :: u265 :: u266 :: u267 :: u268 :: u269 :: u270 :: u271 :: u272 :: u273 :: u274 :: u275 :: u276 :: u277 :: u278 :: u279 :: u280 :: u281 :: u282 :: u283 :: u284 :: u285 :: u286 :: u287 :: u288 :: u289 :: u290 :: u291 :: u292 :: u293 :: u294 :: u295 :: u296 :: u297 :: u298 :: u299 :: u300 :: u301 :: u302 :: u303 :: u304 :: u305 :: u306 :: u307 :: u308 :: u309 :: u310 :: u311 :: u312 :: u313 :: u314 :: u315 :: u316 :: u317 :: u318 :: u319 :: u320 :: u321 :: u322 :: u323 :: u324 :: u325 :: u326 :: u327 :: u328 :: u329 :: u330 :: u331 :: u332 :: u333 :: u334 :: u335 :: u336 :: u337 :: []).toArray, defers := [] } w1 := by
  conv => arg 2; arg 1; whnf
  have HEX := Aside0.mk hexit
  clear hexit
  go_loopw [67] (fun i wr => ∃ k : Nat, k ≤ x.sizes.length ∧ i = .int .i64 (k : Nat) ∧ Aside0 (KeepBut w1 wr ga none) ∧ Aside0 (Below w.heap.size w wr) ∧ Aside0 (ChBlk wr ga (AL.set e (atTo x du CL e k)))) (fun i _ => x.sizes.length - (intOf i).toNat)
  case atStart => exact ⟨0, by omega, rfl, ⟨KeepBut.refl _ _ _⟩, HB, HA⟩
  case round =>
    clear HB HA
    obtain ⟨k, hk, rfl, HK, HB, HA⟩ := hrel
    by_cases hlt : k < x.sizes.length
    · have HXr := Aside0.mk (KeepBut.blk HK.out HX.out hb0 (by simp))
      have HCr := Aside0.mk (show ChBlk wr gc CL from KeepBut.blk HK.out HC.out hgc (by simp))
      have hx0 : wr.cell? ⟨b0, 0, none⟩ = some (.int .i64 x.len) := (blk_cell HXr.out 0).trans rfl
      have hx1 : wr.cell? ⟨b0, 1, none⟩ = some (.int .i64 x.kerf) := (blk_cell HXr.out 1).trans rfl
      have hx4 : wr.cell? ⟨b0, 4, none⟩ = some (.slice A2 x.gain.length c2) := (blk_cell HXr.out 4).trans rfl
      obtain ⟨ad1, rfl, hs⟩ := Kd.at_int (Kd.C_below H1.out HB.out) (k : Int) (by omega) (by omega)
      obtain ⟨ad2, A0, c0, rfl, hg, hg0, hgC⟩ := at_L2 (Kd.C_below H2.out HB.out) (k : Int) (by omega) (by have := HGL.out; omega)
      simp only [Int.toNat_natCast] at hs hg
      have hkg : k < x.gain.length := by have := HGL.out; omega
      have zb := HSZ.out k hlt
      obtain ⟨s, hsv⟩ : ∃ s, s = rdI x.sizes (k : Nat) := ⟨_, rfl⟩
      replace hs : _ = some (Value.int .i64 s) := hs.trans (by rw [hsv]; rfl)
      rw [← hsv] at zb
      obtain ⟨zb1, zb2⟩ := zb
      have HSV := Aside0.mk hsv
      clear hsv
      have HT := Aside0.mk (show atTo x du CL e (k + 1) = atStep x du CL e (atTo x du CL e k) k from rfl)
      obtain ⟨c, hc⟩ : ∃ c, c = atTo x du CL e k := ⟨_, rfl⟩
      rw [← hc] at HA HT
      by_cases q1 : x.len < (e : Int) + s
      · have HT1 := Aside0.mk (show atTo x du CL e (k + 1) = c from HT.out.trans (if_pos (Or.inl (by rw [← HSV.out]; exact q1))))
        clear hc
        go_wp2
        go_roundw
        case rel => exact ⟨k + 1, by omega, by go_num, HK, HB, ⟨by rw [HT1.out]; exact HA.out⟩⟩
        case measure => simp [intOf]; omega
      have q1' : (e : Int) + s ≤ x.len := by omega
      have hrl := HRL.out k hkg
      rw [← HSV.out] at hrl
      have hel : e < (rd_L2 x.gain (k : Nat)).length := by unfold mxi at hrl; split at hrl <;> omega
      obtain ⟨gl, hgl⟩ : ∃ gl, gl = rd_L2 x.gain (k : Nat) := ⟨_, rfl⟩
      rw [← hgl] at hg hg0 hgC hel
      have HGLL := Aside0.mk hgl
      clear hgl hrl q1
      obtain ⟨ad3, rfl, hgv⟩ := Kd.at_int hgC (e : Int) (by omega) (by omega)
      simp only [Int.toNat_natCast] at hgv
      obtain ⟨v0, hv0⟩ : ∃ v0, v0 = rdI gl (e : Nat) := ⟨_, rfl⟩
      replace hgv : _ = some (Value.int .i64 v0) := hgv.trans (by rw [hv0]; rfl)
      have HV0 := Aside0.mk (show rdI (rd_L2 x.gain (k : Nat)) (e : Nat) = v0 by rw [← HGLL.out]; exact hv0.symm)
      clear hv0 hc
      by_cases q2 : v0 < 0
      · have HT1 := Aside0.mk (show atTo x du CL e (k + 1) = c from HT.out.trans (if_pos (Or.inr (by rw [HV0.out]; exact q2))))
        go_wp2
        go_roundw
        case rel => exact ⟨k + 1, by omega, by go_num, HK, HB, ⟨by rw [HT1.out]; exact HA.out⟩⟩
        case measure => simp [intOf]; omega
      have HT1 := Aside0.mk (show atTo x du CL e (k + 1) = if isN c = true ∨ c.value < atV x du CL e k then ⟨⟨k, e⟩, atV x du CL e k⟩ else c from HT.out.trans (if_neg (by rw [HV0.out, ← HSV.out]; omega)))
      have q2' : 0 ≤ v0 := by omega
      clear HT q2
      by_cases q3 : (e : Int) + s < x.len
      · obtain ⟨ed, hed⟩ : ∃ ed : Int, ed = mni ((e : Int) + s + x.kerf) x.len := ⟨_, rfl⟩
        have he2 : (x.len < (e : Int) + s + x.kerf ∧ ed = x.len) ∨ ((e : Int) + s + x.kerf ≤ x.len ∧ ed = (e : Int) + s + x.kerf) := by
          rw [hed]; unfold mni
          by_cases q : x.len < (e : Int) + s + x.kerf
          · rw [if_pos q]; exact Or.inl ⟨q, rfl⟩
          · rw [if_neg q]; exact Or.inr ⟨by omega, rfl⟩
        have hed1 : 0 ≤ ed ∧ ed ≤ x.len := by omega
        have hlnn := HNL.out
        have hnn : (n : Int) = x.len := hlnn.symm
        have D := HD.out wr HK.out
        obtain ⟨ad7, e7, hd1⟩ := Kd.at_int D ed (by omega) (by push_cast; omega)
        cases e7
        obtain ⟨ad7', e7', hd2⟩ := Kd.at_int D ((e : Int) + s) (by omega) (by push_cast; omega)
        cases e7'
        have hcv := (ch_cell HCr.out ed.toNat (by have := HCL.out; omega)).2.2
        obtain ⟨bv, hbv⟩ : ∃ bv, bv = (CL.getD ed.toNat zCh).value := ⟨_, rfl⟩
        rw [← hbv] at hcv
        have HBV := Aside0.mk hbv
        clear hbv
        have hAe := ch_cell HA.out e (by rw [List.length_set]; have := HAL.out; omega)
        rw [show (AL.set e c).getD e zCh = c by rw [List.getD_eq_getElem?_getD, List.getElem?_set_self (by have := HAL.out; omega)]; rfl] at hAe
        obtain ⟨ha0, ha1, ha2⟩ := hAe
        have HED := Aside0.mk hed
        have hi1 : ed < (n : Int) + 1 := by omega
        have hi2 : (e : Int) + s < (n : Int) + 1 := by omega
        have hi3 : (e : Int) < (n : Int) + 1 := by omega
        have hi4 : e < n + 1 := by omega
        have hi5 : 0 ≤ (e : Int) + s := by omega
        have hi6 : 0 ≤ ed := by omega
        clear hed hlnn hnn D
        rcases he2 with ⟨q, rfl⟩ | ⟨q, rfl⟩
        · go_upto_region 20 with (fail)
          have hW : ∀ a, IntKind.i64.wrap a = wrap64 a := fun a => by rw [IntKind.wrap_i64]; unfold wrap64; omega
          go_quiet (fail)
          clear hW hd1 hd2 hcv
          have HVV : wrap64 (v0 + wrap64 (wrap64 (rd du x.len - rd du ((e : Int) + s)) + bv)) = atV x du CL e k := by
            unfold atV
            rw [if_pos (by rw [← HSV.out]; exact q3), HV0.out, ← HSV.out, ← HED.out, HBV.out]
            rfl
          rw [HVV]
          clear HVV
          obtain ⟨v, hv⟩ : ∃ v, v = atV x du CL e k := ⟨_, rfl⟩
          rw [← hv] at HT1 ⊢
          clear hv
          have hz0 := pw_cell_below HB.out HN0.out
          have hz1 := pw_cell_below HB.out HN1.out
          have hz2 := pw_cell_below HB.out HN2.out
          have hE : ∀ w, (Op.equalIn 10000 165 (.agg #[.int .i64 c.piece.size, .int .i64 c.piece.pos, .int .i64 c.value]) (.agg #[.int .i64 (-1), .int .i64 (-1), .int .i64 0])).run Tryd.prog w = .ok (isN c) w := fun w => eqCh _ _ _ _ _ _ w
          have hGd := fun x y a b w => guardCh .eql x y a b w
          cases qn : isN c with
          | true =>
            have HTk := Aside0.mk (show atTo x du CL e (k + 1) = ⟨⟨k, e⟩, v⟩ from HT1.out.trans (if_pos (Or.inl qn)))
            rw [qn] at hE
            go_upto_region 21 with (fail)
            go_quiet (fail)
            have hf0 := ch_frozen HA.out (e * 3)
            have hf1 := ch_frozen HA.out (e * 3 + 1)
            have hf2 := ch_frozen HA.out (e * 3 + 2)
            go_wp2_with fail
            go_roundw
            case rel => exact ⟨k + 1, by omega, by go_num, ⟨(((keep_drewN HK.out _).set_ _ _).set_ _ _).set_ _ _⟩, ⟨below_set (below_set (below_set (pw_below_drewN HB.out _) hga) hga) hga⟩, ⟨by rw [HTk.out]; exact ch_turn HA.out (by have := HAL.out; omega) _ ⟨⟨k, e⟩, v⟩⟩⟩
            case measure => simp [intOf]; omega
          | false =>
            rw [qn] at hE
            by_cases qv : c.value < v
            · have HTk := Aside0.mk (show atTo x du CL e (k + 1) = ⟨⟨k, e⟩, v⟩ from HT1.out.trans (if_pos (Or.inr qv)))
              go_upto_region 21 with (fail)
              go_quiet (fail)
              have hf0 := ch_frozen HA.out (e * 3)
              have hf1 := ch_frozen HA.out (e * 3 + 1)
              have hf2 := ch_frozen HA.out (e * 3 + 2)
              go_wp2_with fail
              go_roundw
              case rel => exact ⟨k + 1, by omega, by go_num, ⟨(((keep_drewN HK.out _).set_ _ _).set_ _ _).set_ _ _⟩, ⟨below_set (below_set (below_set (pw_below_drewN HB.out _) hga) hga) hga⟩, ⟨by rw [HTk.out]; exact ch_turn HA.out (by have := HAL.out; omega) _ ⟨⟨k, e⟩, v⟩⟩⟩
              case measure => simp [intOf]; omega
            · have HTk := Aside0.mk (show atTo x du CL e (k + 1) = c from HT1.out.trans (if_neg (by rw [qn]; simpa using qv)))
              have qv' : v ≤ c.value := by omega
              go_upto_region 21 with (fail)
              go_quiet (fail)
              go_wp2_with fail
              go_roundw
              case rel => exact ⟨k + 1, by omega, by go_num, ⟨keep_drewN HK.out _⟩, ⟨pw_below_drewN HB.out _⟩, ⟨by rw [HTk.out]; exact (show ChBlk _ ga (AL.set e c) from blk_drewN HA.out _)⟩⟩
              case measure => simp [intOf]; omega
        · go_upto_region 20 with (fail)
          have hW : ∀ a, IntKind.i64.wrap a = wrap64 a := fun a => by rw [IntKind.wrap_i64]; unfold wrap64; omega
          go_quiet (fail)
          clear hW hd1 hd2 hcv
          have HVV : wrap64 (v0 + wrap64 (wrap64 (rd du ((e : Int) + s + x.kerf) - rd du ((e : Int) + s)) + bv)) = atV x du CL e k := by
            unfold atV
            rw [if_pos (by rw [← HSV.out]; exact q3), HV0.out, ← HSV.out, ← HED.out, HBV.out]
            rfl
          rw [HVV]
          clear HVV
          obtain ⟨v, hv⟩ : ∃ v, v = atV x du CL e k := ⟨_, rfl⟩
          rw [← hv] at HT1 ⊢
          clear hv
          have hz0 := pw_cell_below HB.out HN0.out
          have hz1 := pw_cell_below HB.out HN1.out
          have hz2 := pw_cell_below HB.out HN2.out
          have hE : ∀ w, (Op.equalIn 10000 165 (.agg #[.int .i64 c.piece.size, .int .i64 c.piece.pos, .int .i64 c.value]) (.agg #[.int .i64 (-1), .int .i64 (-1), .int .i64 0])).run Tryd.prog w = .ok (isN c) w := fun w => eqCh _ _ _ _ _ _ w
          have hGd := fun x y a b w => guardCh .eql x y a b w
          cases qn : isN c with
          | true =>
            have HTk := Aside0.mk (show atTo x du CL e (k + 1) = ⟨⟨k, e⟩, v⟩ from HT1.out.trans (if_pos (Or.inl qn)))
            rw [qn] at hE
            go_upto_region 21 with (fail)
            go_quiet (fail)
            have hf0 := ch_frozen HA.out (e * 3)
            have hf1 := ch_frozen HA.out (e * 3 + 1)
            have hf2 := ch_frozen HA.out (e * 3 + 2)
            go_wp2_with fail
            go_roundw
            case rel => exact ⟨k + 1, by omega, by go_num, ⟨(((keep_drewN HK.out _).set_ _ _).set_ _ _).set_ _ _⟩, ⟨below_set (below_set (below_set (pw_below_drewN HB.out _) hga) hga) hga⟩, ⟨by rw [HTk.out]; exact ch_turn HA.out (by have := HAL.out; omega) _ ⟨⟨k, e⟩, v⟩⟩⟩
            case measure => simp [intOf]; omega
          | false =>
            rw [qn] at hE
            by_cases qv : c.value < v
            · have HTk := Aside0.mk (show atTo x du CL e (k + 1) = ⟨⟨k, e⟩, v⟩ from HT1.out.trans (if_pos (Or.inr qv)))
              go_upto_region 21 with (fail)
              go_quiet (fail)
              have hf0 := ch_frozen HA.out (e * 3)
              have hf1 := ch_frozen HA.out (e * 3 + 1)
              have hf2 := ch_frozen HA.out (e * 3 + 2)
              go_wp2_with fail
              go_roundw
              case rel => exact ⟨k + 1, by omega, by go_num, ⟨(((keep_drewN HK.out _).set_ _ _).set_ _ _).set_ _ _⟩, ⟨below_set (below_set (below_set (pw_below_drewN HB.out _) hga) hga) hga⟩, ⟨by rw [HTk.out]; exact ch_turn HA.out (by have := HAL.out; omega) _ ⟨⟨k, e⟩, v⟩⟩⟩
              case measure => simp [intOf]; omega
            · have HTk := Aside0.mk (show atTo x du CL e (k + 1) = c from HT1.out.trans (if_neg (by rw [qn]; simpa using qv)))
              have qv' : v ≤ c.value := by omega
              go_upto_region 21 with (fail)
              go_quiet (fail)
              go_wp2_with fail
              go_roundw
              case rel => exact ⟨k + 1, by omega, by go_num, ⟨keep_drewN HK.out _⟩, ⟨pw_below_drewN HB.out _⟩, ⟨by rw [HTk.out]; exact (show ChBlk _ ga (AL.set e c) from blk_drewN HA.out _)⟩⟩
              case measure => simp [intOf]; omega
      · have HT2 := Aside0.mk (show atTo x du CL e (k + 1) = if isN c = true ∨ c.value < v0 then ⟨⟨k, e⟩, v0⟩ else c by
          have e2 : atV x du CL e k = v0 := by
            unfold atV
            rw [if_neg (by rw [← HSV.out]; exact q3)]
            exact HV0.out
          rw [HT1.out, e2])
        clear HT1
        have HT1 := HT2
        clear HT2
        have q3' : x.len ≤ (e : Int) + s := by omega
        have hAe := ch_cell HA.out e (by rw [List.length_set]; have := HAL.out; have := HNL.out; omega)
        rw [show (AL.set e c).getD e zCh = c by rw [List.getD_eq_getElem?_getD, List.getElem?_set_self (by have := HAL.out; have := HNL.out; omega)]; rfl] at hAe
        obtain ⟨ha0, ha1, ha2⟩ := hAe
        have hi3 : (e : Int) < (n : Int) + 1 := by have := HNL.out; omega
        have hi4 : e < n + 1 := by omega
        have hz0 := pw_cell_below HB.out HN0.out
        have hz1 := pw_cell_below HB.out HN1.out
        have hz2 := pw_cell_below HB.out HN2.out
        have hE : ∀ w, (Op.equalIn 10000 165 (.agg #[.int .i64 c.piece.size, .int .i64 c.piece.pos, .int .i64 c.value]) (.agg #[.int .i64 (-1), .int .i64 (-1), .int .i64 0])).run Tryd.prog w = .ok (isN c) w := fun w => eqCh _ _ _ _ _ _ w
        have hGd := fun x y a b w => guardCh .eql x y a b w
        cases qn : isN c with
        | true =>
          have HTk := Aside0.mk (show atTo x du CL e (k + 1) = ⟨⟨k, e⟩, v0⟩ from HT1.out.trans (if_pos (Or.inl qn)))
          rw [qn] at hE
          go_upto_region 21 with (fail)
          go_quiet (fail)
          have hf0 := ch_frozen HA.out (e * 3)
          have hf1 := ch_frozen HA.out (e * 3 + 1)
          have hf2 := ch_frozen HA.out (e * 3 + 2)
          go_wp2_with fail
          go_roundw
          case rel => exact ⟨k + 1, by omega, by go_num, ⟨(((keep_drewN HK.out _).set_ _ _).set_ _ _).set_ _ _⟩, ⟨below_set (below_set (below_set (pw_below_drewN HB.out _) hga) hga) hga⟩, ⟨by rw [HTk.out]; exact ch_turn HA.out (by have := HAL.out; omega) _ ⟨⟨k, e⟩, v0⟩⟩⟩
          case measure => simp [intOf]; omega
        | false =>
          rw [qn] at hE
          by_cases qv : c.value < v0
          · have HTk := Aside0.mk (show atTo x du CL e (k + 1) = ⟨⟨k, e⟩, v0⟩ from HT1.out.trans (if_pos (Or.inr qv)))
            go_upto_region 21 with (fail)
            go_quiet (fail)
            have hf0 := ch_frozen HA.out (e * 3)
            have hf1 := ch_frozen HA.out (e * 3 + 1)
            have hf2 := ch_frozen HA.out (e * 3 + 2)
            go_wp2_with fail
            go_roundw
            case rel => exact ⟨k + 1, by omega, by go_num, ⟨(((keep_drewN HK.out _).set_ _ _).set_ _ _).set_ _ _⟩, ⟨below_set (below_set (below_set (pw_below_drewN HB.out _) hga) hga) hga⟩, ⟨by rw [HTk.out]; exact ch_turn HA.out (by have := HAL.out; omega) _ ⟨⟨k, e⟩, v0⟩⟩⟩
            case measure => simp [intOf]; omega
          · have HTk := Aside0.mk (show atTo x du CL e (k + 1) = c from HT1.out.trans (if_neg (by rw [qn]; simpa using qv)))
            have qv' : v0 ≤ c.value := by omega
            go_upto_region 21 with (fail)
            go_quiet (fail)
            go_wp2_with fail
            go_roundw
            case rel => exact ⟨k + 1, by omega, by go_num, ⟨keep_drewN HK.out _⟩, ⟨pw_below_drewN HB.out _⟩, ⟨by rw [HTk.out]; exact (show ChBlk _ ga (AL.set e c) from blk_drewN HA.out _)⟩⟩
            case measure => simp [intOf]; omega
    · obtain rfl : k = x.sizes.length := by omega
      go_wp2_with fail
      exact HEX.out _ _ _ _ _ _ _ _ _ _ _ _ _ _ _ _ _ _ _ _ _ _ _ _ _ _ _ _ _ _ _ _ _ _ _ _ _ _ _ _ _ _ _ _ _ _ _ _ _ _ _ _ _ _ _ _ _ _ _ _ _ _ _ _ _ _ _ _ _ _ _ _ _ _ _ _ _ _ _ _ _ _ _ _ _ _ _ _ _ _ _ HK.out HB.out HA.out
end Go.Proofs.YtngpoonjonojhaaDoor
