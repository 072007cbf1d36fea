/- Words and walks that the row leans on: PlDpg, WDp2. -/
import Derived.Test.YtngpoonjonojhaaDoorE26
import Derived.Test.YtngpoonjonojhaaDoorE25
set_option linter.all false
/-! Plain laws: the pieces that the sums choose lie in the line. -/
namespace Go.Proofs.YtngpoonjonojhaaDoor
open Go.RowKit
def GoodC (x : Ln) (e : Int) (c : Ch) : Prop := (c.piece.size = -1 ∧ c.piece.pos = -1) ∨ (0 ≤ c.piece.size ∧ c.piece.size < x.sizes.length ∧ e ≤ c.piece.pos ∧ c.piece.pos + rdI x.sizes c.piece.size ≤ x.len)
theorem GoodC.mono {x : Ln} {e e' : Int} {c : Ch} (h : GoodC x e c) (he : e' ≤ e) : GoodC x e' c := by
  rcases h with h | ⟨h1, h2, h3, h4⟩
  · exact .inl h
  · exact .inr ⟨h1, h2, by omega, h4⟩
theorem GoodC.piece {x : Ln} {e : Int} {c c' : Ch} (h : GoodC x e c) (hp : c'.piece = c.piece) : GoodC x e c' := by
  unfold GoodC
  rw [hp]
  exact h
theorem noneC_good (x : Ln) (e : Int) : GoodC x e noneC := .inl ⟨rfl, rfl⟩
theorem atTo_good (x : Ln) (dust : List Int) (bs : List Ch) (e : Nat) : ∀ i, i ≤ x.sizes.length → GoodC x e (atTo x dust bs e i)
  | 0, _ => noneC_good x e
  | i + 1, hi => by
    have ih := atTo_good x dust bs e i (by omega)
    show GoodC x e (atStep x dust bs e (atTo x dust bs e i) i)
    unfold atStep
    split
    · exact ih
    · rename_i h
      split
      · refine .inr ⟨?_, ?_, ?_, ?_⟩
        · show (0 : Int) ≤ (i : Nat); omega
        · show ((i : Nat) : Int) < _; omega
        · show (e : Int) ≤ (e : Nat); omega
        · show (e : Int) + rdI x.sizes (i : Nat) ≤ x.len; omega
      · exact ih
theorem behind2_good {x : Ln} {chip : List Int} {be : List Ch} {e : Nat} {b : Ch} (hp : 0 ≤ x.pitch) (hb : GoodC x e b) (hn : GoodC x (e + x.pitch) (rd_Ch be (e + x.pitch))) : GoodC x e (behind2 x chip be e b) := by
  unfold behind2
  split
  · exact GoodC.piece (GoodC.mono hn (by omega)) rfl
  · exact hb
theorem behind1_good {x : Ln} {chip dust : List Int} {at_ : List Ch} {e : Nat} (hp : 0 ≤ x.pitch) (hk : 0 ≤ x.kerf) (hn : e + x.pitch + x.kerf ≤ x.len → GoodC x (e + x.pitch + x.kerf) (rd_Ch at_ (e + x.pitch + x.kerf))) : GoodC x e (behind1 x chip dust at_ e) := by
  unfold behind1
  split
  · rename_i h
    exact GoodC.piece (GoodC.mono (hn h.1) (by omega)) rfl
  · exact noneC_good x e
theorem bestPick_good {x : Ln} {e : Int} {b c : Ch} (hb : GoodC x e b) (hc : GoodC x e c) : GoodC x e (bestPick b c) := by
  unfold bestPick
  split
  · exact hc
  · exact hb
structure DOk (x : Ln) (n k : Nat) (s : DSt) : Prop where
  la : s.at_.length = n + 1
  lb : s.be.length = n + 1
  lc : s.bs.length = n + 1
  ga : ∀ i : Nat, i ≤ n → n < i + k → GoodC x i (s.at_.getD i zCh)
  gb : ∀ i : Nat, i ≤ n → n < i + k → GoodC x i (s.be.getD i zCh)
  gc : ∀ i : Nat, i ≤ n → n < i + k → GoodC x i (s.bs.getD i zCh)
theorem getD_set_self {l : List Ch} {i : Nat} {c : Ch} (h : i < l.length) : (l.set i c).getD i zCh = c := by
  rw [List.getD_eq_getElem?_getD, List.getElem?_set_self h]; rfl
theorem getD_set_ne {l : List Ch} {i j : Nat} {c : Ch} (h : i ≠ j) : (l.set i c).getD j zCh = l.getD j zCh := by
  rw [List.getD_eq_getElem?_getD, List.getElem?_set_ne h, ← List.getD_eq_getElem?_getD]
theorem good_set {x : Ln} {n k : Nat} {l : List Ch} {c : Ch} (hl : l.length = n + 1) (hk : k ≤ n) (hg : ∀ i : Nat, i ≤ n → n < i + k → GoodC x i (l.getD i zCh)) (hc : GoodC x (n - k : Nat) c) : ∀ i : Nat, i ≤ n → n < i + (k + 1) → GoodC x i ((l.set (n - k) c).getD i zCh) := by
  intro i h1 h2
  by_cases h : n - k = i
  · rw [← h, getD_set_self (by omega)]; exact hc
  · rw [getD_set_ne h]; exact hg i h1 (by omega)
theorem behindOf_good {x : Ln} {n k : Nat} {chip dust : List Int} {al be : List Ch} (hn : x.len = (n : Nat)) (hp : 1 ≤ x.pitch) (hf : 0 ≤ x.kerf) (hk : k ≤ n)
    (ga : ∀ i : Nat, i ≤ n → n < i + (k + 1) → GoodC x i (al.getD i zCh)) (gb : ∀ i : Nat, i ≤ n → n < i + k → GoodC x i (be.getD i zCh)) : GoodC x (n - k : Nat) (behindOf x chip dust al be (n - k)) := by
  unfold behindOf
  split
  · rename_i h
    refine behind2_good (by omega) (behind1_good (by omega) hf (fun h2 => ?_)) ?_
    · have e : (((n - k : Nat) : Int) + x.pitch + x.kerf) = ((((n - k : Nat) : Int) + x.pitch + x.kerf).toNat : Nat) := by omega
      have := ga (((n - k : Nat) : Int) + x.pitch + x.kerf).toNat (by omega) (by omega)
      rw [← e] at this
      exact this
    · have e : (((n - k : Nat) : Int) + x.pitch) = ((((n - k : Nat) : Int) + x.pitch).toNat : Nat) := by omega
      have := gb (((n - k : Nat) : Int) + x.pitch).toNat (by omega) (by omega)
      rw [← e] at this
      exact this
  · exact noneC_good _ _
theorem dpStep_ok {x : Ln} {n k : Nat} {chip dust : List Int} {s : DSt} (hn : x.len = (n : Nat)) (hp : 1 ≤ x.pitch) (hf : 0 ≤ x.kerf) (hk : k ≤ n) (h : DOk x n k s) : DOk x n (k + 1) (dpStep x chip dust s (n - k)) := by
  have g1 := good_set h.la hk h.ga (atTo_good x dust s.bs (n - k) x.sizes.length (by omega))
  have g2 := behindOf_good (chip := chip) (dust := dust) hn hp hf hk g1 h.gb
  refine ⟨?_, ?_, ?_, g1, good_set h.lb hk h.gb g2, good_set h.lc hk h.gc ?_⟩
  · show (s.at_.set _ _).length = _; rw [List.length_set]; exact h.la
  · show (s.be.set _ _).length = _; rw [List.length_set]; exact h.lb
  · show (s.bs.set _ _).length = _; rw [List.length_set]; exact h.lc
  · exact bestPick_good (bestPick_good (.inl ⟨rfl, rfl⟩) (atTo_good x dust s.bs (n - k) x.sizes.length (by omega))) g2
theorem dpTo_ok {x : Ln} {n : Nat} {chip dust : List Int} (hn : x.len = (n : Nat)) (hp : 1 ≤ x.pitch) (hf : 0 ≤ x.kerf) : ∀ k, k ≤ n + 1 → DOk x n k (dpTo x chip dust n k)
  | 0, _ => ⟨by simp [dpTo], by simp [dpTo], by simp [dpTo], fun i _ h => by omega, fun i _ h => by omega, fun i _ h => by omega⟩
  | k + 1, hk => dpStep_ok hn hp hf (by omega) (dpTo_ok hn hp hf k (by omega))
theorem lnErr_ok {x : Ln} (h : lnErr x = 0) : (0 ≤ x.len ∧ x.len ≤ 2000 ∧ 0 ≤ x.kerf ∧ x.kerf ≤ 20 ∧ 1 ≤ x.pitch ∧ x.pitch ≤ 2000) ∧ x.sizes.length ≤ 32 ∧ (∀ i : Nat, i < x.sizes.length → 1 ≤ rdI x.sizes (i : Nat) ∧ rdI x.sizes (i : Nat) ≤ 2000) ∧ x.gain.length = x.sizes.length ∧ (x.chip.length : Int) = x.len ∧ (x.dust.length : Int) = x.len ∧ ∀ i : Nat, i < x.gain.length → ((rd_L2 x.gain (i : Nat)).length : Int) = mxi 0 (x.len - rdI x.sizes (i : Nat) + 1) := by
  unfold lnErr at h
  split at h
  · exact absurd h (by assumption)
  rename_i h1
  split at h
  · omega
  rename_i h2
  split at h
  · exact absurd h (by assumption)
  rename_i h3
  have h1 : headErr x = 0 := by omega
  have h3 : firstErr (rowErr1 x) x.gain.length = 0 := by omega
  unfold headErr at h1
  split at h1
  · rename_i g
    simp only [inR, Bool.and_eq_true, decide_eq_true_eq] at g
    split at h1
    · omega
    · refine ⟨by omega, by omega, fun i hi => ?_, by omega, by omega, by omega, fun i hi => ?_⟩
      · have e := firstErr_zero h1 i hi
        unfold sizeErr1 at e
        split at e
        · rename_i q
          simp only [inR, Bool.and_eq_true, decide_eq_true_eq] at q
          exact q
        · omega
      · have e := firstErr_zero h3 i hi
        unfold rowErr1 at e
        split at e
        · assumption
        · omega
  · omega
def PcIn (x : Ln) (p : Pc) : Prop := 0 ≤ p.size ∧ p.size < x.sizes.length ∧ 0 ≤ p.pos ∧ p.pos + rdI x.sizes p.size ≤ x.len
theorem outFrom_len (x : Ln) (bs : List Ch) : ∀ (f : Nat) (e : Int), (outFrom x bs f e).length ≤ f
  | 0, _ => by simp [outFrom]
  | f + 1, e => by
    unfold outFrom
    split
    · simp
    · split
      · simp
      · have := outFrom_len x bs f (mni ((rd_Ch bs e).piece.pos + rdI x.sizes (rd_Ch bs e).piece.size + x.kerf) x.len)
        simp only [List.length_cons]
        omega
theorem outFrom_in {x : Ln} {bs : List Ch} {n : Nat} (hn : x.len = (n : Nat)) (hk : 0 ≤ x.kerf) (hs : ∀ i : Nat, i < x.sizes.length → 0 ≤ rdI x.sizes (i : Nat)) (G : ∀ i : Nat, i ≤ n → GoodC x i (bs.getD i zCh)) : ∀ (f : Nat) (e : Int), 0 ≤ e → e ≤ x.len → ∀ p ∈ outFrom x bs f e, PcIn x p
  | 0, _, _, _, p, hp => by simp [outFrom] at hp
  | f + 1, e, h0, h1, p, hp => by
    have g := G e.toNat (by omega)
    have ge : GoodC x e (rd_Ch bs e) := by
      have e2 : ((e.toNat : Nat) : Int) = e := by omega
      rw [e2] at g
      exact g
    unfold outFrom at hp
    split at hp
    · simp at hp
    · rename_i q
      rcases ge with ge | ⟨g1, g2, g3, g4⟩
      · exact absurd ge q
      have here : PcIn x (rd_Ch bs e).piece := ⟨g1, g2, by omega, g4⟩
      split at hp
      · rw [List.mem_singleton] at hp
        exact hp ▸ here
      · rcases List.mem_cons.1 hp with hp | hp
        · exact hp ▸ here
        · have s0 := hs (rd_Ch bs e).piece.size.toNat (by omega)
          rw [show ((((rd_Ch bs e).piece.size.toNat : Nat)) : Int) = (rd_Ch bs e).piece.size by omega] at s0
          exact outFrom_in hn hk hs G f _ (by unfold mni; split <;> omega) (by unfold mni; split <;> omega) p hp
theorem bestPcs_in (x : Ln) : (∀ p ∈ (bestPcs x).1, PcIn x p) ∧ (bestPcs x).1.length ≤ 2001 := by
  unfold bestPcs
  split
  · exact ⟨fun p hp => by simp at hp, by simp⟩
  · rename_i h
    obtain ⟨⟨l1, l2, k1, k2, p1, p2⟩, s1, s2, s3, s4, s5, s6⟩ := lnErr_ok (show lnErr x = 0 by omega)
    have hn : x.len = (x.len.toNat : Nat) := by omega
    have D := dpTo_ok (chip := sumsOf x.chip) (dust := sumsOf x.dust) hn p1 k1 (x.len.toNat + 1) (Nat.le_refl _)
    refine ⟨outFrom_in hn k1 (fun i hi => by have := (s2 i hi).1; omega) (fun i hi => D.gc i hi (by omega)) _ 0 (by omega) l1, ?_⟩
    have := outFrom_len x (dpTo x (sumsOf x.chip) (sumsOf x.dust) x.len.toNat (x.len.toNat + 1)).bs (x.len.toNat + 1) 0
    show (outFrom _ _ _ _).length ≤ _
    omega
end Go.Proofs.YtngpoonjonojhaaDoor
/-! Walks: what lies behind a waste that is longer by one pitch. -/
namespace Go.Proofs.YtngpoonjonojhaaDoor
open Go.RowKit Go.Proofs.YtngpoonjonojhaaDoorW.PrintWords Go.Proofs.YtngpoonjonojhaaDoorW.PrintLast
set_option linter.unusedVariables false
noncomputable def dpX30 : Code := ((Tryd.f53.body.bind (cutIn 30)).map (·.1)).getD .skip
noncomputable def dpY30 : Code := ((Tryd.f53.body.bind (cutIn 30)).map (·.2)).getD .skip
theorem chE (c : Ch) (w : World) : (Op.equalIn 10000 165 (.agg #[.int .i64 c.piece.size, .int .i64 c.piece.pos, .int .i64 c.value]) (.agg #[.int .i64 (-1), .int .i64 (-1), .int .i64 0])).run Tryd.prog w = .ok (isN c) w := eqCh _ _ _ _ _ _ w
theorem ch_drewN {w : World} {g : Nat} {l : List Ch} (h : ChBlk w g l) (m : Nat) : ChBlk (w.drewN m) g l := blk_drewN h m
theorem ch_turn2 {w : World} {g : Nat} {l : List Ch} {i : Nat} {c0 : Ch} (h : ChBlk w g (l.set i c0)) (hi : i < l.length) (m : Nat) (c : Ch) : ChBlk ((((w.drewN m).setCell ⟨g, i * 3, none⟩ (.int .i64 c.piece.size)).setCell ⟨g, i * 3 + 1, none⟩ (.int .i64 c.piece.pos)).setCell ⟨g, i * 3 + 2, none⟩ (.int .i64 c.value)) g (l.set i c) := by
  have hp := ch_put (ch_drewN h m) i (by rw [List.length_set]; exact hi) c
  rw [List.set_set] at hp
  exact hp
set_option maxHeartbeats 8000000 in
set_option maxRecDepth 1000000 in
theorem dp_behind2 (x : Ln) (A1 : Option Addr) (c1 : Nat) (A2 : Option Addr) (c2 : Nat) (A3 : Option Addr) (c3 : Nat) (A4 : Option Addr) (c4 : Nat) (ch : List Int) (e n b0 gb : Nat) (wv : Int) (b : Ch) (BL : List Ch)
    (HNL : Aside0 (x.len = (n : Nat))) (hn3 : 0 ≤ x.len) (hn4 : x.len ≤ 2000) (hp1 : 1 ≤ x.pitch) (he : (e : Int) + x.pitch ≤ x.len) (HWV : Aside0 (wv = wasteOf x ch e)) (HBL : Aside0 (BL.length = n + 1)) (w w1 : World) (hgb : w.heap.size ≤ gb)
    (HN0 : Aside0 (w.cell? ⟨0, 0, none⟩ = some (.int .i64 (-1)))) (HN1 : Aside0 (w.cell? ⟨0, 1, none⟩ = some (.int .i64 (-1)))) (HN2 : Aside0 (w.cell? ⟨0, 2, none⟩ = some (.int .i64 0)))
    (HB : Aside0 (Below w.heap.size w w1)) (HX : Aside0 (w.heap[b0]? = some (.cells #[.int .i64 x.len, .int .i64 x.kerf, .int .i64 x.pitch, .slice A1 x.sizes.length c1, .slice A2 x.gain.length c2, .slice A3 x.chip.length c3, .slice A4 x.dust.length c4] 64 (0, 0)))) (HBB : Aside0 (ChBlk w1 gb (BL.set e b)))
    (u0 u2 u3 u4 u5 u6 u7 u8 u10 u12 u13 u14 u15 u16 u19 u20 u21 u22 u23 u24 u25 u26 u27 u28 u29 u30 u31 u32 u33 u34 u35 u36 u37 u38 u39 u40 u41 u42 u43 u44 u45 u46 u47 u48 u49 u50 u51 u52 u53 u54 u55 u56 u57 u58 u59 u60 u61 u62 u63 u64 u65 u66 u67 u68 u69 u70 u71 u72 u73 u74 u75 u76 u77 u78 u79 u80 u81 u82 u83 u84 u85 u86 u87 u88 u89 u90 u91 u92 u93 u94 u95 u96 u97 u98 u99 u100 u101 u102 u103 u104 u105 u106 u107 u108 u109 u110 u111 u112 u113 u114 u115 u116 u117 u118 u119 u120 u121 u122 u123 u124 u125 u126 u127 u128 u129 u130 u131 u132 u133 u134 u135 u136 u137 u138 u139 u140 u141 u142 u143 u144 u145 u146 u147 u148 u149 u150 u151 u152 u153 u154 u155 u156 u157 u158 u159 u160 u161 u162 u163 u164 u165 u166 u167 u168 u169 u170 u171 u172 u173 u174 u175 u176 u177 u178 u179 u180 u181 u182 u183 u184 u185 u186 u187 u188 u189 u190 u191 u192 u193 u194 u195 u196 u197 u198 u199 u200 u201 u202 u203 u204 u205 u206 u207 u208 u209 u210 u211 u212 u213 u214 u215 u216 u217 u218 u219 u220 u221 u222 u223 u224 u225 u226 u227 u228 u229 u230 u231 u232 u233 u234 u235 u236 u237 u238 u239 u240 u241 u242 u243 u244 u245 u246 u247 u248 u249 u250 u251 u252 u253 u254 u255 u256 u257 u258 u259 u260 u261 u262 u263 u264 u265 u266 u267 u268 u269 u270 u271 u272 u273 u274 u275 u276 u277 u278 u279 u280 u281 u282 u283 u284 u285 u286 u287 u288 u289 u290 u291 u292 u293 u294 u295 u296 u297 u298 u299 u300 u301 u302 u303 u304 u305 u306 u307 u308 u309 u310 u311 u312 u313 u314 u315 u316 u317 u318 u319 u320 u321 u322 u323 u324 u325 u326 u327 u328 u329 u330 u331 u332 u333 u334 u335 u336 u337 : Value) (Q0 : Exit → Act → World → Prop) (K : Act → World → Prop) (hK : ∀ a w', Code.wp Tryd.prog dpY30 Q0 a w' → K a w')
    (hexit : ∀ (x20 x211 x212 x213 x214 x215 x216 x217 x218 x219 x220 x221 x222 x223 x224 x225 x226 x227 x228 x229 x230 x231 x232 x233 x234 x235 x236 x237 x238 x239 x240 x241 x242 x243 x244 x245 x246 x247 : Value) (w' : World), KeepBut w1 w' gb none → Below w.heap.size w w' → ChBlk w' gb (BL.set e (behind2 x ch BL e b)) → Q0 .normal { tmps := (u0 :: .pointer (some ⟨b0, 0, none⟩) :: u2 :: u3 :: u4 :: u5 :: u6 :: u7 :: u8 :: .slice (some ⟨gb, 0, none⟩) (n + 1) (n + 1) :: u10 :: .int .i64 (e : Nat) :: u12 :: u13 :: u14 :: u15 :: u16 :: .int .i64 ((e : Nat) + x.pitch) :: .int .i64 wv :: u19 :: x20 :: u21 :: u22 :: u23 :: u24 :: u25 :: u26 :: u27 :: u28 :: u29 :: u30 :: u31 :: u32 :: u33 :: u34 :: u35 :: u36 :: u37 :: u38 :: u39 :: u40 :: u41 :: u42 :: u43 :: u44 :: u45 :: u46 :: u47 :: u48 :: u49 :: u50 :: u51 :: u52 :: u53 :: u54 :: u55 :: u56 :: u57 :: u58 :: u59 :: u60 :: u61 :: u62 :: u63 :: u64 :: u65 :: u66 :: u67 :: u68 :: u69 :: u70 :: u71 :: u72 :: u73 :: u74 :: u75 :: u76 :: u77 :: u78 :: u79 :: u80 :: u81 :: u82 :: u83 :: u84 :: u85 :: u86 :: u87 :: u88 :: u89 :: u90 :: u91 :: u92 :: u93 :: u94 :: u95 :: u96 :: u97 :: u98 :: u99 :: u100 :: u101 :: u102 :: u103 :: u104 :: u105 :: u106 :: u107 :: u108 :: u109 :: u110 :: u111 :: u112 :: u113 :: u114 :: u115 :: u116 :: u117 :: u118 :: u119 :: u120 :: u121 :: u122 :: u123 :: u124 :: u125 :: u126 :: u127 :: u128 :: u129 :: u130 :: u131 :: u132 :: u133 :: u134 :: u135 :: u136 :: u137 :: u138 :: u139 :: u140 :: u141 :: u142 :: u143 :: u144 :: u145 :: u146 :: u147 :: u148 :: u149 :: u150 :: u151 :: u152 :: u153 :: u154 :: u155 :: u156 :: u157 :: u158 :: u159 :: u160 :: u161 :: u162 :: u163 :: u164 :: u165 :: u166 :: u167 :: u168 :: u169 :: u170 :: u171 :: u172 :: u173 :: u174 :: u175 :: u176 :: u177 :: u178 :: u179 :: u180 :: u181 :: u182 :: u183 :: u184 :: u185 :: u186 :: u187 :: u188 :: u189 :: u190 :: u191 :: u192 :: u193 :: u194 :: u195 :: u196 :: u197 :: u198 :: u199 :: u200 :: u201 :: u202 :: u203 :: u204 :: u205 :: u206 :: u207 :: u208 :: u209 :: u210 :: x211 :: x212 :: x213 :: x214 :: x215 :: x216 :: x217 :: x218 :: x219 :: x220 :: x221 :: x222 :: x223 :: x224 :: x225 :: x226 :: x227 :: x228 :: x229 :: x230 :: x231 :: x232 :: x233 :: x234 :: x235 :: x236 :: x237 :: x238 :: x239 :: x240 :: x241 :: x242 :: x243 :: x244 :: x245 :: x246 :: x247 :: u248 :: u249 :: u250 :: u251 :: u252 :: u253 :: u254 :: u255 :: u256 :: u257 :: u258 :: u259 :: u260 :: u261 :: u262 :: u263 :: u264 :: u265 :: u266 :: u267 :: u268 :: u269 :: u270 :: u271 :: u272 :: u273 :: u274 :: u275 :: u276 :: u277 :: u278 :: u279 :: u280 :: u281 :: u282 :: u283 :: u284 :: u285 :: u286 :: u287 :: u288 :: u289 :: u290 :: u291 :: u292 :: u293 :: u294 :: u295 :: u296 :: u297 :: u298 :: u299 :: u300 :: u301 :: u302 :: u303 :: u304 :: u305 :: u306 :: u307 :: u308 :: u309 :: u310 :: u311 :: u312 :: u313 :: u314 :: u315 :: u316 :: u317 :: u318 :: u319 :: u320 :: u321 :: u322 :: u323 :: u324 :: u325 :: u326 :: u327 :: u328 :: u329 :: u330 :: u331 :: u332 :: u333 :: u334 :: u335 :: u336 :: u337 :: []).toArray, defers := [] } w') :
    Code.wp Tryd.prog dpX30 (Exit.then K Q0) { tmps := (u0 :: .pointer (some ⟨b0, 0, none⟩) :: u2 :: u3 :: u4 :: u5 :: u6 :: u7 :: u8 :: .slice (some ⟨gb, 0, none⟩) (n + 1) (n + 1) :: u10 :: .int .i64 (e : Nat) :: u12 :: u13 :: u14 :: u15 :: u16 :: .int .i64 ((e : Nat) + x.pitch) :: .int .i64 wv :: u19 :: u20 :: u21 :: u22 :: u23 :: u24 :: u25 :: u26 :: u27 :: u28 :: u29 :: u30 :: u31 :: u32 :: u33 :: u34 :: u35 :: u36 :: u37 :: u38 :: u39 :: u40 :: u41 :: u42 :: u43 :: u44 :: u45 :: u46 :: u47 :: u48 :: u49 :: u50 :: u51 :: u52 :: u53 :: u54 :: u55 :: u56 :: u57 :: u58 :: u59 :: u60 :: u61 :: u62 :: u63 :: u64 :: u65 :: u66 :: u67 :: u68 :: u69 :: u70 :: u71 :: u72 :: u73 :: u74 :: u75 :: u76 :: u77 :: u78 :: u79 :: u80 :: u81 :: u82 :: u83 :: u84 :: u85 :: u86 :: u87 :: u88 :: u89 :: u90 :: u91 :: u92 :: u93 :: u94 :: u95 :: u96 :: u97 :: u98 :: u99 :: u100 :: u101 :: u102 :: u103 :: u104 :: u105 :: u106 :: u107 :: u108 :: u109 :: u110 :: u111 :: u112 :: u113 :: u114 :: u115 :: u116 :: u117 :: u118 :: u119 :: u120 :: u121 :: u122 :: u123 :: u124 :: u125 :: u126 :: u127 :: u128 :: u129 :: u130 :: u131 :: u132 :: u133 :: u134 :: u135 :: u136 :: u137 :: u138 :: u139 :: u140 :: u141 :: u142 :: u143 :: u144 :: u145 :: u146 :: u147 :: u148 :: u149 :: u150 :: u151 :: u152 :: u153 :: u154 :: u155 :: u156 :: u157 :: u158 :: u159 :: u160 :: u161 :: u162 :: u163 :: u164 :: u165 :: u166 :: u167 :: u168 :: u169 :: u170 :: u171 :: u172 :: u173 :: u174 :: u175 :: u176 :: u177 :: u178 :: u179 :: u180 :: u181 :: u182 :: u183 :: u184 :: u185 :: u186 :: u187 :: u188 :: u189 :: u190 :: u191 :: u192 :: u193 :: u194 :: u195 :: u196 :: u197 :: u198 :: u199 :: u200 :: u201 :: u202 :: u203 :: u204 :: u205 :: u206 :: u207 :: u208 :: u209 :: u210 :: u211 :: u212 :: u213 :: u214 :: u215 :: u216 :: u217 :: u218 :: u219 :: u220 :: u221 :: u222 :: u223 :: u224 :: u225 :: u226 :: u227 :: u228 :: u229 :: u230 :: u231 :: u232 :: u233 :: u234 :: u235 :: u236 :: u237 :: u238 :: u239 :: u240 :: u241 :: u242 :: u243 :: u244 :: u245 :: u246 :: u247 :: u248 :: u249 :: u250 :: u251 :: u252 :: u253 :: u254 :: u255 :: u256 :: u257 :: u258 :: u259 :: u260 :: u261 :: u262 :: u263 :: u264 :: u265 :: u266 :: u267 :: u268 :: u269 :: u270 :: u271 :: u272 :: u273 :: u274 :: u275 :: u276 :: u277 :: u278 :: u279 :: u280 :: u281 :: u282 :: u283 :: u284 :: u285 :: u286 :: u287 :: u288 :: u289 :: u290 :: u291 :: u292 :: u293 :: u294 :: u295 :: u296 :: u297 :: u298 :: u299 :: u300 :: u301 :: u302 :: u303 :: u304 :: u305 :: u306 :: u307 :: u308 :: u309 :: u310 :: u311 :: u312 :: u313 :: u314 :: u315 :: u316 :: u317 :: u318 :: u319 :: u320 :: u321 :: u322 :: u323 :: u324 :: u325 :: u326 :: u327 :: u328 :: u329 :: u330 :: u331 :: u332 :: u333 :: u334 :: u335 :: u336 :: u337 :: []).toArray, defers := [] } w1 := by
  conv => arg 2; whnf
  have ey := (rfl : dpY30 = dpY30)
  conv at ey => rhs; whnf
  rw [ey] at hK
  clear ey
  have HEX := Aside0.mk hexit
  clear hexit
  have hcl : ((e : Int) + x.pitch).toNat < n + 1 := by have := HNL.out; omega
  have hne : e ≠ ((e : Int) + x.pitch).toNat := by omega
  have hle : e < n + 1 := by omega
  have hi1 : (e : Int) < (n : Int) + 1 := by omega
  have hi2 : (e : Int) + x.pitch < (n : Int) + 1 := by have := HNL.out; omega
  have hi3 : 0 ≤ (e : Int) + x.pitch := by omega
  obtain ⟨nx, hnx⟩ : ∃ nx, nx = rd_Ch BL (e + x.pitch) := ⟨_, rfl⟩
  have HNX := Aside0.mk hnx
  have hC := ch_cell HBB.out ((e : Int) + x.pitch).toNat (by rw [List.length_set, HBL.out]; exact hcl)
  rw [getD_set_ne hne, show BL.getD ((e : Int) + x.pitch).toNat zCh = nx from hnx.symm] at hC
  have hE0 := ch_cell HBB.out e (by rw [List.length_set, HBL.out]; exact hle)
  rw [getD_set_self (by rw [HBL.out]; exact hle)] at hE0
  obtain ⟨hn0, hn1, hn2⟩ := hC
  obtain ⟨hb0, hb1, hb2⟩ := hE0
  have HT := Aside0.mk (show behind2 x ch BL e b = if isN nx = false ∧ (isN b = true ∨ b.value < wrap64 (wv + nx.value)) then ⟨nx.piece, wrap64 (wv + nx.value)⟩ else b by unfold behind2; rw [HNX.out, HWV.out])
  clear hnx hne hcl
  obtain ⟨R, hR⟩ : ∃ R, R = behind2 x ch BL e b := ⟨_, rfl⟩
  rw [← hR] at HT HEX
  clear hR
  go_upto_region 31 with (fail)
  have HN := Aside0.mk (blk_new w1 (.cells #[.int .i64 nx.piece.size, .int .i64 nx.piece.pos, .int .i64 nx.value] 165))
  have HB2 := Aside0.mk (below_alloc HB.out (.cells #[.int .i64 nx.piece.size, .int .i64 nx.piece.pos, .int .i64 nx.value] 165))
  have HBB2 := Aside0.mk (show ChBlk (w1.alloc (.cells #[.int .i64 nx.piece.size, .int .i64 nx.piece.pos, .int .i64 nx.value] 165)) gb (BL.set e b) from blk_alloc HBB.out (.cells #[.int .i64 nx.piece.size, .int .i64 nx.piece.pos, .int .i64 nx.value] 165))
  have HKK := Aside0.mk (keep_alloc (KeepBut.refl w1 gb none) (.cells #[.int .i64 nx.piece.size, .int .i64 nx.piece.pos, .int .i64 nx.value] 165))
  clear HB HBB hn0 hn1 hn2 hb0 hb1 hb2
  generalize w1.alloc (.cells #[.int .i64 nx.piece.size, .int .i64 nx.piece.pos, .int .i64 nx.value] 165) = w2 at *
  generalize w1.heap.size = gn at *
  have hn0 : w2.cell? ⟨gn, 0, none⟩ = some (.int .i64 nx.piece.size) := (blk_cell HN.out 0).trans rfl
  have hn1 : w2.cell? ⟨gn, 1, none⟩ = some (.int .i64 nx.piece.pos) := (blk_cell HN.out 1).trans rfl
  have hn2 : w2.cell? ⟨gn, 2, none⟩ = some (.int .i64 nx.value) := (blk_cell HN.out 2).trans rfl
  have hE0 := ch_cell HBB2.out e (by rw [List.length_set, HBL.out]; exact hle)
  rw [getD_set_self (by rw [HBL.out]; exact hle)] at hE0
  obtain ⟨hb0, hb1, hb2⟩ := hE0
  have hz0 := pw_cell_below HB2.out HN0.out
  have hz1 := pw_cell_below HB2.out HN1.out
  have hz2 := pw_cell_below HB2.out HN2.out
  have hE := chE nx
  have hEb := chE b
  have hG1 := fun x y a b w => guardCh .neq x y a b w
  have hG2 := fun x y a b w => guardCh .eql x y a b w
  obtain ⟨v, hv⟩ : ∃ v, v = wrap64 (wv + nx.value) := ⟨_, rfl⟩
  rw [← hv] at HT
  have HV := Aside0.mk hv.symm
  have hW : IntKind.i64.wrap (wv + nx.value) = v := by rw [hv, IntKind.wrap_i64]; unfold wrap64; omega
  clear hv
  have hf0 := ch_frozen HBB2.out (e * 3)
  have hf1 := ch_frozen HBB2.out (e * 3 + 1)
  have hf2 := ch_frozen HBB2.out (e * 3 + 2)
  cases qn : isN nx with
  | true =>
    have HTk := Aside0.mk (show R = b from HT.out.trans (if_neg (by rw [qn]; simp)))
    rw [qn] at hE
    go_quiet (fail)
    go_wp2_with fail
    exact HEX.out _ _ _ _ _ _ _ _ _ _ _ _ _ _ _ _ _ _ _ _ _ _ _ _ _ _ _ _ _ _ _ _ _ _ _ _ _ _ _ (keep_drewN HKK.out _) (pw_below_drewN HB2.out _) (by rw [HTk.out]; exact ch_drewN HBB2.out _)
  | false =>
    rw [qn] at hE
    cases qb : isN b with
    | true =>
      have HTk := Aside0.mk (show R = ⟨nx.piece, v⟩ from HT.out.trans (if_pos ⟨qn, Or.inl qb⟩))
      rw [qb] at hEb
      go_quiet (fail)
      clear hW
      have hW := HV.out
      go_wp2_with fail
      exact HEX.out _ _ _ _ _ _ _ _ _ _ _ _ _ _ _ _ _ _ _ _ _ _ _ _ _ _ _ _ _ _ _ _ _ _ _ _ _ _ _ (((keep_drewN HKK.out _).set_ _ _).set_ _ _ |>.set_ _ _) (below_set (below_set (below_set (pw_below_drewN HB2.out _) hgb) hgb) hgb) (by rw [HTk.out]; exact ch_turn2 HBB2.out (by rw [HBL.out]; exact hle) _ ⟨nx.piece, v⟩)
    | false =>
      rw [qb] at hEb
      by_cases qv : b.value < v
      · have HTk := Aside0.mk (show R = ⟨nx.piece, v⟩ from HT.out.trans (if_pos ⟨qn, Or.inr qv⟩))
        go_quiet (fail)
        clear hW
        have hW := HV.out
        go_wp2_with fail
        exact HEX.out _ _ _ _ _ _ _ _ _ _ _ _ _ _ _ _ _ _ _ _ _ _ _ _ _ _ _ _ _ _ _ _ _ _ _ _ _ _ _ (((keep_drewN HKK.out _).set_ _ _).set_ _ _ |>.set_ _ _) (below_set (below_set (below_set (pw_below_drewN HB2.out _) hgb) hgb) hgb) (by rw [HTk.out]; exact ch_turn2 HBB2.out (by rw [HBL.out]; exact hle) _ ⟨nx.piece, v⟩)
      · have HTk := Aside0.mk (show R = b from HT.out.trans (if_neg (by rw [qb]; simp; omega)))
        have qv' : v ≤ b.value := by omega
        go_quiet (fail)
        go_wp2_with fail
        exact HEX.out _ _ _ _ _ _ _ _ _ _ _ _ _ _ _ _ _ _ _ _ _ _ _ _ _ _ _ _ _ _ _ _ _ _ _ _ _ _ _ (keep_drewN HKK.out _) (pw_below_drewN HB2.out _) (by rw [HTk.out]; exact ch_drewN HBB2.out _)
end Go.Proofs.YtngpoonjonojhaaDoor
