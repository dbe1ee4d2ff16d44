/-
  Several texts in one: PressLaw, AlikeLaw, PressRaw, PressRd.
-/
import Derived.Test.YtppnaofebkpbkaaMgB
import Derived.Test.YtppnaofebkpbkaaMgL
import Derived.Test.YtppnaofebkpbkaaMgH
import Derived.Test.YtppnaofebkpbkaaMgA
import Derived.Test.YtppnaofebkpbkaaRowN
import Derived.Lib.ItoaNum
import Derived.Test.YtppnaofebkpbkaaSlStr3
import Derived.Test.YtppnaofebkpbkaaTypes
import Derived.Test.YtppnaofebkpbkaaOpen2
import Derived.Test.YtppnaofebkpbkaaBookOne
import Derived.Test.YtppnaofebkpbkaaCodeRead
import Derived.Test.YtppnaofebkpbkaaSlCallV
/-
  press: the marks of a text as signs and pieces (no program).
-/
namespace Go.Proofs.Ytppnaofebkpbkaa.press
open Go.RowKit kit sl Go.Proofs.Ytppnaofebkpbkaa.flip
set_option linter.unusedVariables false
abbrev Mk := Int × Int × Int
/-- what is found in a text of 512 bytes at most -/
def MarkOk (m : Mk) : Prop := (m.1 = 0 ∧ m.2.1 = 0 ∧ 0 ≤ m.2.2 ∧ m.2.2 ≤ 255) ∨ (3 ≤ m.1 ∧ m.1 ≤ 66 ∧ 1 ≤ m.2.1 ∧ m.2.1 ≤ 511 ∧ m.2.2 = 0)
theorem step_ok {out : List UInt8} {m : Mk} (hg : lz.goodM m) (h : lz.stepE out m = 0) : MarkOk m := by
  unfold lz.stepE at h
  have hb : 0 ≤ m.2.2 ∧ m.2.2 ≤ 255 := by
    have := hg.2.2
    simp [Lit.wf, IntKind.min, IntKind.max, IntKind.signed, IntKind.bits] at this
    omega
  by_cases hc : lz.checkE m ≠ 0
  · rw [if_pos hc] at h
    exact absurd h hc
  · rw [if_neg hc] at h
    split at h
    · omega
    · split at h
      · omega
      · rename_i h1 h2
        have hc : lz.checkE m = 0 := by omega
        unfold lz.checkE at hc
        split at hc
        · rename_i h3
          split at hc
          · exact .inl ⟨h3, by assumption, hb⟩
          · omega
        · split at hc
          · omega
          · exact .inr ⟨by omega, by omega, by omega, by omega, by omega⟩
theorem marks_ok : ∀ (l : List Mk) (out x : List UInt8), (∀ m ∈ l, lz.goodM m) → lz.expF l out = (x, 0) → ∀ m ∈ l, MarkOk m
  | [], _, _, _, _, m, hm => absurd hm List.not_mem_nil
  | m :: l, out, x, hg, h, u, hu => by
    rw [lz.expF] at h
    by_cases hs : lz.stepE out m = 0
    · rw [if_pos hs] at h
      rcases List.mem_cons.1 hu with rfl | hu
      · exact step_ok (hg _ List.mem_cons_self) hs
      · exact marks_ok l _ x (fun v hv => hg v (List.mem_cons_of_mem _ hv)) h u hu
    · rw [if_neg hs] at h
      exact absurd (congrArg Prod.snd h) hs
/-! ### signs -/
def signX (m : Mk) : Nat := if m.1 = 0 then m.2.2.toNat else 253 + m.1.toNat
def logD (d : Int) : Nat := Lib.bitLen d.toNat - 1
theorem signX_lt {m : Mk} (h : MarkOk m) : signX m < 320 := by
  unfold signX
  rcases h with ⟨h1, h2, h3, h4⟩ | ⟨h1, h2, h3, h4, h5⟩
  · rw [if_pos h1]; omega
  · rw [if_neg (by omega)]; omega
theorem logD_is {d : Int} (h1 : 1 ≤ d) (h2 : d ≤ 511) : logD d < 9 ∧ (Lib.bitLen d.toNat : Int) - 1 = (logD d : Int) ∧ ((2 ^ logD d : Nat) : Int) ≤ d ∧ d < ((2 ^ (logD d + 1) : Nat) : Int) := by
  obtain ⟨n, rfl⟩ := Int.eq_ofNat_of_zero_le (by omega : 0 ≤ d)
  have hb := Lib.bitLenAux_bounds 64 n (by have : n < 512 := by omega
                                           exact Nat.lt_trans this (by decide)) (by omega)
  have e : Lib.bitLenAux 64 n = Lib.bitLen n := rfl
  rw [e] at hb
  unfold logD
  rw [Int.toNat_natCast]
  obtain ⟨h3, h4, h5⟩ := hb
  obtain ⟨k, hk⟩ : ∃ k, Lib.bitLen n = k + 1 := ⟨Lib.bitLen n - 1, by omega⟩
  rw [hk] at h4 h5 ⊢
  rw [Nat.add_sub_cancel] at h4 ⊢
  have hk9 : k < 9 := by
    rcases Nat.lt_or_ge k 9 with h | h
    · exact h
    · have : 2 ^ 9 ≤ 2 ^ k := Nat.pow_le_pow_right (by decide) h
      omega
  exact ⟨hk9, by omega, by omega, by omega⟩
/-- how often each sign comes -/
def cntX (l : List Mk) (i : Nat) : Nat := l.countP fun m => decide (signX m = i)
def cntY (l : List Mk) (i : Nat) : Nat := l.countP fun m => decide (m.1 ≠ 0 ∧ logD m.2.1 = i)
theorem cntX_next (l : List Mk) (m : Mk) : cntX (l ++ [m]) = upd1 (cntX l) (signX m) (cntX l (signX m) + 1) := by
  funext i
  unfold cntX upd1
  rw [List.countP_append]
  by_cases h : i = signX m
  · rw [if_pos h, h]; simp
  · rw [if_neg h]
    simp
    exact fun e => h e.symm
theorem cntY_copy (l : List Mk) (m : Mk) (h : m.1 ≠ 0) : cntY (l ++ [m]) = upd1 (cntY l) (logD m.2.1) (cntY l (logD m.2.1) + 1) := by
  funext i
  unfold cntY upd1
  rw [List.countP_append]
  by_cases h2 : i = logD m.2.1
  · rw [if_pos h2, h2]; simp [h]
  · rw [if_neg h2]
    simp
    exact fun _ e => h2 e.symm
theorem cntY_byte (l : List Mk) (m : Mk) (h : m.1 = 0) : cntY (l ++ [m]) = cntY l := by
  funext i
  unfold cntY
  rw [List.countP_append]
  simp [h]
theorem good_row {n : Nat} {B : Nat → Nat} (hn : n ≤ 320) (hB : ∀ i, B i ≤ 512) : huff.GoodF (rowN n B) := by
  refine ⟨by rw [rowN_len]; exact hn, fun f hf => ?_⟩
  unfold rowN at hf
  obtain ⟨i, _, rfl⟩ := List.mem_map.1 hf
  have := hB i
  omega
theorem lens_zero {F : List Int} (h : huff.GoodF F) : huff.lensE F 15 = 0 := by
  unfold huff.lensE
  rw [if_neg (by rw [huff.chk_zero.2 h]; simp), if_neg (by decide), if_neg]
  have h1 := huff.pos_len F F.length
  have h2 := h.1
  show ¬ 2 ^ 15 < _
  omega
theorem fill_pos {F : List Int} {l : Nat → Nat} (hl : ∀ i, i < F.length → (huff.lensL F 15)[i]? = some (l i : Int)) (ok : huff.LensOk F 15 l) : ∀ n, n ≤ F.length → lens.fillN ((huff.lensL F 15).take n) = pm.sumN (fun i => 2 ^ (15 - l i)) (huff.posF F n)
  | 0, _ => rfl
  | n + 1, h => by
    rw [List.take_add_one, hl n (by omega), lens.fillN_app, fill_pos hl ok n (by omega)]
    show _ + (lens.wt (l n : Int) + 0) = _
    by_cases hp : 0 < huff.wF F n
    · have hm : n ∈ huff.posF F F.length := huff.pos_mem.2 ⟨by omega, hp⟩
      have := (ok.right.1 n hm).1
      rw [huff.pos_next_t hp, pm.sumN_app]
      unfold lens.wt
      rw [if_pos (by omega), Int.toNat_natCast]
      rfl
    · have hm : n ∉ huff.posF F F.length := fun hm => hp (huff.pos_mem.1 hm).2
      rw [huff.pos_next_f hp, ok.none n hm]
      rfl
theorem lens_canon {F : List Int} (h : huff.lensE F 15 = 0) : lens.canonE (huff.lensL F 15) = 0 := by
  obtain ⟨l, hl, ok⟩ := huff.lens_ok h
  have hg := (huff.lensE_zero h).1
  have hle : (huff.lensL F 15).length = F.length := huff.lens_len F 15
  have e := huff.fill_ok (huff.lens_in h) (by rw [hle]; exact hg.1)
  have h2 := fill_pos hl ok F.length (Nat.le_refl _)
  rw [List.take_of_length_le (by omega)] at h2
  have h3 := ok.right.2
  unfold lens.canonE
  rw [e, if_neg (by decide), h2, if_neg]
  have : (2 : Nat) ^ (15 : Int).toNat = 32768 := rfl
  rw [this] at h3
  exact Nat.not_lt.2 h3
theorem has_sign {n i : Nat} {B : Nat → Nat} (hn : n ≤ 320) (hB : ∀ i, B i ≤ 512) (hi : i < n) (h : 0 < B i) : code.hasC (huff.lensL (rowN n B) 15) (i : Int) := by
  have hg := good_row hn hB
  obtain ⟨l, hl, ok⟩ := huff.lens_ok (lens_zero hg)
  have hw : huff.wF (rowN n B) i = (B i : Int) := by
    unfold huff.wF
    rw [List.getD_eq_getElem?_getD, rowN_at _ hi]
    rfl
  have hm : i ∈ huff.posF (rowN n B) (rowN n B).length := huff.pos_mem.2 ⟨by rw [rowN_len]; exact hi, by rw [hw]; omega⟩
  have h1 := (ok.right.1 i hm).1
  refine ⟨by omega, ?_⟩
  rw [Int.toNat_natCast, List.getD_eq_getElem?_getD, hl i (by rw [rowN_len]; exact hi)]
  show (l i : Int) ≠ 0
  omega
/-- a piece, with its word -/
theorem piece_is {l : List Int} {x : Int} (hc : lens.canonE l = 0) (h : code.hasC l x) : ∃ i w : Nat, x = (i : Int) ∧ l[i]? = some (w : Int) ∧ (1 ≤ w ∧ w ≤ 15) ∧ code.pieceC l x = (((flipN (lens.codeAt l i) w : Nat) : Int), (w : Int)) := by
  obtain ⟨h0, h1⟩ := h
  obtain ⟨hl, hb⟩ := code.canon_good hc
  obtain ⟨i, rfl⟩ := Int.eq_ofNat_of_zero_le h0
  rw [Int.toNat_natCast] at h1
  have hil : i < l.length := by
    rcases Nat.lt_or_ge i l.length with h | h
    · exact h
    · rw [List.getD_eq_getElem?_getD, List.getElem?_eq_none h] at h1
      exact absurd rfl h1
  obtain ⟨y, hy⟩ : ∃ y, l[i]? = some y := ⟨_, List.getElem?_eq_getElem hil⟩
  rw [List.getD_eq_getElem?_getD, hy] at h1
  obtain ⟨y0, y15⟩ := hb y (List.mem_of_getElem? hy)
  obtain ⟨w, rfl⟩ := Int.eq_ofNat_of_zero_le y0
  have h1 : ((w : Nat) : Int) ≠ 0 := h1
  exact ⟨i, w, rfl, hy, ⟨by omega, by omega⟩, code.piece_of hy⟩
/-- the pieces of a mark -/
def restD (d : Int) : Int := d - ((2 ^ logD d : Nat) : Int)
def pcs (A B : List Int) (m : Mk) : List (Int × Int) := code.pieceC A (signX m) :: (if m.1 = 0 then [] else [code.pieceC B (logD m.2.1), (restD m.2.1, (logD m.2.1 : Int))])
def freqX (l : List Mk) : List Int := rowN 320 (cntX l)
def freqY (l : List Mk) : List Int := rowN 9 (cntY l)
def la (l : List Mk) : List Int := huff.lensL (freqX l) 15
def lb (l : List Mk) : List Int := huff.lensL (freqY l) 15
structure Codes (A B : List Int) (l : List Mk) : Prop where
  ca : lens.canonE A = 0
  cb : lens.canonE B = 0
  ok : ∀ m ∈ l, MarkOk m
  hx : ∀ m ∈ l, code.hasC A (signX m : Int)
  hy : ∀ m ∈ l, m.1 ≠ 0 → code.hasC B (logD m.2.1 : Int)
theorem cntX_le (l : List Mk) (i : Nat) : cntX l i ≤ l.length := List.countP_le_length
theorem cntY_le (l : List Mk) (i : Nat) : cntY l i ≤ l.length := List.countP_le_length
theorem codes_of {l : List Mk} (h : ∀ m ∈ l, MarkOk m) (hl : l.length ≤ 512) : Codes (la l) (lb l) l where
  ca := lens_canon (lens_zero (good_row (by decide) fun i => Nat.le_trans (cntX_le l i) hl))
  cb := lens_canon (lens_zero (good_row (by decide) fun i => Nat.le_trans (cntY_le l i) hl))
  ok := h
  hx m hm := has_sign (by decide) (fun i => Nat.le_trans (cntX_le l i) hl) (signX_lt (h m hm)) (List.countP_pos_iff.2 ⟨m, hm, by simp⟩)
  hy m hm h0 := has_sign (by decide) (fun i => Nat.le_trans (cntY_le l i) hl) (by
    rcases h m hm with ⟨h1, _⟩ | ⟨h1, h2, h3, h4, _⟩
    · exact absurd h1 h0
    · exact (logD_is h3 h4).1) (List.countP_pos_iff.2 ⟨m, hm, by simp [h0]⟩)
def pieces (A B : List Int) (l : List Mk) : List (Int × Int) := l.flatMap (pcs A B)
theorem pieces_cons (A B : List Int) (m : Mk) (l : List Mk) : pieces A B (m :: l) = pcs A B m ++ pieces A B l := List.flatMap_cons
theorem pieces_app (A B : List Int) (l r : List Mk) : pieces A B (l ++ r) = pieces A B l ++ pieces A B r := List.flatMap_append
theorem rest_is {d : Int} (h1 : 1 ≤ d) (h2 : d ≤ 511) : ∃ r : Nat, restD d = (r : Int) ∧ r < 2 ^ logD d ∧ d = ((2 ^ logD d + r : Nat) : Int) := by
  obtain ⟨a, b, c, e⟩ := logD_is h1 h2
  unfold restD
  rw [Nat.pow_succ] at e
  refine ⟨(d - ((2 ^ logD d : Nat) : Int)).toNat, by omega, by omega, by omega⟩
theorem pcs_wf {A B : List Int} {l : List Mk} (h : Codes A B l) {m : Mk} (hm : m ∈ l) : ∀ p ∈ pcs A B m, ∃ a v : Nat, a < 2 ^ v ∧ v ≤ 15 ∧ p = ((a : Int), (v : Int)) := fun p hp => by
  rcases List.mem_cons.1 hp with rfl | hp
  · obtain ⟨i, w, _, _, hw, e⟩ := piece_is h.ca (h.hx m hm)
    exact ⟨_, w, flipN_lt _ _, hw.2, e⟩
  · by_cases h0 : m.1 = 0
    · rw [if_pos h0] at hp
      cases hp
    · rw [if_neg h0] at hp
      rcases List.mem_cons.1 hp with rfl | hp
      · obtain ⟨i, w, _, _, hw, e⟩ := piece_is h.cb (h.hy m hm h0)
        exact ⟨_, w, flipN_lt _ _, hw.2, e⟩
      · rw [List.mem_singleton.1 hp]
        rcases h.ok m hm with ⟨h1, _⟩ | ⟨_, _, h3, h4, _⟩
        · exact absurd h1 h0
        · obtain ⟨r, e1, e2, _⟩ := rest_is h3 h4
          have := (logD_is h3 h4).1
          exact ⟨r, logD m.2.1, e2, by omega, by rw [e1]⟩
theorem pcs_len (A B : List Int) (m : Mk) : (pcs A B m).length ≤ 3 := by
  unfold pcs
  split <;> simp
theorem pieces_len (A B : List Int) : ∀ l : List Mk, (pieces A B l).length ≤ 3 * l.length
  | [] => Nat.le_refl _
  | m :: l => by
    have h1 := pcs_len A B m
    have h2 := pieces_len A B l
    rw [pieces_cons, List.length_append, List.length_cons]
    omega
theorem pieces_wf {A B : List Int} {l : List Mk} (h : Codes A B l) : ∀ p ∈ pieces A B l, ∃ a v : Nat, a < 2 ^ v ∧ v ≤ 15 ∧ p = ((a : Int), (v : Int)) := fun p hp => by
  obtain ⟨m, hm, hp⟩ := List.mem_flatMap.1 hp
  exact pcs_wf h hm p hp
theorem pack_ok {A B : List Int} {l : List Mk} (h : Codes A B l) (hl : l.length ≤ 512) : bits.packErr (pieces A B l) = 0 := by
  obtain ⟨h1, h2⟩ := code.err_zero (pieces_wf h)
  have h3 := pieces_len A B l
  unfold bits.packErr
  rw [h1, if_neg (by simp), if_neg (by omega)]
/-! ### reading -/
/-- from bit k on the text has just these pieces, and less than a byte behind them -/
structure Stands (t : List UInt8) (k : Nat) (ps : List (Int × Int)) : Prop where
  num : bits.leN t / 2 ^ k = bits.packN ps
  fits : k + bits.total ps ≤ 8 * t.length
  tight : 8 * t.length < k + bits.total ps + 8
theorem stands_start {ps : List (Int × Int)} (h : ∀ p ∈ ps, ∃ a v : Nat, a < 2 ^ v ∧ v ≤ 15 ∧ p = ((a : Int), (v : Int))) : Stands (bits.packB ps) 0 ps := by
  have h1 := (code.err_zero h).1
  have h2 := bits.packN_lt ps (fun p hp => by
    obtain ⟨a, v, _, _, rfl⟩ := h p hp
    exact Int.natCast_nonneg a) h1
  have hlen : (bits.packB ps).length = (bits.total ps + 7) / 8 := by unfold bits.packB; rw [bits.toLE_len]
  refine ⟨?_, by rw [hlen]; omega, by rw [hlen]; omega⟩
  unfold bits.packB
  rw [bits.leN_toLE, Nat.pow_zero, Nat.div_one]
  apply Nat.mod_eq_of_lt
  have h3 : (256 : Nat) ^ ((bits.total ps + 7) / 8) = 2 ^ (8 * ((bits.total ps + 7) / 8)) := by rw [Nat.pow_mul]
  have h4 : 2 ^ bits.total ps ≤ 2 ^ (8 * ((bits.total ps + 7) / 8)) := Nat.pow_le_pow_right (by decide) (by omega)
  omega
theorem stands_next {t : List UInt8} {k a v : Nat} {ps : List (Int × Int)} (h : Stands t k (((a : Int), (v : Int)) :: ps)) (ha : a < 2 ^ v) : bits.leN t / 2 ^ k % 2 ^ v = a ∧ k + v ≤ 8 * t.length ∧ Stands t (k + v) ps := by
  obtain ⟨h1, h2, h3⟩ := h
  rw [bits.packN] at h1
  rw [bits.total] at h2 h3
  simp only [Int.toNat_natCast] at h1 h2 h3
  refine ⟨?_, by omega, ?_, by omega, by omega⟩
  · rw [h1, Nat.add_mul_mod_self_left, Nat.mod_eq_of_lt ha]
  · rw [Nat.pow_add, ← Nat.div_div_eq_div_mul, h1, Nat.add_mul_div_left _ _ (Nat.two_pow_pos _), Nat.div_eq_of_lt ha, Nat.zero_add]
theorem stands_word {l : List Int} {t : List UInt8} {k : Nat} {x : Int} {ps : List (Int × Int)} (hc : lens.canonE l = 0) (hx : code.hasC l x) (h : Stands t k (code.pieceC l x :: ps)) : ∃ w : Nat, code.one l t k = (x, k + w, 0) ∧ k + w ≤ 8 * t.length ∧ Stands t (k + w) ps := by
  obtain ⟨i, w, rfl, hi, hw, e⟩ := piece_is hc hx
  rw [e] at h
  obtain ⟨h1, h2, h3⟩ := stands_next h (flipN_lt _ _)
  exact ⟨w, code.one_reads hc hi hw.1 h1 h2, h2, h3⟩
theorem stands_end {t : List UInt8} {k : Nat} (h : Stands t k []) : bits.leN t / 2 ^ k = 0 ∧ k ≤ 8 * t.length ∧ 8 * t.length < k + 8 := ⟨h.num, h.fits, h.tight⟩
/-- what the third form says -/
def markedB (s : List UInt8) (l : List Mk) : List UInt8 := 2 :: put.putB s.length ++ put.putB l.length ++ runs.writeB (la l) ++ runs.writeB (lb l) ++ bits.packB (pieces (la l) (lb l) l)
theorem put_len (n : Nat) : 1 ≤ (put.putB n).length ∧ (put.putB n).length ≤ 11 := put.putF_len 10 n
theorem wF_len : ∀ (f : Nat) (l : List Int), (runs.wF f l).length ≤ l.length
  | 0, _ => by rw [runs.wF]; exact Nat.zero_le _
  | f + 1, [] => by rw [runs.wF]; exact Nat.zero_le _
  | f + 1, x :: l => by
    have h := wF_len f (l.drop (runs.lead 15 x l))
    rw [List.length_drop] at h
    rw [runs.wF, List.length_cons, List.length_cons]
    omega
theorem writeB_len (l : List Int) : (runs.writeB l).length ≤ 11 + l.length := by
  have h1 := put_len l.length
  have h2 := wF_len l.length l
  unfold runs.writeB
  rw [List.length_append]
  omega
theorem packB_len {A B : List Int} {l : List Mk} (h : Codes A B l) (hl : l.length ≤ 512) : (bits.packB (pieces A B l)).length ≤ 2881 := by
  obtain ⟨h1, h2⟩ := code.err_zero (pieces_wf h)
  have h3 := pieces_len A B l
  unfold bits.packB
  rw [bits.toLE_len]
  omega
end Go.Proofs.Ytppnaofebkpbkaa.press
/-
  press: a byte again and again takes a hundred bytes at most (no program).
-/
namespace Go.Proofs.Ytppnaofebkpbkaa.press
open Go.RowKit kit sl
set_option linter.unusedVariables false
/-! ### few marks -/
theorem copy_alike (b : UInt8) : ∀ (k j : Nat), 1 ≤ j → lz.copyF k 1 (List.replicate j b) = List.replicate (j + k) b
  | 0, j, _ => rfl
  | k + 1, j, h => by
    rw [lz.copyF]
    have e : (List.replicate j b).getD ((List.replicate j b).length - 1) 0 = b := by
      rw [List.length_replicate, List.getD_eq_getElem?_getD, List.getElem?_replicate, if_pos (by omega)]
      rfl
    rw [e, show List.replicate j b ++ [b] = List.replicate (j + 1) b from (List.replicate_succ' ..).symm, copy_alike b k (j + 1) (by omega), show j + 1 + k = j + (k + 1) by omega]
def cps (m : Nat) : Nat → List Mk
  | 0 => []
  | i + 1 => ((((m + i) / 8 : Nat) : Int), 1, 0) :: cps m i
def sumC (m : Nat) : Nat → Nat
  | 0 => 0
  | i + 1 => (m + i) / 8 + sumC m i
theorem cps_exp (b : UInt8) (m : Nat) (hm : 24 ≤ m) (hm2 : m ≤ 511) : ∀ i j, i ≤ 8 → 1 ≤ j → j + sumC m i ≤ 512 → lz.expF (cps m i) (List.replicate j b) = (List.replicate (j + sumC m i) b, 0)
  | 0, j, _, _, _ => rfl
  | i + 1, j, hi, hj, hl => by
    rw [sumC] at hl ⊢
    have h1 : 3 ≤ (m + i) / 8 := by omega
    have h2 : (m + i) / 8 ≤ 66 := by omega
    rw [cps, lz.expF]
    have hs : lz.stepE (List.replicate j b) ((((m + i) / 8 : Nat) : Int), 1, 0) = 0 := by
      unfold lz.stepE
      have hc : lz.checkE ((((m + i) / 8 : Nat) : Int), 1, 0) = 0 := by
        unfold lz.checkE
        rw [if_neg (by dsimp only; omega), if_neg (by dsimp only; omega)]
      rw [hc, if_neg (by simp), List.length_replicate, if_neg (by dsimp only; omega), if_neg (by dsimp only; omega)]
    rw [if_pos hs]
    have ho : lz.stepO (List.replicate j b) ((((m + i) / 8 : Nat) : Int), 1, 0) = List.replicate (j + (m + i) / 8) b := by
      unfold lz.stepO
      rw [if_neg (by dsimp only; omega)]
      exact copy_alike b _ j hj
    rw [ho, cps_exp b m hm hm2 i (j + (m + i) / 8) (by omega) (by omega) (by omega), Nat.add_assoc]
theorem cps_len (m : Nat) : ∀ i, (cps m i).length = i
  | 0 => rfl
  | i + 1 => by rw [cps, List.length_cons, cps_len m i]
theorem cps_good (m : Nat) (hm : m ≤ 511) : ∀ i, i ≤ 8 → ∀ c ∈ cps m i, lz.goodM c
  | 0, _, c, h => absurd h List.not_mem_nil
  | i + 1, hi, c, h => by
    rcases List.mem_cons.1 h with rfl | h
    · have : (m + i) / 8 ≤ 66 := by omega
      refine ⟨?_, rfl, rfl⟩
      simp [Lit.wf, IntKind.min, IntKind.max, IntKind.signed, IntKind.bits]
      omega
    · exact cps_good m hm i (by omega) c h
theorem sum_some (q r : Nat) (hr : r < 8) : ∀ i, i ≤ 8 → sumC (8 * q + r) i = i * q + (i + r - 8)
  | 0, _ => by rw [sumC, Nat.zero_mul]; omega
  | i + 1, h => by
    have e : (i + 1) * q = i * q + q := Nat.succ_mul i q
    rw [sumC, sum_some q r hr i (by omega), e]
    generalize i * q = x
    omega
theorem sum_eight (m : Nat) : sumC m 8 = m := by
  have h := sum_some (m / 8) (m % 8) (by omega) 8 (Nat.le_refl _)
  rw [show 8 * (m / 8) + m % 8 = m by omega] at h
  omega
theorem few_marks {b : UInt8} {n : Nat} {out : List Mk} (hn : 128 ≤ n) (hn2 : n ≤ 512) (hF : lz.Found (List.replicate n b) out) : out.length ≤ 9 := by
  have h := hF.2.2.2 ((0, 0, (b.toNat : Int)) :: cps (n - 1) 8) (fun c hc => by
    rcases List.mem_cons.1 hc with rfl | hc
    · exact ⟨rfl, rfl, lz.u8_wf b⟩
    · exact cps_good (n - 1) (by omega) 8 (Nat.le_refl _) c hc) (by
    unfold lz.expB
    rw [lz.expF]
    have hs : lz.stepE [] (0, 0, (b.toNat : Int)) = 0 := by
      unfold lz.stepE
      have hc : lz.checkE (0, 0, (b.toNat : Int)) = 0 := by
        unfold lz.checkE
        rw [if_pos rfl, if_pos rfl]
      rw [hc, if_neg (by simp), if_neg (by simp), if_neg (by show ¬ (512 : Int) < 0 + max 1 0; decide)]
    rw [if_pos hs]
    have ho : lz.stepO [] (0, 0, (b.toNat : Int)) = List.replicate 1 b := by
      unfold lz.stepO
      rw [if_pos rfl]
      show [UInt8.ofNat b.toNat] = [b]
      rw [UInt8.ofNat_toNat]
    have e : 1 + sumC (n - 1) 8 = n := by rw [sum_eight]; omega
    rw [ho, cps_exp b (n - 1) (by omega) (by omega) 8 1 (Nat.le_refl _) (Nat.le_refl _) (by rw [e]; exact hn2), e])
  rw [List.length_cons, cps_len] at h
  exact h
/-! ### few signs -/
theorem count_one (a : Nat) : ∀ n, (List.range n).countP (fun i => decide (i = a)) ≤ 1 ∧ (n ≤ a → (List.range n).countP (fun i => decide (i = a)) = 0)
  | 0 => by simp
  | n + 1 => by
    have h := count_one a n
    rw [List.range_succ, List.countP_append, List.countP_cons, List.countP_nil]
    by_cases hn : n = a
    · have := h.2 (by omega)
      rw [this]
      refine ⟨by split <;> omega, fun h2 => by omega⟩
    · rw [decide_eq_false hn, if_neg (by simp)]
      exact ⟨by have := h.1; omega, fun h2 => by have := h.2 (by omega); omega⟩
theorem countP_or (p q : Nat → Bool) : ∀ l : List Nat, l.countP (fun i => p i || q i) ≤ l.countP p + l.countP q
  | [] => by simp
  | x :: l => by
    have h := countP_or p q l
    simp only [List.countP_cons]
    cases p x <;> cases q x <;> simp <;> omega
theorem few_signs (f : Mk → Nat) (g : Mk → Bool) (n : Nat) : ∀ l : List Mk, (List.range n).countP (fun i => decide (0 < l.countP fun m => g m && decide (f m = i))) ≤ l.length
  | [] => by simp
  | m :: l => by
    have h := few_signs f g n l
    have h1 := countP_or (fun i => decide (0 < l.countP fun m => g m && decide (f m = i))) (fun i => decide (i = f m)) (List.range n)
    have h2 := (count_one (f m) n).1
    have h3 : (List.range n).countP (fun i => decide (0 < (m :: l).countP fun m => g m && decide (f m = i))) ≤ (List.range n).countP (fun i => decide (0 < l.countP fun m => g m && decide (f m = i)) || decide (i = f m)) := by
      apply List.countP_mono_left
      intro i _ hi
      rw [decide_eq_true_eq, List.countP_cons] at hi
      rw [Bool.or_eq_true, decide_eq_true_eq, decide_eq_true_eq]
      by_cases e : i = f m
      · exact .inr e
      · refine .inl ?_
        have : (g m && decide (f m = i)) = false := by simp; exact fun _ => fun h => e h.symm
        rw [this] at hi
        simpa using hi
    rw [List.length_cons]
    omega
/-- of lengths as many are not nought as there are signs that come -/
theorem nz_take {F : List Int} {l : Nat → Nat} (hl : ∀ i, i < F.length → (huff.lensL F 15)[i]? = some (l i : Int)) (ok : huff.LensOk F 15 l) : ∀ n, n ≤ F.length → runs.nz ((huff.lensL F 15).take n) ≤ (huff.posF F n).length
  | 0, _ => Nat.le_refl _
  | n + 1, h => by
    have ih := nz_take hl ok n (by omega)
    rw [List.take_add_one, hl n (by omega)]
    have hap : ∀ a b : List Int, runs.nz (a ++ b) = runs.nz a + runs.nz b := fun a b => by
      induction a with
      | nil => simp [runs.nz]
      | cons x a ih => rw [List.cons_append, runs.nz, runs.nz, ih, Nat.add_assoc]
    rw [hap]
    by_cases hp : 0 < huff.wF F n
    · rw [huff.pos_next_t hp, List.length_append]
      show _ + ((if (l n : Int) = 0 then 0 else 1) + 0) ≤ _ + 1
      split <;> omega
    · have hm : n ∉ huff.posF F F.length := fun hm => hp (huff.pos_mem.1 hm).2
      rw [huff.pos_next_f hp, ok.none n hm]
      exact ih
theorem nz_lens {n : Nat} {B : Nat → Nat} (hn : n ≤ 320) (hB : ∀ i, B i ≤ 512) : runs.nz (huff.lensL (rowN n B) 15) ≤ (List.range n).countP fun i => decide (0 < B i) := by
  have hg := good_row hn hB
  obtain ⟨l, hl, ok⟩ := huff.lens_ok (lens_zero hg)
  have h := nz_take hl ok n (by rw [rowN_len]; exact Nat.le_refl _)
  rw [List.take_of_length_le (by rw [huff.lens_len, rowN_len]; exact Nat.le_refl _)] at h
  refine Nat.le_trans h ?_
  unfold huff.posF
  rw [← List.countP_eq_length_filter]
  apply List.countP_mono_left
  intro i hi
  have hin := List.mem_range.1 hi
  have hw : huff.wF (rowN n B) i = (B i : Int) := by
    unfold huff.wF
    rw [List.getD_eq_getElem?_getD, rowN_at _ hin]
    rfl
  rw [hw]
  simp
/-! ### few bits -/
theorem pcs_total {A B : List Int} {l : List Mk} (h : Codes A B l) {m : Mk} (hm : m ∈ l) : bits.total (pcs A B m) ≤ 38 := by
  unfold pcs
  obtain ⟨i, w, _, _, hw, e⟩ := piece_is h.ca (h.hx m hm)
  rw [e]
  by_cases h0 : m.1 = 0
  · rw [if_pos h0]
    simp only [bits.total, Int.toNat_natCast]
    omega
  · rw [if_neg h0]
    obtain ⟨i2, w2, _, _, hw2, e2⟩ := piece_is h.cb (h.hy m hm h0)
    rw [e2]
    have hy : logD m.2.1 < 9 := by
      rcases h.ok m hm with ⟨h1, _⟩ | ⟨_, _, h3, h4, _⟩
      · exact absurd h1 h0
      · exact (logD_is h3 h4).1
    simp only [bits.total, Int.toNat_natCast]
    omega
theorem pieces_total {A B : List Int} {L : List Mk} (h : Codes A B L) : ∀ l : List Mk, (∀ m ∈ l, m ∈ L) → bits.total (pieces A B l) ≤ 38 * l.length
  | [], _ => Nat.le_refl _
  | m :: l, hl => by
    have h1 := pcs_total h (hl m List.mem_cons_self)
    have h2 := pieces_total h l fun x hx => hl x (List.mem_cons_of_mem _ hx)
    rw [pieces_cons, bits.total_app, List.length_cons]
    omega
theorem alike_len {b : UInt8} {n : Nat} {out : List Mk} (hn : 128 ≤ n) (hn2 : n ≤ 512) (hF : lz.Found (List.replicate n b) out) : (markedB (List.replicate n b) out).length ≤ 100 := by
  have hk := few_marks hn hn2 hF
  have hok := marks_ok out [] _ hF.2.1 hF.1
  have hC := codes_of hok hF.2.2.1
  have hA : runs.nz (la out) ≤ 9 := by
    have h1 := nz_lens (n := 320) (B := cntX out) (by decide) fun i => Nat.le_trans (cntX_le out i) hF.2.2.1
    have h2 := few_signs signX (fun _ => true) 320 out
    simp only [Bool.true_and] at h2
    unfold la freqX
    exact Nat.le_trans h1 (Nat.le_trans h2 hk)
  have hAl : (la out).length = 320 := by unfold la; rw [huff.lens_len]; exact rowN_len _ _
  have hBl : (lb out).length = 9 := by unfold lb; rw [huff.lens_len]; exact rowN_len _ _
  have w1 := runs.writeB_nz (la out) (by omega)
  have w2 : (runs.writeB (lb out)).length ≤ 10 := by
    have h1 := runs.putB_one (lb out).length (by omega)
    have h2 := wF_len (lb out).length (lb out)
    unfold runs.writeB
    rw [List.length_append]
    omega
  have p1 := runs.putB_two n (by omega)
  have p2 := runs.putB_one out.length (by omega)
  have t := pieces_total hC out fun m hm => hm
  have hpl : (bits.packB (pieces (la out) (lb out) out)).length ≤ 43 := by
    unfold bits.packB
    rw [bits.toLE_len]
    omega
  unfold markedB
  rw [List.length_replicate]
  simp only [List.length_append, List.length_cons]
  omega
end Go.Proofs.Ytppnaofebkpbkaa.press
/-
  press: the reader's number; press.Open of a text in the second form.
-/
namespace Go.Proofs.Ytppnaofebkpbkaa.press
open Go.RowKit kit sl Go.Proofs.Ytppnaofebkpbkaa.put Go.Proofs.Ytppnaofebkpbkaa.get
set_option linter.unusedVariables false
theorem put_ct (n : Nat) (hn : n < 18446744073709551616) : Ct Try.prog 17 [.int .u64 (n : Int)] [] fun v H' => v = .string (str (putB n)) ∧ H' = [] :=
  ct_of_calls fun W _ => (put_any n hn W).mono fun e' w' ⟨h1, h2⟩ => ⟨by rw [h1], h2⟩
theorem get_ok {l : List UInt8} {n k : Nat} (h : l.length ≤ 1000000000000000) (e : getB l = (n, k, 0)) : Ct Try.prog 44 [.string (str l)] [] fun v H' => v = .tuple #[.int .u64 (n : Int), .int .i64 (k : Int), .int .i64 0] ∧ H' = [] :=
  ct_of_calls fun W _ => (get_any (str l) (by rw [str_size]; unfold maxLen; omega) W).mono fun e' w' ⟨h1, h2⟩ => ⟨by
    have h3 : getB (str l).data.toList = (n, k, 0) := e
    rw [h1, h3]; rfl, by rw [← h2]; exact Below.refl _ _⟩
theorem get_no {l : List UInt8} {m : Nat} (h : l.length ≤ 1000000000000000) (e : getB l = (0, 0, m)) : Ct Try.prog 44 [.string (str l)] [] fun v H' => v = .tuple #[.int .u64 0, .int .i64 0, .int .i64 (m : Int)] ∧ H' = [] :=
  ct_of_calls fun W _ => (get_any (str l) (by rw [str_size]; unfold maxLen; omega) W).mono fun e' w' ⟨h1, h2⟩ => ⟨by
    have h3 : getB (str l).data.toList = (0, 0, m) := e
    rw [h1, h3]; rfl, by rw [← h2]; exact Below.refl _ _⟩
attribute [local irreducible] box own sl old bptr eptr Qt Opr Run Cod Pst Drn
set_option maxRecDepth 100000 in
set_option maxHeartbeats 8000000 in
theorem num_ok (b : Nat) {l : List UInt8} {n k : Nat} (h : l.length ≤ 1000000000000000) (e : getB l = (n, k, 0)) (hk : k ≤ l.length) (hn : n ≤ 512) :
    Ct Try.prog 28 [bptr b 0, .int .u64 512] [box b [.string (str l), .bool false] 57] fun v H' => v = .int .i64 (n : Int) ∧ H' = [box b [.string (str (l.drop k)), .bool false] 57] := by
  have G0 := get_ok h e
  (refine spec_enter Try.func28 Try.ntmps28 rfl rfl fun Fr => ?_; dsimp only [List.cons_append, List.nil_append, ini, Nat.reduceAdd])
  (repeat' (first | (apply run_qg 1; (focus rfl); (focus exact wt); (focus rfl); (focus (exact qg1))) | (apply run_qg 2; (focus rfl); (focus exact wt); (focus rfl); (focus (first | exact qg2 | exact qs2))) | (apply run_qg 3; (focus rfl); (focus exact wt); (focus rfl); (focus (first | exact qg3 | exact qs3))) | (apply run_qg 4; (focus rfl); (focus exact wt); (focus rfl); (focus (first | exact qg4 | exact qs4))) | (apply run_qg 11; (focus rfl); (focus exact wt); (focus rfl); (focus (exact qs11))) | (apply run_qg 12; (focus rfl); (focus exact wt); (focus rfl); (focus (first | exact qs12 | exact q_cutp rfl rfl rfl rfl (by omega) (by omega) | exact q_slice_cap rfl rfl rfl rfl (by omega)))) | refine cod_seq ?_ | refine cod_region ?_ | refine run_nil ?_ | refine pst_then ?_ | (apply cod_cond_f; (focus rfl)) | refine cod_ret ?_ | refine cod_skip ?_ | (apply run_ong 9; (focus rfl); (focus exact wt); (focus (exact opr_store_box_one rfl rfl rfl rfl (by exact pka) rfl (by exact seta))); (rintro _ _ ⟨rfl, rfl⟩)) | (apply run_osg 7; (focus rfl); (focus exact wt); (focus rfl); (focus (exact opr_call_ls (by rfl) (G0 ..) (by rfl) lpa)); (rintro _ _ ⟨rfl, rfl⟩))))
  exact pst_fin rfl (by exact resa) _ (⟨rfl, rfl⟩) (by exact hsa)
set_option maxRecDepth 100000 in
set_option maxHeartbeats 8000000 in
theorem num_big (b : Nat) {l : List UInt8} {n k : Nat} (h : l.length ≤ 1000000000000000) (e : getB l = (n, k, 0)) (hn : 512 < n) :
    Ct Try.prog 28 [bptr b 0, .int .u64 512] [box b [.string (str l), .bool false] 57] fun v H' => v = .int .i64 0 ∧ H' = [box b [.string (str l), .bool true] 57] := by
  have G0 := get_ok h e
  (refine spec_enter Try.func28 Try.ntmps28 rfl rfl fun Fr => ?_; dsimp only [List.cons_append, List.nil_append, ini, Nat.reduceAdd])
  (repeat' (first | (apply run_qg 1; (focus rfl); (focus exact wt); (focus rfl); (focus (exact qg1))) | (apply run_qg 2; (focus rfl); (focus exact wt); (focus rfl); (focus (first | exact qg2 | exact qs2))) | (apply run_qg 3; (focus rfl); (focus exact wt); (focus rfl); (focus (first | exact qg3 | exact qs3))) | (apply run_qg 4; (focus rfl); (focus exact wt); (focus rfl); (focus (first | exact qg4 | exact qs4))) | refine cod_seq ?_ | refine cod_region ?_ | refine run_nil ?_ | refine pst_then ?_ | (apply cod_cond_t; (focus rfl)) | refine cod_ret ?_ | refine pst_then_ret ?_ | (apply run_ong 9; (focus rfl); (focus exact wt); (focus (exact opr_store_box_one rfl rfl rfl rfl (by exact pka) rfl (by exact seta))); (rintro _ _ ⟨rfl, rfl⟩)) | (apply run_osg 7; (focus rfl); (focus exact wt); (focus rfl); (focus (exact opr_call_ls (by rfl) (G0 ..) (by rfl) lpa)); (rintro _ _ ⟨rfl, rfl⟩))))
  exact pst_fin rfl (by exact resa) _ (⟨rfl, rfl⟩) (by exact hsa)
/-- what the second form says -/
def rawO (n : Nat) (r : List UInt8) : List UInt8 × Int := if n ≤ 512 ∧ r.length = n then (r, 0) else ([], 4)
set_option maxRecDepth 100000 in
set_option maxHeartbeats 8000000 in
theorem open_raw (l r : List UInt8) {n k : Nat} (h : l.length ≤ 1000000000000000) (e : getB l = (n, k, 0)) (hk : k ≤ l.length) (hr : l.drop k = r) :
    Ct Try.prog 18 [.string (str (1 :: l))] [] fun v H' => v = .tuple #[.string (str (rawO n r).1), .int .i64 (rawO n r).2] ∧ H' = [] := by
  have hl : (1 :: l).length = l.length + 1 := rfl
  have e0 : ((1 :: l) == []) = false := rfl
  have e1 : List.drop 1 (1 :: l) = l := rfl
  have e2 : (1 :: l)[0]? = some 1 := rfl
  have hu : UInt8.toNat 1 = 1 := rfl
  by_cases hn : n ≤ 512
  · have N0 := fun b => num_ok b h e hk hn
    rw [hr] at N0
    have hrl : r.length ≤ l.length := by rw [← hr, List.length_drop]; omega
    by_cases hrn : r.length = n
    · have ew : rawO n r = (r, 0) := by unfold rawO; rw [if_pos ⟨hn, hrn⟩]
      rw [ew]
      (refine spec_enter Try.func18 Try.ntmps18 rfl rfl fun Fr => ?_; dsimp only [List.cons_append, List.nil_append, ini, Nat.reduceAdd])
      (repeat' (first | (apply run_qg 1; (focus rfl); (focus exact wt); (focus rfl); (focus (exact qg1))) | (apply run_qg 4; (focus rfl); (focus exact wt); (focus rfl); (focus (first | exact qg4 | exact qs4))) | (apply run_qg 5; (focus rfl); (focus exact wt); (focus rfl); (focus (exact qg5))) | (apply run_qg 12; (focus rfl); (focus exact wt); (focus rfl); (focus (first | exact qs12 | exact q_cutp rfl rfl rfl rfl (by omega) (by omega) | exact q_slice_cap rfl rfl rfl rfl (by omega)))) | refine cod_seq ?_ | refine cod_region ?_ | refine run_nil ?_ | refine pst_then ?_ | (apply cod_cond_f; (focus rfl)) | refine cod_skip ?_ | (apply run_osg 8; (focus rfl); (focus exact wt); (focus rfl); (focus (exact opr_new rfl)); (rintro _ _ ⟨b, rfl, rfl⟩)) | (apply run_ong 9; (focus rfl); (focus exact wt); (focus (exact opr_store_box_agg rfl rfl rfl (by exact pka) rfl rfl rfl (by exact spla))); (rintro _ _ ⟨rfl, rfl⟩))))
      (refine run_os wt rfl (opr_call_l rfl (N0 _) rfl (by exact lpa)) ?_; rintro _ _ ⟨_, ⟨rfl, rfl⟩, rfl⟩; dsimp only [List.cons_append, List.nil_append])
      (repeat' (first | (apply run_qg 1; (focus rfl); (focus exact wt); (focus rfl); (focus (exact qg1))) | (apply run_qg 2; (focus rfl); (focus exact wt); (focus rfl); (focus (first | exact qg2 | exact qs2))) | (apply run_qg 3; (focus rfl); (focus exact wt); (focus rfl); (focus (first | exact qg3 | exact qs3))) | (apply run_qg 4; (focus rfl); (focus exact wt); (focus rfl); (focus (first | exact qg4 | exact qs4))) | (apply run_qg 6; (focus rfl); (focus exact wt); (focus rfl); (focus (first | exact qs6 | exact qg6 | exact q_max rfl rfl rfl | exact q_sliceData rfl rfl (by omega) | exact q_sliceDataN rfl rfl | exact q_unsafeStringN rfl rfl rfl | exact q_cap_slice rfl rfl))) | refine cod_seq ?_ | refine cod_region ?_ | refine run_nil ?_ | refine pst_then ?_ | (apply cod_cond_t; (focus rfl)) | (apply cod_cond_f; (focus rfl)) | refine cod_block ?_ | refine cod_ret ?_ | refine cod_skip ?_ | refine pst_block ?_))
      exact pst_fin rfl (by exact resa) _ (⟨rfl, rfl⟩) (by exact hsa)
    · have ew : rawO n r = ([], 4) := by unfold rawO; rw [if_neg (fun h => hrn h.2)]
      rw [ew]
      (refine spec_enter Try.func18 Try.ntmps18 rfl rfl fun Fr => ?_; dsimp only [List.cons_append, List.nil_append, ini, Nat.reduceAdd])
      (repeat' (first | (apply run_qg 1; (focus rfl); (focus exact wt); (focus rfl); (focus (exact qg1))) | (apply run_qg 4; (focus rfl); (focus exact wt); (focus rfl); (focus (first | exact qg4 | exact qs4))) | (apply run_qg 5; (focus rfl); (focus exact wt); (focus rfl); (focus (exact qg5))) | (apply run_qg 12; (focus rfl); (focus exact wt); (focus rfl); (focus (first | exact qs12 | exact q_cutp rfl rfl rfl rfl (by omega) (by omega) | exact q_slice_cap rfl rfl rfl rfl (by omega)))) | refine cod_seq ?_ | refine cod_region ?_ | refine run_nil ?_ | refine pst_then ?_ | (apply cod_cond_f; (focus rfl)) | refine cod_skip ?_ | (apply run_osg 8; (focus rfl); (focus exact wt); (focus rfl); (focus (exact opr_new rfl)); (rintro _ _ ⟨b, rfl, rfl⟩)) | (apply run_ong 9; (focus rfl); (focus exact wt); (focus (exact opr_store_box_agg rfl rfl rfl (by exact pka) rfl rfl rfl (by exact spla))); (rintro _ _ ⟨rfl, rfl⟩))))
      (refine run_os wt rfl (opr_call_l rfl (N0 _) rfl (by exact lpa)) ?_; rintro _ _ ⟨_, ⟨rfl, rfl⟩, rfl⟩; dsimp only [List.cons_append, List.nil_append])
      (repeat' (first | (apply run_qg 1; (focus rfl); (focus exact wt); (focus rfl); (focus (exact qg1))) | (apply run_qg 2; (focus rfl); (focus exact wt); (focus rfl); (focus (first | exact qg2 | exact qs2))) | (apply run_qg 3; (focus rfl); (focus exact wt); (focus rfl); (focus (first | exact qg3 | exact qs3))) | (apply run_qg 4; (focus rfl); (focus exact wt); (focus rfl); (focus (first | exact qg4 | exact qs4))) | (apply run_qg 6; (focus rfl); (focus exact wt); (focus rfl); (focus (first | exact qs6 | exact qg6 | exact q_max rfl rfl rfl | exact q_sliceData rfl rfl (by omega) | exact q_sliceDataN rfl rfl | exact q_unsafeStringN rfl rfl rfl | exact q_cap_slice rfl rfl))) | refine cod_seq ?_ | refine cod_region ?_ | refine run_nil ?_ | refine pst_then ?_ | (apply cod_cond_t; (focus rfl)) | (apply cod_cond_f; (focus rfl)) | refine cod_block ?_ | refine cod_ret ?_ | refine pst_then_ret ?_ | refine pst_block ?_))
      exact pst_fin rfl (by exact resa) _ (⟨rfl, rfl⟩) (by exact hsa)
  · have ew : rawO n r = ([], 4) := by unfold rawO; rw [if_neg (fun h => hn h.1)]
    rw [ew]
    have N0 := fun b => num_big b h e (by omega)
    (refine spec_enter Try.func18 Try.ntmps18 rfl rfl fun Fr => ?_; dsimp only [List.cons_append, List.nil_append, ini, Nat.reduceAdd])
    (repeat' (first | (apply run_qg 1; (focus rfl); (focus exact wt); (focus rfl); (focus (exact qg1))) | (apply run_qg 4; (focus rfl); (focus exact wt); (focus rfl); (focus (first | exact qg4 | exact qs4))) | (apply run_qg 5; (focus rfl); (focus exact wt); (focus rfl); (focus (exact qg5))) | (apply run_qg 12; (focus rfl); (focus exact wt); (focus rfl); (focus (first | exact qs12 | exact q_cutp rfl rfl rfl rfl (by omega) (by omega) | exact q_slice_cap rfl rfl rfl rfl (by omega)))) | refine cod_seq ?_ | refine cod_region ?_ | refine run_nil ?_ | refine pst_then ?_ | (apply cod_cond_f; (focus rfl)) | refine cod_skip ?_ | (apply run_osg 8; (focus rfl); (focus exact wt); (focus rfl); (focus (exact opr_new rfl)); (rintro _ _ ⟨b, rfl, rfl⟩)) | (apply run_ong 9; (focus rfl); (focus exact wt); (focus (exact opr_store_box_agg rfl rfl rfl (by exact pka) rfl rfl rfl (by exact spla))); (rintro _ _ ⟨rfl, rfl⟩))))
    (refine run_os wt rfl (opr_call_l rfl (N0 _) rfl (by exact lpa)) ?_; rintro _ _ ⟨_, ⟨rfl, rfl⟩, rfl⟩; dsimp only [List.cons_append, List.nil_append])
    (repeat' (first | (apply run_qg 1; (focus rfl); (focus exact wt); (focus rfl); (focus (exact qg1))) | (apply run_qg 2; (focus rfl); (focus exact wt); (focus rfl); (focus (first | exact qg2 | exact qs2))) | (apply run_qg 3; (focus rfl); (focus exact wt); (focus rfl); (focus (first | exact qg3 | exact qs3))) | refine cod_seq ?_ | refine cod_region ?_ | refine run_nil ?_ | refine pst_then ?_ | (apply cod_cond_t; (focus rfl)) | refine cod_block ?_ | refine cod_ret ?_ | refine cod_skip ?_ | refine pst_then_ret ?_ | refine pst_block ?_ | (apply run_offs; (focus rfl); (focus rfl); (focus rfl))))
    exact pst_fin rfl (by exact resa) _ (⟨rfl, rfl⟩) (by exact hsa)
end Go.Proofs.Ytppnaofebkpbkaa.press
/-
  press: the reader's lengths, the reader of bits: the walks. (SAFE)
-/
namespace Go.Proofs.Ytppnaofebkpbkaa.press
open Go.RowKit kit sl Go.Proofs.Ytppnaofebkpbkaa.put Go.Proofs.Ytppnaofebkpbkaa.code Go.Proofs.Ytppnaofebkpbkaa.lens
set_option linter.unusedVariables false
theorem badX_nil : ∀ {O : List Int}, (∀ o ∈ O, 0 ≤ o ∧ o ≤ 15) → runs.badX O = false
  | [], _ => rfl
  | o :: O, h => by
    have h1 := h o List.mem_cons_self
    rw [runs.badX, if_neg (by omega)]
    exact badX_nil fun x hx => h x (List.mem_cons_of_mem _ hx)
theorem wrErr_zero {A : List Int} (h : canonE A = 0) : runs.writeErr A = 0 := by
  obtain ⟨h1, h2⟩ := canon_good h
  unfold runs.writeErr
  rw [if_neg (by omega), badX_nil h2, if_neg (by decide)]
theorem read_ct (A : List Int) (rest : List UInt8) {n : Nat} (hn : A.length = n) (h : canonE A = 0) (hr : rest.length ≤ 100000) : Ct Try.prog 70 [.string (str (runs.writeB A ++ rest))] []
    fun v H' => ∃ q c, v = .tuple #[.slice q n c, .int .i64 ((runs.writeB A).length : Int), .int .i64 0] ∧ H' = [own (.slice q n c) 3 1 n (flat fI A)] := ⟨fun Fr w hw => by
  have hl := (canon_good h).1
  have hwl := writeB_len A
  refine (runs.read_any (str (runs.writeB A ++ rest)) (by rw [str_size, List.length_append]; omega) w).mono fun e w' h1 => ?_
  obtain ⟨ov, h2, h3, h4⟩ := h1
  have hd : (str (runs.writeB A ++ rest)).data.toList = runs.writeB A ++ rest := rfl
  rw [hd, runs.read_write A (wrErr_zero h) rest] at h2 h3
  obtain ⟨q, c, rfl⟩ := runs.own_len h3
  have hw2 : HeapOk Fr w := hw
  have hm : Moved (fun _ => False) w w' := ⟨h4.os, h4.tape, h4.output, h4.size, fun b hb' _ => h4.block b hb'⟩
  subst hn
  refine ⟨_, [own (.slice q A.length c) 3 1 A.length (flat fI A)], h2, ⟨q, c, rfl, rfl⟩, HeapOk.new hw2 hm ?_ fun b hb => ?_⟩
  · rw [flat_fI]
    refine ⟨h3.1, ?_⟩
    rcases h3.2 with hz | ⟨g, cap, cur, hv, h0, r⟩
    · exact .inl hz
    · exact .inr ⟨g, cap, cur, hv, Nat.zero_le _, r⟩
  · obtain ⟨_, _, _, h9, _⟩ := own_block h3 hb
    exact h9⟩
/-- the reader of bits: its two boxes -/
def rdE (a t : Nat) (k : Nat) (s : List UInt8) : List Ent := [box a [.int .i64 (k : Int)] 3, box t [.string (str s)] 9]
def bitV (s : List UInt8) (k w : Nat) : Nat := bits.leN s / 2 ^ k % 2 ^ w
theorem next_ct (w k a t : Nat) (s : List UInt8) (hw : w ≤ 64) (hle : k + w ≤ 8 * s.length) (hs : s.length ≤ 100000) :
    Ct Try.prog 73 [.int .i64 (w : Int), bptr a 0, bptr t 0] (rdE a t k s) fun v H' => v = .int .u64 ((bitV s k w : Nat) : Int) ∧ H' = rdE a t (k + w) s := ⟨fun Fr W hW => by
  have ha : W.heap[a]? = some (.cells #[.int .i64 (k : Int)] 3 (0, 0)) := hW.1 _ List.mem_cons_self
  have ht : W.heap[t]? = some (.cells #[.string (str s)] 9 (0, 0)) := hW.1 _ (List.mem_cons_of_mem _ List.mem_cons_self)
  refine (bits.next_any w k a t (str s) W ⟨ha, ht⟩ hw (by rw [str_size]; exact hle) (by rw [str_size]; omega)).mono fun e w' ⟨h1, h2, h3⟩ => ?_
  refine ⟨_, _, h1, ⟨rfl, rfl⟩, ?_⟩
  exact HeapOk.upd (e := box a [.int .i64 (k : Int)] 3) (e' := box a [.int .i64 ((k + w : Nat) : Int)] 3) hW rfl ⟨h3.os, h3.tape, h3.output, h3.size, fun b hb hn => h3.block b hb fun e => hn (Option.some.inj e)⟩ h2.ha (fun b hb => .inl hb)⟩
def fromV (a t : Nat) : Value := .func (.func 73) #[] #[bptr a 0, bptr t 0]
attribute [local irreducible] box own sl old bptr eptr Qt Opr Run Cod Pst Drn
set_option maxRecDepth 100000 in
set_option maxHeartbeats 8000000 in
theorem from_ct (s : List UInt8) (k : Nat) : Ct Try.prog 53 [.string (str s), .int .i64 (k : Int)] [] fun v H' => ∃ a t, v = fromV a t ∧ H' = rdE a t k s := by
  unfold fromV rdE
  (refine spec_enter Try.func53 Try.ntmps53 rfl rfl fun Fr => ?_; dsimp only [List.cons_append, List.nil_append, ini, Nat.reduceAdd])
  (repeat' (first | (apply run_qg 1; (focus rfl); (focus exact wt); (focus rfl); (focus (exact qg1))) | (apply run_qg 5; (focus rfl); (focus exact wt); (focus rfl); (focus (exact qg5))) | refine cod_seq ?_ | refine cod_region ?_ | refine run_nil ?_ | refine pst_then ?_ | refine cod_ret ?_ | (apply run_osg 8; (focus rfl); (focus exact wt); (focus rfl); (focus (exact opr_box_one rfl rfl rfl)); (rintro _ _ ⟨b, rfl, rfl⟩)) | fail))
  exact pst_fin rfl (by exact resa) _ (⟨_, _, rfl, rfl⟩) (by exact hsa)
set_option maxRecDepth 100000 in
set_option maxHeartbeats 8000000 in
theorem lens_ct (b : Nat) (A : List Int) (rest : List UInt8) {n : Nat} (hn : A.length = n) (hc : canonE A = 0) (hr : rest.length ≤ 100000) :
    Ct Try.prog 51 [bptr b 0, .int .i64 (n : Int)] [box b [.string (str (runs.writeB A ++ rest)), .bool false] 57]
      fun v H' => ∃ q c, v = .agg (bookC q c A).toArray ∧ H' = [own (.slice q (sgs A 15).length c) 3 1 (sgs A 15).length (flat fI (sgs A 15)), box b [.string (str rest), .bool false] 57] := by
  have R0 := read_ct A rest hn hc hr
  obtain ⟨hl, hb⟩ := canon_good hc
  have C1 := fun q c => ct_mono (canon_ct q c A (fun x hx => by
    have := hb x hx
    simp [Lit.wf, IntKind.min, IntKind.max, IntKind.signed, IntKind.bits]
    omega) (by omega)) (R' := fun v H' => ∃ q c, v = .tuple #[.slice q A.length c, .int .i64 0] ∧ H' = [own (.slice q A.length c) 3 1 A.length (flat fI (codes A))]) fun v H' h => by
    rcases h with ⟨h1, _⟩ | ⟨_, h2⟩
    · exact absurd hc h1
    · exact h2
  have M0 := fun q c => make_any q c A hb hl
  rw [hn] at C1 M0
  have hwl := writeB_len A
  have hdr : (runs.writeB A ++ rest).drop (runs.writeB A).length = rest := List.drop_left
  have hal : (runs.writeB A ++ rest).length = (runs.writeB A).length + rest.length := List.length_append
  generalize runs.writeB A = wb at *
  (refine spec_enter Try.func51 Try.ntmps51 rfl rfl fun Fr => ?_; dsimp only [List.cons_append, List.nil_append, ini, Nat.reduceAdd])
  (repeat' (first | (apply run_qg 1; (focus rfl); (focus exact wt); (focus rfl); (focus (exact qg1))) | (apply run_qg 2; (focus rfl); (focus exact wt); (focus rfl); (focus (first | exact qg2 | exact qs2))) | (apply run_qg 3; (focus rfl); (focus exact wt); (focus rfl); (focus (first | exact qg3 | exact qs3))) | refine cod_seq ?_ | refine cod_region ?_ | refine run_nil ?_ | refine pst_then ?_ | (apply run_osg 8; (focus rfl); (focus exact wt); (focus rfl); (focus (exact opr_new rfl)); (rintro _ _ ⟨b, rfl, rfl⟩)) | fail))
  (refine run_os wt rfl (opr_call_l rfl (R0) rfl (by exact lpa)) ?_; rintro _ _ ⟨_, ⟨q1, c1, rfl, rfl⟩, rfl⟩; dsimp only [List.cons_append, List.nil_append])
  (repeat' (first | (apply run_qg 1; (focus rfl); (focus exact wt); (focus rfl); (focus (exact qg1))) | (apply run_qg 4; (focus rfl); (focus exact wt); (focus rfl); (focus (first | exact qg4 | exact qs4))) | (apply run_qg 6; (focus rfl); (focus exact wt); (focus rfl); (focus (first | exact qs6 | exact qg6 | exact q_max rfl rfl rfl | exact q_sliceData rfl rfl (by omega) | exact q_sliceDataN rfl rfl | exact q_unsafeStringN rfl rfl rfl | exact q_cap_slice rfl rfl))) | refine cod_seq ?_ | refine cod_region ?_ | refine run_nil ?_ | refine pst_then ?_ | (apply cod_cond_f; (focus rfl)) | refine cod_skip ?_ | fail))
  (refine run_os wt rfl (opr_call_l rfl (C1 _ _) rfl (by exact lpa)) ?_; rintro _ _ ⟨_, ⟨q2, c2, rfl, rfl⟩, rfl⟩; dsimp only [List.cons_append, List.nil_append])
  (repeat' (first | (apply run_qg 1; (focus rfl); (focus exact wt); (focus rfl); (focus (exact qg1))) | (apply run_qg 2; (focus rfl); (focus exact wt); (focus rfl); (focus (first | exact qg2 | exact qs2))) | (apply run_qg 3; (focus rfl); (focus exact wt); (focus rfl); (focus (first | exact qg3 | exact qs3))) | (apply run_qg 4; (focus rfl); (focus exact wt); (focus rfl); (focus (first | exact qg4 | exact qs4))) | (apply run_qg 12; (focus rfl); (focus exact wt); (focus rfl); (focus (first | exact qs12 | exact q_cutp rfl rfl rfl rfl (by omega) (by omega) | exact q_slice_cap rfl rfl rfl rfl (by omega)))) | refine cod_seq ?_ | refine cod_region ?_ | refine run_nil ?_ | refine pst_then ?_ | (apply cod_cond_f; (focus rfl)) | refine cod_skip ?_ | (apply run_ong 9; (focus rfl); (focus exact wt); (focus (exact opr_store_box_one rfl rfl rfl rfl (by exact pka) rfl (by exact seta))); (rintro _ _ ⟨rfl, rfl⟩)) | fail))
  (refine run_os wt rfl (opr_call_l rfl (M0 _ _) rfl (by exact lpa)) ?_; rintro _ _ ⟨_, ⟨q3, c3, rfl, rfl⟩, rfl⟩; dsimp only [List.cons_append, List.nil_append])
  (repeat' (first | refine run_nil ?_ | refine pst_then ?_ | refine cod_ret ?_ | (apply run_ong 9; (focus rfl); (focus exact wt); (focus (exact opr_store_box_agg rfl rfl rfl (by exact pka) rfl rfl rfl (by exact spla))); (rintro _ _ ⟨rfl, rfl⟩)) | fail))
  rw [splice_all (us := bookC q3 c3 A) (by unfold bookC; rw [bk_len]; rfl)]
  have hbk : bookC q3 c3 A = bkC (.slice q3 (sgs A 15).length c3) (fA A 16) (fR A 16) (fC A) := rfl
  have hbl := bk_len (.slice q3 (sgs A 15).length c3) (fA A 16) (fR A 16) (fC A)
  rw [← hbk] at hbl
  exact pst_fin rfl (by exact resa) _ (⟨q3, c3, rfl, rfl⟩) (by exact hsa)
end Go.Proofs.Ytppnaofebkpbkaa.press
