/-
  bits.Pack: the walk.
-/
import Derived.Test.YtnejhldagkennaaSink
import Derived.Test.YtnejhldagkennaaMore
namespace Go.Proofs.Ytnejhldagkennaa.bits
open Go.RowKit kit
set_option linter.unusedVariables false

/-- what end answers: the bytes, and one more for what is held -/
def endB (bs : List UInt8) (held n : Nat) : List UInt8 := if n = 0 then bs else bs ++ [UInt8.ofNat held]

set_option maxRecDepth 100000 in
theorem end_any (held n B g : Nat) (sv : Value) (bs : List UInt8) (W : World) (hs : Sink W B g sv bs held n) (hn : n < 8) (hh : held < 2 ^ n) (hlen : bs.length ≤ 2000000) :
    Calls Try.prog 41 #[.pointer (some ⟨g, 0, none⟩)] W fun e w' => e = .returned (.string ⟨(endB bs held n).toArray⟩) ∧ Below B W w' := by
  have c0 := hs.c0
  have c1 := hs.c1
  have c2 := hs.c2
  have f0 := hs.fr 0
  have hlt := hs.lt
  have hh256 : held < 256 := Nat.lt_of_lt_of_le hh (Nat.pow_le_pow_right (n := 2) (by decide) (by omega : n ≤ 8))
  have HH := Lib.hid hh
  clear hh
  by_cases h0 : n = 0
  · have H0 := Lib.hid h0
    have hI : ¬ (0 : Int) < (n : Int) := by omega
    have hconv := string_of_own (src := 66) (dst := 9) Try.underlying66 Try.underlying5 Try.underlying9 hs.own
    clear h0
    go_enter Try.func41, Try.ntmps41
    go_wp2_with (fail)
    go_ret
    exact ⟨by rw [endB, if_pos H0.out]; rfl, Below.refl _ _⟩
  · have H0 := Lib.hid h0
    have hI : (0 : Int) < (n : Int) := by omega
    have h63 : bs.length + 1 ≤ maxLen := by unfold maxLen; omega
    have hsz : B ≤ W.heap.size := Nat.le_of_lt (Nat.lt_of_le_of_lt hs.hB hs.lt)
    clear h0
    go_enter Try.func41, Try.ntmps41
    go_upto_region 2 with (fail)
    go_region_law (refine step_app1s put.tBytes (by rfl) _ _ (by rfl) sv (Value.int .u8 (IntKind.u8.wrap (held : Int))) bs.length (byteCells bs) (by rfl) ⟨W.heap.size, 0, none⟩ (by rfl) (by simp) ((hs.own.alloc _).drew) (by rfl) (by omega) h63 ((((Below.refl B W)).alloc hsz _).drew) (Nat.le_trans hsz (by simp)) ?_; intro gv capv w1 hown1 hgr1 hbel1 _ _; have hs3 := (hs.alloc (Obj.cells #[Value.int .u8 (IntKind.u8.wrap (held : Int))] 5)).drew; have cz := hs3.gc hgr1; have fz := hs3.gf hgr1)
    all_goals
      have hb8 : IntKind.u8.wrap (held : Int) = ((UInt8.ofNat held).toNat : Int) := by rw [IntKind.wrap_u8']; simp
      rw [byteCells_snoc bs (UInt8.ofNat held) _ hb8] at hown1
      have hs4 := hs3.set0 hgr1 (bs' := bs ++ [UInt8.ofNat held]) (by simpa using hown1)
      have hb4 := hbel1.setCell (p := ⟨g, 0, none⟩) hs.hB (.slice (some ⟨gv, 0, none⟩) (bs.length + 1) capv)
      generalize w1.setCell ⟨g, 0, none⟩ (.slice (some ⟨gv, 0, none⟩) (bs.length + 1) capv) = w2 at hs4 hb4 ⊢
      clear c0 c1 c2 f0 hown1 hgr1 hs3 cz fz hb8 hbel1 hs
      have c0 := hs4.c0
      have hconv := string_of_own (src := 66) (dst := 9) Try.underlying66 Try.underlying5 Try.underlying9 hs4.own
      go_wp2_with (fail)
      go_ret
      exact ⟨by rw [endB, if_neg H0.out]; rfl, hb4⟩

/-! ### what Pack answers -/
/-- what goes wrong with a piece: 1: a width out of its bounds; 2: a value that is too large -/
def pieceErr (p : Int × Int) : Nat := if p.2 < 0 ∨ 64 < p.2 then 1 else if p.1 < 2 ^ p.2.toNat then 0 else 2
def firstErr : List (Int × Int) → Nat
  | [] => 0
  | p :: l => if pieceErr p = 0 then firstErr l else pieceErr p
def total : List (Int × Int) → Nat
  | [] => 0
  | p :: l => p.2.toNat + total l
/-- the pieces as one number, the first the lowest -/
def packN : List (Int × Int) → Nat
  | [] => 0
  | p :: l => p.1.toNat + 2 ^ p.2.toNat * packN l
/-- n bytes of N, the lowest first -/
def toLE : Nat → Nat → List UInt8
  | _, 0 => []
  | N, n + 1 => UInt8.ofNat (N % 256) :: toLE (N / 256) n
def packErr (l : List (Int × Int)) : Nat := if firstErr l ≠ 0 then firstErr l else if 65536 < total l then 2 else 0
def packB (l : List (Int × Int)) : List UInt8 := toLE (packN l) ((total l + 7) / 8)

theorem toLE_len (N n : Nat) : (toLE N n).length = n := by
  induction n generalizing N with
  | zero => rfl
  | succ n ih => simp [toLE, ih]
theorem leN_toLE (N n : Nat) : leN (toLE N n) = N % 256 ^ n := by
  induction n generalizing N with
  | zero => simp [toLE, leN_nil, Nat.mod_one]
  | succ n ih =>
    rw [toLE, leN_cons, ih, Nat.pow_succ, Nat.mul_comm (256 ^ n) 256, Nat.mod_mul]
    simp
theorem toLE_leN (l : List UInt8) : toLE (leN l) l.length = l := by
  induction l with
  | nil => rfl
  | cons b l ih =>
    have hb := b.toNat_lt
    rw [List.length_cons, toLE, leN_cons, show (b.toNat + 256 * leN l) / 256 = leN l from by omega, ih, show (b.toNat + 256 * leN l) % 256 = b.toNat from by omega]
    simp
theorem leN_inj {a b : List UInt8} (hl : a.length = b.length) (h : leN a = leN b) : a = b := by
  rw [← toLE_leN a, ← toLE_leN b, h, hl]

theorem firstErr_take (l : List (Int × Int)) (k : Nat) (h : firstErr l = 0) : firstErr (l.take k) = 0 := by
  induction l generalizing k with
  | nil => simp [firstErr]
  | cons p l ih =>
    cases k with
    | zero => rfl
    | succ k =>
      unfold firstErr at h
      split at h
      · rename_i hp
        rw [List.take_succ_cons, firstErr, if_pos hp]
        exact ih k h
      · rename_i hp; exact absurd h hp
theorem firstErr_app (a b : List (Int × Int)) : firstErr (a ++ b) = if firstErr a = 0 then firstErr b else firstErr a := by
  induction a with
  | nil => simp [firstErr]
  | cons p a ih =>
    rw [List.cons_append, firstErr, firstErr]
    by_cases h : pieceErr p = 0
    · rw [if_pos h, if_pos h, ih]
    · rw [if_neg h, if_neg h, if_neg h]
theorem total_app (a b : List (Int × Int)) : total (a ++ b) = total a + total b := by
  induction a with
  | nil => simp [total]
  | cons p a ih => rw [List.cons_append, total, total, ih]; omega
theorem packN_app (a b : List (Int × Int)) : packN (a ++ b) = packN a + 2 ^ total a * packN b := by
  induction a with
  | nil => simp [packN, total]
  | cons p a ih => rw [List.cons_append, packN, packN, total, ih, Nat.mul_add, Nat.pow_add, Nat.mul_assoc]; omega
theorem packN_lt (l : List (Int × Int)) (hp : ∀ p ∈ l, 0 ≤ p.1) (h : firstErr l = 0) : packN l < 2 ^ total l := by
  induction l with
  | nil => simp [packN, total]
  | cons p l ih =>
    unfold firstErr at h
    split at h
    · rename_i h0
      have hi := ih (fun q hq => hp q (by simp [hq])) h
      have hp1 : p.1.toNat < 2 ^ p.2.toNat := by
        unfold pieceErr at h0
        split at h0
        · omega
        · split at h0
          · rename_i h2
            have := hp p (by simp)
            have e : ((2 : Int) ^ p.2.toNat) = ((2 ^ p.2.toNat : Nat) : Int) := by simp
            rw [e] at h2
            omega
          · omega
      rw [packN, total, Nat.pow_add]
      have : 2 ^ p.2.toNat * (packN l + 1) ≤ 2 ^ p.2.toNat * 2 ^ total l := Nat.mul_le_mul_left _ hi
      rw [Nat.mul_add, Nat.mul_one] at this
      omega
    · rename_i h0; exact absurd h h0

theorem pieceErr_le (p : Int × Int) : pieceErr p ≤ 2 := by unfold pieceErr; split <;> (try split) <;> omega

def rowP (p : Int × Int) : List Value := [Value.int .u64 p.1, Value.int .i64 p.2]

theorem packErr_at {xs : List (Int × Int)} {k : Nat} {p : Int × Int} (hp : xs[k]? = some p) (h0 : firstErr (xs.take k) = 0) {e : Nat} (he : pieceErr p = e) (hn : e ≠ 0) : packErr xs = e := by
  have e1 : xs = xs.take k ++ (p :: xs.drop (k + 1)) := by
    conv => lhs; rw [← List.take_append_drop k xs]
    rw [List.drop_eq_getElem_cons (List.getElem?_eq_some_iff.1 hp).1, (List.getElem?_eq_some_iff.1 hp).2]
  have : firstErr xs = e := by
    rw [e1, firstErr_app, if_pos h0, firstErr, if_neg (by rw [he]; exact hn), he]
  rw [packErr, if_pos (by rw [this]; exact hn), this]
theorem firstErr_next {xs : List (Int × Int)} {k : Nat} {p : Int × Int} (hp : xs[k]? = some p) (h0 : firstErr (xs.take k) = 0) (he : pieceErr p = 0) : firstErr (xs.take (k + 1)) = 0 := by
  rw [take_one hp, firstErr_app, if_pos h0, firstErr, if_pos he]; rfl
theorem total_next {xs : List (Int × Int)} {k : Nat} {p : Int × Int} (hp : xs[k]? = some p) : total (xs.take (k + 1)) = total (xs.take k) + p.2.toNat := by
  rw [take_one hp, total_app]; rfl
theorem packN_next {xs : List (Int × Int)} {k : Nat} {p : Int × Int} (hp : xs[k]? = some p) : packN (xs.take (k + 1)) = packN (xs.take k) + p.1.toNat * 2 ^ total (xs.take k) := by
  rw [take_one hp, packN_app, packN, packN, Nat.mul_zero, Nat.add_zero, Nat.mul_comm]
theorem pieceErr_of (v w : Nat) (hw : w ≤ 64) : pieceErr ((v : Int), (w : Int)) = if v < 2 ^ w then 0 else 2 := by
  have e : ((2 : Int) ^ w) = ((2 ^ w : Nat) : Int) := by simp
  unfold pieceErr
  rw [if_neg (by simp only; omega)]
  simp only [Int.toNat_natCast, e, Int.ofNat_lt]
theorem pieceErr_width (v w : Int) (h : w < 0 ∨ 64 < w) : pieceErr (v, w) = 1 := by
  unfold pieceErr; rw [if_pos h]

theorem total_take_le (l : List (Int × Int)) (k : Nat) : total (l.take k) ≤ total l := by
  conv => rhs; rw [← List.take_append_drop k l]
  rw [total_app]; omega
theorem firstErr_mem {l : List (Int × Int)} (h : firstErr l = 0) {p : Int × Int} (hp : p ∈ l) : pieceErr p = 0 := by
  induction l with
  | nil => cases hp
  | cons q l ih =>
    unfold firstErr at h
    split at h
    · rename_i h0
      rcases List.mem_cons.1 hp with rfl | hp
      · exact h0
      · exact ih h hp
    · rename_i h0; exact absurd h h0
theorem pieceErr_ok {v : Nat} {w : Int} (h : pieceErr ((v : Int), w) = 0) : ∃ n : Nat, w = (n : Int) ∧ n ≤ 64 ∧ v < 2 ^ n := by
  unfold pieceErr at h
  split at h
  · omega
  · rename_i h1
    refine ⟨w.toNat, ?_, ?_, ?_⟩
    · simp only at h1; omega
    · simp only at h1; omega
    · split at h
      · rename_i h2
        have e : ((2 : Int) ^ w.toNat) = ((2 ^ w.toNat : Nat) : Int) := by simp
        simp only [e, Int.ofNat_lt] at h2
        exact h2
      · omega
theorem endB_pack {xs : List (Int × Int)} {bs : List UInt8} {held n : Nat} (hn : n < 8) (hh : held < 2 ^ n) (h1 : leN bs + held * 256 ^ bs.length = packN xs) (h2 : 8 * bs.length + n = total xs) : endB bs held n = packB xs := by
  have hh256 : held < 256 := Nat.lt_of_lt_of_le hh (Nat.pow_le_pow_right (n := 2) (by decide) (by omega : n ≤ 8))
  unfold packB endB
  rw [← h2, ← h1]
  split
  · rename_i h0
    subst h0
    have : held = 0 := by simpa using hh
    subst this
    rw [show (8 * bs.length + 0 + 7) / 8 = bs.length from by omega, Nat.zero_mul, Nat.add_zero, toLE_leN]
  · have e : leN (bs ++ [UInt8.ofNat held]) = leN bs + held * 256 ^ bs.length := by
      rw [leN_append, leN_cons, leN_nil]
      rw [show (UInt8.ofNat held).toNat = held from by simp; omega, Nat.mul_comm]; simp
    rw [← e, show (8 * bs.length + n + 7) / 8 = (bs ++ [UInt8.ofNat held]).length from by simp; omega, toLE_leN]

def packS (l : List (Int × Int)) : ByteArray := if packErr l = 0 then ⟨(packB l).toArray⟩ else ⟨#[]⟩

set_option maxHeartbeats 1000000 in
set_option maxRecDepth 100000 in
theorem pack_any (v : Value) (xs : List (Int × Int)) (W : World) (hs : SliceAt W 2 v (xs.map rowP)) (hg : ∀ p ∈ xs, (Lit.int .u64 p.1).wf = true ∧ (Lit.int .i64 p.2).wf = true) (hn : xs.length ≤ 100000000000000000) :
    Calls Try.prog 20 #[v] W fun e w' => e = .returned (.tuple #[.string (packS xs), .int .i64 (packErr xs : Int)]) ∧ Below W.heap.size W w' := by
  rcases hs with ⟨h0, hv⟩ | ⟨b, off, cap, rfl, hcap, hmax, hpos, hblk, hrows⟩
  · obtain rfl : xs = [] := by simpa using h0
    obtain ⟨q, cap, rfl⟩ : ∃ q cap, v = .slice q 0 cap := by
      rcases hv with rfl | ⟨a, cap, rfl⟩
      · exact ⟨_, _, rfl⟩
      · exact ⟨_, _, rfl⟩
    clear hg hn h0 hv
    go_enter Try.func20, Try.ntmps20
    go_wp2_with (fail)
    go_loopw [4, 12] (fun x y wr => x = .int .i64 0 ∧ y = .int .i64 0 ∧ wr = W) (fun _ _ _ => 0)
    case atStart => exact ⟨rfl, rfl, rfl⟩
    case round =>
      obtain ⟨rfl, rfl, rfl⟩ := hrel
      go_wp2_with (fail)
      have hsk : Sink (wr.alloc (Obj.cells #[Value.slice none 0 0, Value.int IntKind.u64 0, Value.int IntKind.i64 0] 79)) wr.heap.size wr.heap.size (.slice none 0 0) [] 0 0 :=
        ⟨heap_alloc_new _ _, World.ownsRow_nil _ _ _ _, Nat.le_refl _⟩
      have hb2 := (Below.refl wr.heap.size wr).alloc (Nat.le_refl _) (Obj.cells #[Value.slice none 0 0, Value.int IntKind.u64 0, Value.int IntKind.i64 0] 79)
      generalize wr.alloc (Obj.cells #[Value.slice none 0 0, Value.int IntKind.u64 0, Value.int IntKind.i64 0] 79) = W2 at hsk hb2 ⊢
      generalize hG : wr.heap.size = G at hsk hb2 ⊢
      replace hG := Lib.hid hG
      go_loopw [44] (fun y ws => y = .int .i64 0 ∧ ws = W2) (fun _ _ => 0)
      case atStart => exact ⟨rfl, rfl⟩
      case round =>
        obtain ⟨rfl, rfl⟩ := hrel
        go_wp2_with (fail)
        refine (end_any 0 0 _ G _ [] _ hsk (by decide) (by decide) (by decide)).mono ?_
        rintro e w' ⟨rfl, hb'⟩
        have hb3 := hb2.trans hb'
        go_wp2_with (fail)
        go_ret2
        exact ⟨rfl, by rw [hG.out]; exact hb3⟩
  · have hlen : (xs.map rowP).length = xs.length := by simp
    rw [hlen] at hcap hpos ⊢
    have hcell : ∀ i p, xs[i]? = some p → W.cell? ⟨b, off + i * 2, none⟩ = some (.int .u64 p.1) ∧ W.cell? ⟨b, off + i * 2 + 1, none⟩ = some (.int .i64 p.2) := by
      intro i p hp
      have h := (hrows i (rowP p) (by rw [List.getElem?_map, hp]; rfl)).2
      exact ⟨h 0 _ rfl, h 1 _ rfl⟩
    have HC := Lib.hid hcell
    clear hrows hcell hlen
    go_enter Try.func20, Try.ntmps20
    go_wp2_with (fail)
    go_loopw [4, 12] (fun x y wr => ∃ k : Nat, k ≤ xs.length ∧ x = .int .i64 (total (xs.take k) : Int) ∧ y = .int .i64 k ∧ Hid (firstErr (xs.take k) = 0) ∧ total (xs.take k) ≤ 64 * k ∧ Below W.heap.size W wr) (fun _ y _ => xs.length - (intOf y).toNat)
    case atStart => exact ⟨0, Nat.zero_le _, rfl, rfl, rfl, by simp [total], Below.refl _ _⟩
    case round =>
      obtain ⟨k, hk, rfl, rfl, hfe, htot, hb⟩ := hrel
      by_cases hlt : k < xs.length
      · obtain ⟨⟨p1, p2⟩, hp⟩ : ∃ p, xs[k]? = some p := ⟨_, List.getElem?_eq_getElem hlt⟩
        have hc := HC.out k _ hp
        have hc0 : wr.cell? ⟨b, off + k * 2, none⟩ = some (.int .u64 p1) := (hb.cell (p := ⟨b, off + k * 2, none⟩) hblk).trans hc.1
        have hc1 : wr.cell? ⟨b, off + k * 2 + 1, none⟩ = some (.int .i64 p2) := (hb.cell (p := ⟨b, off + k * 2 + 1, none⟩) hblk).trans hc.2
        have hltI : (k : Int) < (xs.length : Int) := by omega
        have hw := hg _ (List.mem_of_getElem? hp)
        obtain ⟨v, rfl, hv⟩ := u64_nat hw.1
        have hp2 := i64_bd hw.2
        have HP := Lib.hid hp
        clear hc hp hw
        have hsz : W.heap.size ≤ wr.heap.size := hb.size
        by_cases hneg : p2 < 0
        · have hE : packErr xs = 1 := packErr_at HP.out hfe.out (pieceErr_width _ _ (.inl hneg)) (by decide)
          go_wp2_with (fail)
          go_ret2
          exact ⟨by rw [packS, if_neg (by rw [hE]; decide)]; rfl, hb.alloc hsz _⟩
        · by_cases hbig : 64 < p2
          · have hE : packErr xs = 1 := packErr_at HP.out hfe.out (pieceErr_width _ _ (.inr hbig)) (by decide)
            go_wp2_with (fail)
            go_ret2
            exact ⟨by rw [packS, if_neg (by rw [hE]; decide)]; rfl, hb.alloc hsz _⟩
          · obtain ⟨w, rfl⟩ : ∃ w : Nat, p2 = (w : Int) := ⟨p2.toNat, by omega⟩
            have hw : w ≤ 64 := by omega
            have e2 : ((2 : Int) ^ w) = ((2 ^ w : Nat) : Int) := by simp
            have ht := total_next HP.out
            simp only [Int.toNat_natCast] at ht
            have HT := Lib.hid ht
            have hto : total (xs.take (k + 1)) ≤ 64 * (k + 1) := by omega
            clear ht
            by_cases h64 : (w : Int) < 64
            · by_cases hq : ((v : Int) / 2 ^ w != 0) = true
              · have hE : packErr xs = 2 := packErr_at HP.out hfe.out (by
                  rw [pieceErr_of v w hw, if_neg]
                  intro hlt
                  rw [e2, show (v : Int) / ((2 ^ w : Nat) : Int) = ((v / 2 ^ w : Nat) : Int) from rfl, Nat.div_eq_of_lt hlt] at hq
                  simp at hq) (by decide)
                clear e2 HT
                go_wp2_with (fail)
                go_ret2
                exact ⟨by rw [packS, if_neg (by rw [hE]; decide)]; rfl, hb.alloc hsz _⟩
              · have hE := Lib.hid (firstErr_next HP.out hfe.out (by
                  rw [pieceErr_of v w hw, if_pos]
                  simp at hq
                  rw [e2, show (v : Int) / ((2 ^ w : Nat) : Int) = ((v / 2 ^ w : Nat) : Int) from rfl] at hq
                  rcases (Nat.div_eq_zero_iff.1 (by exact_mod_cast hq) : 2 ^ w = 0 ∨ v < 2 ^ w) with h | h
                  · have := Nat.two_pow_pos w; omega
                  · exact h))
                have hq2 : ((v : Int) / 2 ^ w != 0) = false := by simpa using hq
                clear e2 hq
                go_wp2_with (fail)
                exact ⟨⟨k + 1, by omega, by rw [HT.out]; simp, rfl, hE, hto, hb.alloc hsz _⟩, by show xs.length - (((k : Int) + 1).toNat) < xs.length - ((k : Int).toNat); omega⟩
            · have : w = 64 := by omega
              subst this
              have hE := Lib.hid (firstErr_next HP.out hfe.out (by rw [pieceErr_of v 64 hw, if_pos (by omega)]))
              clear e2
              go_wp2_with (fail)
              exact ⟨⟨k + 1, by omega, by rw [HT.out]; simp, rfl, hE, hto, hb.alloc hsz _⟩, by show xs.length - (((k : Int) + 1).toNat) < xs.length - ((k : Int).toNat); omega⟩
      · have hke : k = xs.length := by omega
        subst hke
        rw [List.take_length] at hfe htot ⊢
        by_cases hT : (65536 : Int) < (total xs : Int)
        · have hE : packErr xs = 2 := by unfold packErr; rw [hfe.out, if_neg (by simp), if_pos (by omega)]
          go_wp2_with (fail)
          go_ret2
          exact ⟨by rw [packS, if_neg (by rw [hE]; decide), hE]; rfl, hb⟩
        · have hE : packErr xs = 0 := by unfold packErr; rw [hfe.out, if_neg (by simp), if_neg (by omega)]
          have HE := Lib.hid hE
          have hT2 : total xs ≤ 65536 := by omega
          have hsz : W.heap.size ≤ wr.heap.size := hb.size
          clear hE
          go_wp2_with (fail)
          have hsk : Sink (wr.alloc (Obj.cells #[Value.slice none 0 0, Value.int IntKind.u64 0, Value.int IntKind.i64 0] 79)) W.heap.size wr.heap.size (.slice none 0 0) [] 0 0 :=
            ⟨heap_alloc_new _ _, World.ownsRow_nil _ _ _ _, hsz⟩
          have hb2 := hb.alloc hsz (Obj.cells #[Value.slice none 0 0, Value.int IntKind.u64 0, Value.int IntKind.i64 0] 79)
          generalize wr.alloc (Obj.cells #[Value.slice none 0 0, Value.int IntKind.u64 0, Value.int IntKind.i64 0] 79) = W2 at hsk hb2 ⊢
          generalize wr.heap.size = G at hsk ⊢
          clear hb hsz hlt hT
          go_loopw [44] (fun y ws => ∃ k : Nat, ∃ sv bs held n, k ≤ xs.length ∧ y = .int .i64 k ∧ Sink ws W.heap.size G sv bs held n ∧ n < 8 ∧ held < 2 ^ n ∧ Hid (leN bs + held * 256 ^ bs.length = packN (xs.take k)) ∧ Hid (8 * bs.length + n = total (xs.take k)) ∧ Below W.heap.size W ws) (fun y _ => xs.length - (intOf y).toNat)
          case atStart => exact ⟨0, _, [], 0, 0, Nat.zero_le _, rfl, hsk, by decide, by decide, rfl, rfl, hb2⟩
          case round =>
            obtain ⟨k, sv, bs, held, n, hk, rfl, hs, hn8, hh, hN, hL, hb⟩ := hrel
            by_cases hlt : k < xs.length
            · obtain ⟨⟨p1, p2⟩, hp⟩ : ∃ p, xs[k]? = some p := ⟨_, List.getElem?_eq_getElem hlt⟩
              have hc := HC.out k _ hp
              have hw := hg _ (List.mem_of_getElem? hp)
              obtain ⟨v, rfl, hv⟩ := u64_nat hw.1
              obtain ⟨w, rfl, hw64, hvw⟩ := pieceErr_ok (firstErr_mem hfe.out (List.mem_of_getElem? hp))
              have hc0 : wr.cell? ⟨b, off + k * 2, none⟩ = some (.int .u64 v) := (hb.cell (p := ⟨b, off + k * 2, none⟩) hblk).trans hc.1
              have hc1 : wr.cell? ⟨b, off + k * 2 + 1, none⟩ = some (.int .i64 w) := (hb.cell (p := ⟨b, off + k * 2 + 1, none⟩) hblk).trans hc.2
              have hltI : (k : Int) < (xs.length : Int) := by omega
              have HP := Lib.hid hp
              have hsz : W.heap.size ≤ wr.heap.size := hb.size
              have HV := Lib.hid hvw
              have HH := Lib.hid hh
              clear hc hp hw hvw hh
              have hbl : bs.length ≤ 999000 := by have := hL.out; have := total_take_le xs k; omega
              go_wp2_with (fail)
              refine (put_any v w held n _ G sv bs _ (hs.alloc _) hn8 HH.out hw64 HV.out hbl).mono ?_
              rintro e w' ⟨rfl, hb', sv', bs', held', n', hs', hn', hh', hN', hL'⟩
              have hb3 := (hb.alloc hsz (Obj.cells #[Value.int .u64 (v : Int), Value.int .i64 (w : Int)] 49)).trans hb'
              have HN := Lib.hid (hN'.trans (show leN bs + held * 256 ^ bs.length + v * 2 ^ (8 * bs.length + n) = packN (xs.take (k + 1)) from by rw [packN_next HP.out, hN.out, hL.out]; rfl))
              have HL := Lib.hid (hL'.trans (show 8 * bs.length + n + w = total (xs.take (k + 1)) from by rw [total_next HP.out, hL.out]; rfl))
              clear hN' hL' hb' hs hb hc0 hc1 hbl
              go_wp2_with (fail)
              exact ⟨⟨k + 1, sv', bs', held', n', by omega, rfl, hs', hn', hh', HN, HL, hb3⟩, by show xs.length - (((k : Int) + 1).toNat) < xs.length - ((k : Int).toNat); omega⟩
            · have hke : k = xs.length := by omega
              subst hke
              have hbl : bs.length ≤ 2000000 := by have := hL.out; have := total_take_le xs xs.length; omega
              rw [List.take_length] at hN hL
              go_wp2_with (fail)
              refine (end_any held n _ G sv bs _ hs hn8 hh hbl).mono ?_
              rintro e w' ⟨rfl, hb'⟩
              have hb3 := hb.trans hb'
              have hS : packS xs = ⟨(endB bs held n).toArray⟩ := by rw [packS, if_pos HE.out, endB_pack hn8 hh hN.out hL.out]
              have HS := Lib.hid hS
              clear hS hn8 hh
              go_wp2_with (fail)
              go_ret2
              exact ⟨by rw [HS.out, HE.out]; rfl, hb3⟩
end Go.Proofs.Ytnejhldagkennaa.bits
