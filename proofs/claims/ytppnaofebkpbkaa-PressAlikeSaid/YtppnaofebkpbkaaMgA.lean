/-
  Several texts in one: BytesOwn, Put, Get, GetPut, Runs, RunsRead, RunsLaw, RunsTurn.
-/
import Derived.Test.YtppnaofebkpbkaaMore
import Derived.Test.YtppnaofebkpbkaaBytesRow
import Derived.ArgAppend
import Derived.Test.YtppnaofebkpbkaaRows
import Derived.Test.YtppnaofebkpbkaaKit
import Derived.Deep.RegionHeld3
/-
  '[]byte(s)' and appends to it: rows of bytes of the call's own, whatever lies behind them.
-/
namespace Go.Proofs.Ytppnaofebkpbkaa.kit
open Go.RowKit
set_option linter.unusedVariables false

/-- v is a slice of the call's own (not nil) that holds the bytes l -/
def BOwn (w : World) (B : Nat) (e : TypeId) (v : Value) (l : List UInt8) : Prop :=
  ∃ (g cap : Nat) (cur : Array Value) (fr : Nat × Nat), v = .slice (some ⟨g, 0, none⟩) l.length cap ∧ B ≤ g ∧ w.heap[g]? = some (.cells cur e fr) ∧ (fr = (0, 0) ∨ cap ≤ fr.1) ∧ l.length ≤ cap ∧ cap ≤ maxLen ∧ cur.size = cap ∧
    cur.toList.take l.length = byteCells l

theorem BOwn.kept {w w' : World} {B : Nat} {e : TypeId} {v : Value} {l : List UInt8} (h : BOwn w B e v l) (hg : w.grownBy w' none) : BOwn w' B e v l := by
  obtain ⟨g, cap, cur, fr, rfl, h1, h2, r⟩ := h
  exact ⟨g, cap, cur, fr, rfl, h1, by rw [hg.block g (Array.getElem?_eq_some_iff.1 h2).1 (by simp)]; exact h2, r⟩
theorem BOwn.str {P : Program} {w : World} {B src dst e : TypeId} {v : Value} {l : List UInt8} (h : BOwn w B e v l) (hs : P.underlying src = some (.slice e)) (he : P.underlying e = some (.int .u8)) (hd : P.underlying dst = some .string) :
    (convert src dst v).run P w = .ok (.string ⟨l.toArray⟩) w := by
  obtain ⟨g, cap, cur, fr, rfl, h1, h2, h3, h4, h5, h6, h7⟩ := h
  refine run_convert_bytes_back w src dst e ⟨g, 0, none⟩ cap l hs he hd ?_
  intro j hj
  have hadd : (⟨g, 0, none⟩ : Addr).add j = ⟨g, j, none⟩ := by unfold Addr.add; split <;> simp_all
  rw [hadd, cell_of_row _ _ _ _ _ _ h2]
  have e1 : (cur.toList.take l.length)[j]? = some (.int .u8 (l[j].toNat : Int)) := by rw [h7]; simp [byteCells, hj]
  rw [List.getElem?_take, if_pos hj] at e1
  simpa using e1

/-- '[]byte(s)' in a walk: a row of the call's own. -/
theorem wpList_bytes_own {P : Program} {w0 w : World} {ops : Array Oper} {rest : List Oper} {o : Oper} {a : Act} {Q : Exit → Act → World → Prop} (hgd : o.guard = none) (src dst e : TypeId) (x : Operand) (ho : o.op = .convert src dst x)
    (hs : P.underlying src = some .string) (hd : P.underlying dst = some (.slice e)) (he : P.underlying e = some (.int .u8)) (s : ByteArray) (hsz : s.size ≤ maxLen) (hx : a.eval x = .string s) {B : Nat} (hb : Below B w0 w) (hB : B ≤ w.heap.size)
    (h : ∀ v w', BOwn w' B e v s.data.toList → Below B w0 w' → wpList P ops Q rest (a.put o.dst v) w') : wpList P ops Q (o :: rest) a w := by
  refine wpList_plain hgd fun K hK => ?_
  unfold Oper.wp execOp
  simp only [ho, hx, Sem.run_bind, Sem.run_pure, Result.andThen_ok, run_bytes_of_string w src dst e s hs hd he]
  have hge := grownCap_ge w s.size 0 e
  have hsz2 : (bytesRow s (grownCap w s.size 0 e)).size = grownCap w s.size 0 e := by
    simp [bytesRow]
    have : s.data.size = s.size := rfl
    omega
  refine hK _ _ (h _ _ ⟨w.heap.size, grownCap w s.size 0 e, _, _, ?_, hB, heap_alloc_new w.drew _, .inr ?_, ?_, grownCap_le_maxLen w s.size 0 e hsz, hsz2, ?_⟩ (hb.drew.alloc hB _))
  · rw [← Lib.size_eq]
  · rw [hsz2]; exact Nat.le_refl _
  · rw [← Lib.size_eq]; exact hge
  · simp [bytesRow, byteCells]

/-- One byte appended to such a row. -/
theorem run_app_byte {P : Program} {t e : TypeId} {z : Value} (hT : SliceTy P t e 1 1 z) (ty : TypeId) {w : World} {B : Nat} {v : Value} {l : List UInt8} (hown : BOwn w B e v l) (b : UInt8)
    (ad : Addr) (hc : w.cell? ad = some (.int .u8 (b.toNat : Int))) (hl : l.length + 1 ≤ 1000000) (hB : B ≤ w.heap.size) :
    ∃ v' w', (Builtin.append_ #[t, t] ty #[v, .slice (some ad) 1 1]).run P w = .ok v' w' ∧ BOwn w' B e v' (l ++ [b]) ∧ Below B w w' := by
  obtain ⟨h1, h2, h3, i, hi1, hi2, hi3, hi4⟩ := hT
  obtain ⟨g, cap, cur, fr, rfl, k1, k2, k3, k4, k5, k6, k7⟩ := hown
  have hadd : ∀ (a : Addr), a.add 0 = a := fun a => by simp [Addr.add]
  have hnew : ∀ j u, [Value.int .u8 (b.toNat : Int)][j]? = some u → w.cell? (ad.add j) = some u := by
    intro j u hj
    match j, hj with
    | 0, hj => rw [hadd, hc]; simpa using hj
  have hcell : ∀ j u, (byteCells l)[j]? = some u → w.cell? ⟨g, j, none⟩ = some u := by
    intro j u hj
    rw [← k7, List.getElem?_take] at hj
    split at hj
    · rw [cell_of_row _ _ _ _ _ _ k2]; simpa using hj
    · cases hj
  have hlb : (byteCells l).length = l.length := by simp [byteCells]
  by_cases hr : l.length + 1 ≤ cap
  · have hrun := run_append_room_cells (P := P) w t ty e i h1 hi1 g 0 l.length cap ad 1 1 [.int .u8 (b.toNat : Int)] (by simp [hi3]) hnew (by simp [Value.oneCell']) hr
      (fun j hj => by
        have hj0 : j = 0 := by simpa using hj
        subst hj0
        rw [cell_of_row _ _ _ _ _ _ k2, hi3]
        simp
        omega)
      (fun j hj => by
        have hj0 : j = 0 := by simpa using hj
        subst hj0
        simp [World.frozen?, k2, hi3]
        rcases k3 with rfl | k3
        · simp
        · omega)
    refine ⟨_, _, hrun, ⟨g, cap, cur.setIfInBounds l.length (.int .u8 (b.toNat : Int)), fr, by simp, k1, ?_, k3, by simpa using hr, k5, by simpa using k6, ?_⟩, ?_⟩
    · simp only [hi3, Nat.zero_add, Nat.mul_one, World.setCells]
      rw [setCell_eq_setRow w g l.length cur e fr _ k2]
      exact setRow_heap w g cur _ e _ k2
    · rw [← byteCells_snoc l b _ rfl, ← k7]
      apply List.ext_getElem?
      intro j
      simp only [Array.toList_setIfInBounds, List.length_append, List.length_singleton, List.getElem?_take, List.getElem?_set, List.getElem?_append, List.length_take, Array.length_toList]
      by_cases h5 : j < l.length
      · rw [if_pos (by omega), if_neg (by omega), if_pos (by omega), if_pos (by omega)]
      · by_cases h6 : j = l.length
        · subst h6
          rw [if_pos (by omega), if_pos rfl, if_pos (by omega), if_neg (by omega)]
          rw [show l.length - min l.length cur.size = 0 from by omega]
          rfl
        · rw [if_neg (by omega), if_neg (by omega)]
          symm
          apply List.getElem?_eq_none
          simp
          omega
    · simp only [hi3, Nat.zero_add, Nat.mul_one, World.setCells]
      exact (Below.refl _ _).setCell (p := ⟨g, l.length, none⟩) k1 _
  · obtain ⟨v', w', hrun, r1, r2⟩ := run_append_arg_grows (P := P) w t ty e i z 1 1 h1 hi1 hi2 hi3 hi4 h2 h3 ⟨g, 0, none⟩ l.length cap (byteCells l) (by simp [byteCells]) (fun j u hj => by
        have : (⟨g, 0, none⟩ : Addr).add j = ⟨g, j, none⟩ := by unfold Addr.add; split <;> simp_all
        rw [this]; exact hcell j u hj) ad 1 1 [.int .u8 (b.toNat : Int)] (by simp) hnew (by omega) (by unfold maxLen; omega) (by omega)
    refine ⟨v', w', hrun, ?_, ⟨r2.os, r2.tape, r2.output, r2.size, fun k hk => r2.block k (by omega) (by simp)⟩⟩
    rw [byteCells_snoc l b _ rfl] at r1
    rcases r1.2 with ⟨rfl, h0⟩ | ⟨g2, cap2, cur2, rfl, hb2, hg2, m1, m2, m3, m4⟩
    · omega
    · exact ⟨g2, cap2, cur2, _, by simp, by omega, hg2, .inl rfl, by simpa using m1, m2, by simpa using m3, by simpa using m4⟩

/-- .. in a walk: the byte was laid into a new block. -/
theorem app_byte {P : Program} {w : World} {B : Nat} {t e : TypeId} {z : Value} (hT : SliceTy P t e 1 1 z) {ops : Array Oper} {rest : List Oper} {o : Oper} {a : Act} {Q : Exit → Act → World → Prop} (hgd : o.guard = none) (s x : Operand)
    (ho : o.op = .call { callee := .builtin .append, args := #[s, x], argTypes := #[t, t] })
    (v : Value) (l : List UInt8) (n : Int) (b : UInt8) (hn : n = (b.toNat : Int)) (hs : a.eval s = v) (hx : a.eval x = .slice (some ⟨w.heap.size, 0, none⟩) 1 1)
    (hown : BOwn w B e v l) (hl : l.length + 1 ≤ 1000000) (hB : B ≤ w.heap.size)
    (h : ∀ v' w', BOwn w' B e v' (l ++ [b]) → Below B w w' → wpList P ops Q rest (a.put o.dst v') w') :
    wpList P ops Q (o :: rest) a (w.alloc (.cells #[.int .u8 n] e)) := by
  subst hn
  refine wpList_plain hgd fun K hK => ?_
  obtain ⟨v', w', hrun, r1, r2⟩ := run_app_byte hT o.type (hown.kept (World.grownBy_alloc w (.cells #[.int .u8 (b.toNat : Int)] e) none)) b ⟨w.heap.size, 0, none⟩ (cell_new rfl rfl) hl (by simp; omega)
  unfold Oper.wp
  simp [execOp, ho, resolve, invoke, builtin, hs, hx, hrun, Result.andThen]
  exact hK _ _ (h v' w' r1 (((Below.refl B w).alloc hB _).trans r2))
end Go.Proofs.Ytppnaofebkpbkaa.kit
/-
  num.Put: the walk. It answers the bytes 'putB n'.
-/
namespace Go.Proofs.Ytppnaofebkpbkaa.put
open Go.RowKit kit

/-- the bytes of n: seven bits each, the lowest first; all but the last with 128 more -/
def putF : Nat → Nat → List UInt8
  | 0, n => [UInt8.ofNat n]
  | f + 1, n => if n < 128 then [UInt8.ofNat n] else UInt8.ofNat (n % 128 + 128) :: putF f (n / 128)
def putB (n : Nat) : List UInt8 := putF 10 n

theorem tBytes : SliceTy Try.prog 36 5 1 1 (.int .u8 0) := sliceTy_mk Try.underlying36 (by kernel_rfl) rfl (by decide)

theorem putF_len : ∀ (f n : Nat), 1 ≤ (putF f n).length ∧ (putF f n).length ≤ f + 1 := by
  intro f
  induction f with
  | zero => intro n; simp [putF]
  | succ f ih =>
    intro n
    rw [putF]
    split
    · simp
    · have := ih (n / 128); simp; omega

theorem or128 (m : Nat) : bits BinOp.or IntKind.u8 ((m : Int) % 256) 128 = ((UInt8.ofNat (m % 128 + 128)).toNat : Int) := by
  have e : (m : Int) % 256 = ((m % 256 : Nat) : Int) := by omega
  rw [e, show (128 : Int) = ((128 : Nat) : Int) from rfl, u8_or_nat _ _ (by omega) (by omega)]
  have h2 : UInt8.toNat (UInt8.ofNat (m % 128 + 128)) = m % 128 + 128 := by simp; omega
  rw [h2]
  congr 1
  rcases Nat.lt_or_ge (m % 256) 128 with h | h
  · rw [Nat.or_comm, nat_join 7 128 (m % 256) (by decide) (by omega)]; omega
  · have e2 : m % 256 = 128 + m % 128 := by omega
    rw [e2, ← nat_join 7 128 (m % 128) (by decide) (by omega), Nat.or_comm, ← Nat.or_assoc, Nat.or_self, nat_join 7 128 (m % 128) (by decide) (by omega)]
    omega

theorem putF_big (f m : Nat) (h : ¬ m < 128) : putF (f + 1) m = UInt8.ofNat (m % 128 + 128) :: putF f (m / 128) := by rw [putF, if_neg h]
theorem putF_small (f m : Nat) (h : m < 128) : putF f m = [UInt8.ofNat m] := by
  cases f with
  | zero => rfl
  | succ f => rw [putF, if_pos h]

theorem small8 (m : Nat) (h : m < 128) : (m : Int) = ((UInt8.ofNat m).toNat : Int) := by
  have h2 : UInt8.toNat (UInt8.ofNat m) = m := by simp; omega
  rw [h2]

set_option maxRecDepth 100000 in
theorem put_any (n : Nat) (h1 : n < 18446744073709551616) (W : World) :
    Calls Try.prog 17 #[.int .u64 n] W fun e w' => e = .returned (.string ⟨(putB n).toArray⟩) ∧ Below W.heap.size W w' := by
  obtain ⟨N, rfl⟩ : ∃ N, N = n := ⟨_, rfl⟩
  go_enter Try.func17, Try.ntmps17
  go_wp2_with (fail)
  go_loopw [0, 3] (fun x y wr => ∃ f m : Nat, ∃ xs : List UInt8, m < 128 ^ (f + 1) ∧ m < 18446744073709551616 ∧ x = .int .u64 m ∧ wr.ownsRow W.heap.size 5 1 y xs.length (byteCells xs) ∧ xs.length + f = 10 ∧ Hid (putB N = xs ++ putF f m) ∧ Below W.heap.size W wr) (fun x _ _ => (intOf x).toNat)
  case atStart => exact ⟨10, N, [], by omega, h1, rfl, World.ownsRow_nil _ _ _ _, rfl, rfl, Below.refl _ _⟩
  case round =>
    obtain ⟨f, m, xs, hm, hm2, rfl, hown, hlen, hput, hbel⟩ := hrel
    have hsz := hbel.size
    by_cases hlt : m < 128
    · have e8 := Lib.hid (small8 m hlt)
      go_wp2_with (at_builtin; refine app1 put.tBytes rfl (.tmp 14) (.tmp 17) rfl _ _ xs.length (byteCells xs) rfl rfl hown rfl ?c3 ?c4 hbel hsz ?_)
      case c3 => omega
      case c4 => unfold maxLen; omega
      intro v' w1 hown1 _ hbel1 _
      rw [byteCells_snoc xs (UInt8.ofNat m) _ e8.out] at hown1
      have hs := string_of_own (src := 36) (dst := 9) Try.underlying36 Try.underlying5 Try.underlying9 hown1
      clear hown1 hown
      go_wp2
      go_ret
      exact ⟨by rw [hput.out, putF_small f m hlt]; rfl, hbel1⟩
    · have e8 := Lib.hid (or128 m)
      go_wp2_with (at_builtin; refine app1 put.tBytes rfl (.tmp 8) (.tmp 12) rfl _ _ xs.length (byteCells xs) rfl rfl hown rfl ?c3 ?c4 hbel hsz ?_)
      case c3 => omega
      case c4 => unfold maxLen; omega
      intro v' w1 hown1 _ hbel1 _
      rw [byteCells_snoc xs (UInt8.ofNat (m % 128 + 128)) _ e8.out] at hown1
      clear hown
      go_wp2
      go_roundw
      case rel =>
        obtain ⟨f, rfl⟩ : ∃ g, f = g + 1 := by
          cases f with
          | zero => omega
          | succ f => exact ⟨f, rfl⟩
        refine ⟨f, m / 128, xs ++ [UInt8.ofNat (m % 128 + 128)], ?_, by omega, ?_, by simpa using hown1, by simp; omega, ?_, hbel1⟩
        · rw [Nat.pow_succ] at hm; exact Nat.div_lt_of_lt_mul (by rw [Nat.mul_comm]; exact hm)
        · exact val_int (by omega)
        · show putB N = _
          rw [hput.out, putF_big f m hlt]; simp
      case measure => simp [intOf]; omega
end Go.Proofs.Ytppnaofebkpbkaa.put
/-
  num.Get: the walk. It answers what 'getB' says of the bytes.
-/
namespace Go.Proofs.Ytppnaofebkpbkaa.get
open Go.RowKit kit put

/-- the number, how many bytes it takes, and what went wrong (3: too short, 4: not in the form) -/
def getF : Nat → Nat → Nat → List UInt8 → Nat × Nat × Nat
  | 0, _, _, _ => (0, 0, 4)
  | _ + 1, _, _, [] => (0, 0, 3)
  | f + 1, i, n, b :: r =>
    if i = 9 ∧ 1 < b.toNat ∨ 0 < i ∧ b.toNat = 0 then (0, 0, 4)
    else if b.toNat < 128 then (n + b.toNat % 128 * 128 ^ i, i + 1, 0)
    else getF f (i + 1) (n + b.toNat % 128 * 128 ^ i) r
def getB (l : List UInt8) : Nat × Nat × Nat := getF 10 0 0 l
def getV (r : Nat × Nat × Nat) : Value := .tuple #[.int .u64 (r.1 : Int), .int .i64 (r.2.1 : Int), .int .i64 (r.2.2 : Int)]

theorem step_or (n i b : Nat) (hi : i ≤ 9) (hn : n < 128 ^ i) (hb : b < 256) (h9 : ¬ (i = 9 ∧ 1 < b)) :
    bits BinOp.or IntKind.u64 (n : Int) (IntKind.u64.wrap (IntKind.u64.wrap (bits BinOp.and IntKind.u8 (b : Int) 127) * 2 ^ (7 * i))) = ((n + b % 128 * 128 ^ i : Nat) : Int) ∧ n + b % 128 * 128 ^ i < 128 ^ (i + 1) ∧ n + b % 128 * 128 ^ i < 18446744073709551616 := by
  have e1 : bits BinOp.and IntKind.u8 (b : Int) 127 = ((b % 128 : Nat) : Int) := by
    rw [show (127 : Int) = ((127 : Nat) : Int) from rfl, u8_and_nat _ _ hb (by decide), nat_mask7]
  have e2 : (128 : Nat) ^ i = 2 ^ (7 * i) := by rw [Nat.pow_mul]
  have hlt : b % 128 * 128 ^ i + 128 ^ i ≤ 128 ^ (i + 1) := by
    rw [Nat.pow_succ, Nat.mul_comm (128 ^ i) 128, ← Nat.succ_mul]
    exact Nat.mul_le_mul_right _ (by omega)
  have hlt2 : n + b % 128 * 128 ^ i < 18446744073709551616 := by
    by_cases h : i = 9
    · subst h
      have : b % 128 ≤ 1 := by omega
      have h2 : b % 128 * 128 ^ 9 ≤ 1 * 128 ^ 9 := Nat.mul_le_mul_right _ this
      have : (128 : Nat) ^ 9 = 9223372036854775808 := by decide
      omega
    · have h2 : (128 : Nat) ^ (i + 1) ≤ 128 ^ 9 := Nat.pow_le_pow_right (by decide) (by omega)
      have : (128 : Nat) ^ 9 = 9223372036854775808 := by decide
      omega
  refine ⟨?_, by omega, hlt2⟩
  rw [e1, show IntKind.u64.wrap (((b % 128 : Nat) : Int)) = ((b % 128 : Nat) : Int) from by rw [IntKind.wrap_u64]; omega, show ((2 : Int) ^ (7 * i)) = ((2 ^ (7 * i) : Nat) : Int) from by simp, ← Int.natCast_mul, ← e2, IntKind.wrap_u64]
  rw [show (((b % 128 * 128 ^ i : Nat) : Int) % 18446744073709551616) = ((b % 128 * 128 ^ i : Nat) : Int) from by omega]
  rw [u64_or_nat _ _ (by omega) (by omega)]
  congr 1
  rw [Nat.or_comm, nat_join (7 * i) _ _ (by rw [← e2]; exact Nat.mul_mod_left _ _) (by rw [← e2]; exact hn)]
  omega

theorem getF_bad (f i n : Nat) (b : UInt8) (r : List UInt8) (h : i = 9 ∧ 1 < b.toNat ∨ 0 < i ∧ b.toNat = 0) : getF (f + 1) i n (b :: r) = (0, 0, 4) := by rw [getF, if_pos h]
theorem getF_last (f i n : Nat) (b : UInt8) (r : List UInt8) (h : ¬ (i = 9 ∧ 1 < b.toNat ∨ 0 < i ∧ b.toNat = 0)) (h2 : b.toNat < 128) : getF (f + 1) i n (b :: r) = (n + b.toNat % 128 * 128 ^ i, i + 1, 0) := by rw [getF, if_neg h, if_pos h2]
theorem getF_more (f i n : Nat) (b : UInt8) (r : List UInt8) (h : ¬ (i = 9 ∧ 1 < b.toNat ∨ 0 < i ∧ b.toNat = 0)) (h2 : ¬ b.toNat < 128) : getF (f + 1) i n (b :: r) = getF f (i + 1) (n + b.toNat % 128 * 128 ^ i) r := by rw [getF, if_neg h, if_neg h2]

set_option maxRecDepth 100000 in
theorem get_any (s : ByteArray) (hs : s.size ≤ maxLen) (W : World) :
    Calls Try.prog 44 #[.string s] W fun e w' => e = .returned (getV (getB s.data.toList)) ∧ W = w' := by
  unfold maxLen at hs
  go_enter Try.func44, Try.ntmps44
  go_wp2_with (fail)
  go_loop [5, 6] (fun x y => ∃ i n : Nat, i ≤ 10 ∧ i ≤ s.size ∧ n < 128 ^ i ∧ n < 18446744073709551616 ∧ x = .int .u64 n ∧ y = .int .i64 i ∧ Hid (getB s.data.toList = getF (10 - i) i n (s.data.toList.drop i))) (fun _ y => 10 - (intOf y).toNat)
  case atStart => exact ⟨0, 0, by omega, by omega, by decide, by decide, rfl, rfl, rfl⟩
  case round =>
    obtain ⟨i, n, hi, his, hn, hn2, rfl, rfl, hget⟩ := hrel
    by_cases h10 : i < 10
    · by_cases hsz : i = s.size
      · have e : getB s.data.toList = (0, 0, 3) := by
          rw [hget.out, hsz, List.drop_of_length_le (by simp)]
          obtain ⟨k, hk⟩ : ∃ k, 10 - s.size = k + 1 := ⟨9 - s.size, by omega⟩
          rw [hk]; rfl
        have E := Lib.hid e
        clear e hget
        have hb : ((i : Int) == (s.size : Int)) = true := by simp [hsz]
        go_wp2
        go_ret3
        exact ⟨by rw [E.out]; rfl, rfl⟩
      · have hb : ((i : Int) == (s.size : Int)) = false := by simp; omega
        have hlt : i < s.size := by omega
        have hdrop : s.data.toList.drop i = s[i] :: s.data.toList.drop (i + 1) := by
          rw [List.drop_eq_getElem_cons (by simpa using hlt)]; rfl
        obtain ⟨g, hg⟩ : ∃ g, 10 - i = g + 1 := ⟨9 - i, by omega⟩
        have hg2 : 10 - (i + 1) = g := by omega
        have HG : Hid (getB s.data.toList = getF (g + 1) i n (s[i] :: s.data.toList.drop (i + 1))) := by
          show getB s.data.toList = _
          rw [hget.out, hg, hdrop]
        have HG2 := Lib.hid hg2
        clear hdrop hget hg hg2
        rcases Bool.eq_false_or_eq_true ((i : Int) == 9) with t9 | t9 <;> rcases Bool.eq_false_or_eq_true ((s[i].toNat : Int) == 0) with t0 | t0 <;> by_cases t1 : (1 : Int) < (s[i].toNat : Int) <;> by_cases ti : (0 : Int) < (i : Int) <;> by_cases tl : (s[i].toNat : Int) < 128
        all_goals first | (exfalso; (have a9 := t9; have a0 := t0; simp at a9 a0; omega)) | skip
        all_goals first
          | (have hbad : i = 9 ∧ 1 < s[i].toNat ∨ 0 < i ∧ s[i].toNat = 0 := (by (have a9 := t9; have a0 := t0; simp at a9 a0; omega))
             have E : Hid (getB s.data.toList = (0, 0, 4)) := (by (show getB s.data.toList = _; rw [HG.out, getF_bad _ _ _ _ _ hbad]))
             clear HG HG2 hbad
             go_wp2_with (fail)
             go_ret3
             exact ⟨by rw [E.out]; rfl, rfl⟩)
          | (have hbad : ¬ (i = 9 ∧ 1 < s[i].toNat ∨ 0 < i ∧ s[i].toNat = 0) := (by (have a9 := t9; have a0 := t0; simp at a9 a0; omega))
             have hlast : s[i].toNat < 128 := (by omega)
             have ST := Lib.hid (step_or n i s[i].toNat (by omega) hn s[i].toNat_lt (by omega))
             have E : Hid (getB s.data.toList = (n + s[i].toNat % 128 * 128 ^ i, i + 1, 0)) := (by (show getB s.data.toList = _; rw [HG.out, getF_last _ _ _ _ _ hbad hlast]))
             clear HG HG2 hbad
             go_wp2_with (fail)
             go_ret3
             exact ⟨by rw [E.out, getV, ← ST.out.1]; rfl, rfl⟩)
          | (have hbad : ¬ (i = 9 ∧ 1 < s[i].toNat ∨ 0 < i ∧ s[i].toNat = 0) := (by (have a9 := t9; have a0 := t0; simp at a9 a0; omega))
             have hlast : ¬ s[i].toNat < 128 := (by omega)
             have ST := Lib.hid (step_or n i s[i].toNat (by omega) hn s[i].toNat_lt (by omega))
             have E : Hid (getB s.data.toList = getF g (i + 1) (n + s[i].toNat % 128 * 128 ^ i) (s.data.toList.drop (i + 1))) := (by (show getB s.data.toList = _; rw [HG.out, getF_more _ _ _ _ _ hbad hlast]))
             clear HG hbad
             go_wp2_with (fail)
             go_round
             case rel => exact ⟨i + 1, _, by omega, by omega, ST.out.2.1, ST.out.2.2, val_int ST.out.1, by go_num, by rw [HG2.out]; exact E⟩
             case measure => simp [intOf]; omega)
          | skip
    · obtain rfl : i = 10 := by omega
      have E : Hid (getB s.data.toList = (0, 0, 4)) := by
        show getB s.data.toList = _
        rw [hget.out]; rfl
      clear hget
      go_wp2_with (fail)
      go_ret3
      exact ⟨by rw [E.out]; rfl, rfl⟩

theorem get_as (s : ByteArray) (hs : s.size ≤ maxLen) (n k e : Nat) (h : getB s.data.toList = (n, k, e)) (W : World) :
    Calls Try.prog 44 #[.string s] W fun x w' => x = .returned (.tuple #[.int .u64 (n : Int), .int .i64 (k : Int), .int .i64 (e : Int)]) ∧ W = w' :=
  (get_any s hs W).mono fun x w' ⟨hx, hw⟩ => ⟨by rw [hx, h]; rfl, hw⟩

/-- what is read: no more than there is, no more than 64 bits; and nothing, where something is wrong -/
theorem getF_facts : ∀ (f i n : Nat) (l : List UInt8), i + f = 10 → n < 128 ^ i → n < 18446744073709551616 →
    (∃ k m, getF f i n l = (n + m * 128 ^ i, i + k, 0) ∧ 1 ≤ k ∧ k ≤ l.length ∧ n + m * 128 ^ i < 18446744073709551616 ∧ putF f m = l.take k ∧ (0 < i → m ≠ 0)) ∨ getF f i n l = (0, 0, 3) ∨ getF f i n l = (0, 0, 4) := by
  intro f
  induction f with
  | zero => intro i n l hi _ _; exact .inr (.inr rfl)
  | succ f ih =>
    intro i n l hi hn hn2
    cases l with
    | nil => exact .inr (.inl rfl)
    | cons b r =>
      by_cases hbad : i = 9 ∧ 1 < b.toNat ∨ 0 < i ∧ b.toNat = 0
      · exact .inr (.inr (getF_bad _ _ _ _ _ hbad))
      · have ST := step_or n i b.toNat (by omega) hn b.toNat_lt (by omega)
        by_cases hl : b.toNat < 128
        · refine .inl ⟨1, b.toNat, ?_, by omega, by simp, ?_, ?_, by omega⟩
          · rw [getF_last _ _ _ _ _ hbad hl, Nat.mod_eq_of_lt hl]
          · have := ST.2.2; rwa [Nat.mod_eq_of_lt hl] at this
          · rw [putF_small _ _ hl]; simp
        · rw [getF_more _ _ _ _ _ hbad hl]
          rcases ih (i + 1) (n + b.toNat % 128 * 128 ^ i) r (by omega) ST.2.1 ST.2.2 with ⟨k, m, h1, h2, h3, h4, h5, h6⟩ | h | h
          · have e : n + b.toNat % 128 * 128 ^ i + m * 128 ^ (i + 1) = n + (b.toNat % 128 + m * 128) * 128 ^ i := by
              rw [Nat.pow_succ, Nat.add_mul, Nat.mul_assoc m 128, Nat.mul_comm 128, Nat.add_assoc]
            rw [e] at h1 h4
            have hm := h6 (by omega)
            refine .inl ⟨k + 1, b.toNat % 128 + m * 128, ?_, by omega, by simp; omega, h4, ?_, by omega⟩
            · rw [h1, Nat.add_assoc, Nat.add_comm 1 k]
            · rw [putF_big _ _ (by omega)]
              have e1 : (b.toNat % 128 + m * 128) / 128 = m := by omega
              have e2 : (b.toNat % 128 + m * 128) % 128 + 128 = b.toNat := by have := b.toNat_lt; omega
              rw [e1, e2, h5]; simp
          · exact .inr (.inl h)
          · exact .inr (.inr h)

theorem getB_facts (l : List UInt8) : (∃ k m, getB l = (m, k, 0) ∧ 1 ≤ k ∧ k ≤ l.length ∧ m < 18446744073709551616 ∧ putB m = l.take k) ∨ getB l = (0, 0, 3) ∨ getB l = (0, 0, 4) := by
  rcases getF_facts 10 0 0 l rfl (by decide) (by decide) with ⟨k, m, h1, h2, h3, h4, h5, _⟩ | h | h
  · simp at h1 h4
    exact .inl ⟨k, m, h1, h2, h3, h4, h5⟩
  · exact .inr (.inl h)
  · exact .inr (.inr h)
end Go.Proofs.Ytppnaofebkpbkaa.get
/-
  num.Get of num.Put, whatever stands behind.
-/
namespace Go.Proofs.Ytppnaofebkpbkaa.get
open Go.RowKit kit put
set_option linter.unusedVariables false

theorem get_put : ∀ (f i n m : Nat) (more : List UInt8), i + f = 10 → n < 128 ^ i → (0 < i → m ≠ 0) → n + m * 128 ^ i < 18446744073709551616 →
    getF f i n (putF f m ++ more) = (n + m * 128 ^ i, i + (putF f m).length, 0) := by
  intro f
  induction f with
  | zero =>
    intro i n m more hi hn h0 hb
    have : i = 10 := by omega
    subst this
    have : m ≠ 0 := h0 (by omega)
    have : 1 * 128 ^ 10 ≤ m * 128 ^ 10 := Nat.mul_le_mul_right _ (by omega)
    have e : (128 : Nat) ^ 10 = 1180591620717411303424 := by decide
    omega
  | succ f ih =>
    intro i n m more hi hn h0 hb
    by_cases hs : m < 128
    · rw [putF_small _ _ hs]
      have e : (UInt8.ofNat m).toNat = m := by simp; omega
      have hbad : ¬ (i = 9 ∧ 1 < (UInt8.ofNat m).toNat ∨ 0 < i ∧ (UInt8.ofNat m).toNat = 0) := by
        rw [e]
        rintro (⟨h9, h1⟩ | ⟨h1, h2⟩)
        · subst h9
          have : 2 * 128 ^ 9 ≤ m * 128 ^ 9 := Nat.mul_le_mul_right _ (by omega)
          have e9 : (128 : Nat) ^ 9 = 9223372036854775808 := by decide
          omega
        · exact h0 h1 h2
      rw [List.singleton_append, getF_last _ _ _ _ _ hbad (by rw [e]; exact hs), e, Nat.mod_eq_of_lt hs]
      simp
    · have hbig := putF_big f m hs
      rw [hbig]
      have e : (UInt8.ofNat (m % 128 + 128)).toNat = m % 128 + 128 := by simp; omega
      have hi9 : i < 9 := by
        rcases Nat.lt_or_ge i 9 with h | h
        · exact h
        · have h2 : (128 : Nat) ^ 9 ≤ 128 ^ i := Nat.pow_le_pow_right (by decide) h
          have h3 : 128 * 128 ^ 9 ≤ m * 128 ^ i := Nat.mul_le_mul (by omega) h2
          have e3 : (128 : Nat) * 128 ^ 9 = 1180591620717411303424 := by decide
          omega
      have e5 : n + (m % 128 + 128) % 128 * 128 ^ i + m / 128 * 128 ^ (i + 1) = n + m * 128 ^ i := by
        have e6 : (m % 128 + 128) % 128 = m % 128 := by omega
        rw [e6, Nat.pow_succ, Nat.mul_comm (128 ^ i) 128, ← Nat.mul_assoc, Nat.add_assoc, ← Nat.add_mul]
        congr 2; omega
      rw [List.cons_append, getF_more _ _ _ _ _ (by rw [e]; omega) (by rw [e]; omega), e]
      rw [ih (i + 1) _ (m / 128) more (by omega) ((step_or n i (m % 128 + 128) (by omega) hn (by omega) (by omega)).2.1) (by omega) (by rw [e5]; exact hb), e5]
      simp; omega

theorem getB_put (n : Nat) (more : List UInt8) (hn : n < 18446744073709551616) : getB (putB n ++ more) = (n, (putB n).length, 0) := by
  have := get_put 10 0 0 n more rfl (by decide) (by omega) (by omega)
  simpa [getB, putB] using this
end Go.Proofs.Ytppnaofebkpbkaa.get
/-
  runs.Write: what it answers, and the walk.
-/
namespace Go.Proofs.Ytppnaofebkpbkaa.runs
open Go.RowKit kit put
set_option linter.unusedVariables false

def rowI (w : Int) : List Value := [Value.int .i64 w]
def badX : List Int → Bool
  | [] => false
  | x :: l => if x < 0 ∨ 15 < x then true else badX l
def writeErr (l : List Int) : Nat := if 320 < l.length then 2 else if badX l = true then 1 else 0
/-- how many more of x stand ahead, c at most -/
def lead : Nat → Int → List Int → Nat
  | 0, _, _ => 0
  | _ + 1, _, [] => 0
  | c + 1, x, y :: l => if y = x then lead c x l + 1 else 0
/-- the bytes of the runs -/
def wF : Nat → List Int → List UInt8
  | 0, _ => []
  | _ + 1, [] => []
  | f + 1, x :: l => UInt8.ofNat (x.toNat * 16 + lead 15 x l) :: wF f (l.drop (lead 15 x l))
def writeB (l : List Int) : List UInt8 := putB l.length ++ wF l.length l
def writeS (l : List Int) : ByteArray := if writeErr l = 0 then ⟨(writeB l).toArray⟩ else ⟨#[]⟩

theorem badX_app (a b : List Int) : badX (a ++ b) = (badX a || badX b) := by
  induction a with
  | nil => simp [badX]
  | cons p a ih =>
    rw [List.cons_append, badX, badX, ih]
    split <;> simp
theorem badX_next {l : List Int} {k : Nat} {w : Int} (hp : l[k]? = some w) (h0 : badX (l.take k) = false) (hw : ¬ (w < 0 ∨ 15 < w)) : badX (l.take (k + 1)) = false := by
  rw [take_one hp, badX_app, h0, badX, if_neg hw]; rfl
theorem badX_at {l : List Int} {k : Nat} {w : Int} (hp : l[k]? = some w) (hw : w < 0 ∨ 15 < w) : badX l = true := by
  have e1 : l = l.take k ++ (w :: l.drop (k + 1)) := by
    conv => lhs; rw [← List.take_append_drop k l]
    rw [List.drop_eq_getElem_cons (List.getElem?_eq_some_iff.1 hp).1, (List.getElem?_eq_some_iff.1 hp).2]
  rw [e1, badX_app, badX, if_pos hw, Bool.or_true]
theorem badX_mem {l : List Int} (h : badX l = false) {w : Int} (hw : w ∈ l) : 0 ≤ w ∧ w ≤ 15 := by
  induction l with
  | nil => cases hw
  | cons p l ih =>
    unfold badX at h
    split at h
    · cases h
    · rcases List.mem_cons.1 hw with rfl | hw
      · omega
      · exact ih h hw

theorem wF_fuel : ∀ (f g : Nat) (l : List Int), l.length ≤ f → l.length ≤ g → wF f l = wF g l
  | 0, g, l, h, _ => by
    have : l = [] := List.eq_nil_of_length_eq_zero (by omega)
    subst this
    cases g <;> rfl
  | f + 1, 0, l, _, h => by
    have : l = [] := List.eq_nil_of_length_eq_zero (by omega)
    subst this
    rfl
  | f + 1, g + 1, [], _, _ => rfl
  | f + 1, g + 1, x :: l, h1, h2 => by
    rw [wF, wF]
    simp only [List.length_cons] at h1 h2
    rw [wF_fuel f g _ (by simp; omega) (by simp; omega)]
theorem lead_len : ∀ (c : Nat) (x : Int) (l : List Int), lead c x l ≤ l.length ∧ lead c x l ≤ c
  | 0, _, l => by simp [lead]
  | _ + 1, _, [] => by simp [lead]
  | c + 1, x, y :: l => by
    rw [lead]
    have := lead_len c x l
    split <;> simp <;> omega
/-- the bytes from place k on -/
def restB (xs : List Int) (k : Nat) : List UInt8 := wF xs.length (xs.drop k)
theorem restB_step {xs : List Int} {k : Nat} {x : Int} (h : xs[k]? = some x) {L : Nat} (hL : lead 15 x (xs.drop (k + 1)) = L) : restB xs k = UInt8.ofNat (x.toNat * 16 + L) :: restB xs (k + 1 + L) := by
  have hk := (List.getElem?_eq_some_iff.1 h).1
  unfold restB
  rw [List.drop_eq_getElem_cons hk, (List.getElem?_eq_some_iff.1 h).2, wF_fuel xs.length ((xs.drop (k + 1)).length + 1) _ (by simp; omega) (by simp), wF, hL, List.drop_drop]
  rw [wF_fuel xs.length (xs.drop (k + 1)).length _ (by simp) (by simp; omega)]
theorem restB_end (xs : List Int) : restB xs xs.length = [] := by
  unfold restB
  rw [List.drop_length]
  cases xs.length <;> rfl
theorem lead_same {xs : List Int} {k m : Nat} {x : Int} (h : xs[k + m]? = some x) (hm : m < 16) : lead (16 - m) x (xs.drop (k + m)) = lead (16 - (m + 1)) x (xs.drop (k + (m + 1))) + 1 := by
  have hk := (List.getElem?_eq_some_iff.1 h).1
  rw [List.drop_eq_getElem_cons hk, (List.getElem?_eq_some_iff.1 h).2, show 16 - m = (16 - (m + 1)) + 1 from by omega, lead, if_pos rfl]
  rfl
theorem lead_other {xs : List Int} {k m : Nat} {x y : Int} (h : xs[k + m]? = some y) (hxy : y ≠ x) : lead (16 - m) x (xs.drop (k + m)) = 0 := by
  have hk := (List.getElem?_eq_some_iff.1 h).1
  rw [List.drop_eq_getElem_cons hk, (List.getElem?_eq_some_iff.1 h).2]
  cases 16 - m with
  | zero => rfl
  | succ c => rw [lead, if_neg hxy]
theorem lead_nil {xs : List Int} {k m : Nat} {x : Int} (h : xs.length ≤ k + m) : lead (16 - m) x (xs.drop (k + m)) = 0 := by
  rw [List.drop_of_length_le h]
  cases 16 - m <;> rfl

theorem byte_fin : ∀ a b : Fin 16, bits BinOp.or IntKind.i64 (((a.val : Nat) : Int) * 16) ((b.val : Nat) : Int) % 256 = ((UInt8.ofNat (a.val * 16 + b.val)).toNat : Int) := by decide
theorem byte_val (x : Int) (m : Nat) (hx : 0 ≤ x ∧ x ≤ 15) (hm : 1 ≤ m ∧ m ≤ 16) : bits BinOp.or IntKind.i64 (x * 16) ((m : Int) - 1) % 256 = ((UInt8.ofNat (x.toNat * 16 + (m - 1))).toNat : Int) := by
  have h := byte_fin ⟨x.toNat, by omega⟩ ⟨m - 1, by omega⟩
  simp only at h
  rw [Int.toNat_of_nonneg hx.1, show ((m - 1 : Nat) : Int) = (m : Int) - 1 from by omega] at h
  exact h
theorem write_more {xs : List Int} {l : List UInt8} {k m : Nat} {x : Int} (h : writeB xs = l ++ restB xs k) (hp : xs[k]? = some x) (hm : 1 ≤ m) (hL : lead 15 x (xs.drop (k + 1)) = m - 1) : writeB xs = (l ++ [UInt8.ofNat (x.toNat * 16 + (m - 1))]) ++ restB xs (k + m) := by
  rw [h, restB_step hp hL, show k + 1 + (m - 1) = k + m from by omega]
  simp

set_option maxHeartbeats 4000000 in
set_option maxRecDepth 100000 in
theorem write_any (v : Value) (xs : List Int) (W : World) (hs : SliceAt W 1 v (xs.map rowI)) (hg : ∀ x ∈ xs, (Lit.int .i64 x).wf = true) (hn : xs.length ≤ 1000000000000000) :
    Calls Try.prog 42 #[v] W fun e w' => e = .returned (.tuple #[.string (writeS xs), .int .i64 (writeErr xs : Int)]) ∧ Below W.heap.size W w' := by
  obtain ⟨q, cap, b, off, rfl, hq, hc⟩ := hs.view
  simp only [List.length_map] at hq ⊢
  have HQ := Lib.hid hq
  have HC : Hid (∀ k x, xs[k]? = some x → W.cell? ⟨b, off + k, none⟩ = some (.int .i64 x)) := fun k p hx => by
    have := hc k _ (by rw [List.getElem?_map, hx]; rfl) 0 _ rfl
    simpa [Nat.mul_one] using this
  clear hs hq hc
  by_cases hbig : (320 : Int) < (xs.length : Int)
  · have hE : writeErr xs = 2 := by rw [writeErr, if_pos (by omega)]
    have hS : writeS xs = ⟨#[]⟩ := by rw [writeS, if_neg (by rw [hE]; decide)]
    rw [hS, hE]
    go_enter Try.func42, Try.ntmps42
    go_wp2_with (fail)
    go_ret2
    exact ⟨rfl, Below.refl _ _⟩
  · have hn3 : xs.length ≤ 320 := by omega
    go_enter Try.func42, Try.ntmps42
    go_wp2_with (fail)
    go_loopw [14] (fun y wr => ∃ k : Nat, k ≤ xs.length ∧ y = .int .i64 k ∧ Hid (badX (xs.take k) = false) ∧ W = wr) (fun y _ => xs.length - (intOf y).toNat)
    case atStart => exact ⟨0, Nat.zero_le _, rfl, rfl, rfl⟩
    case round =>
      obtain ⟨k, hk, rfl, hfe, rfl⟩ := hrel
      by_cases hlt : k < xs.length
      · obtain ⟨rfl, hblk⟩ := HQ.out k hlt
        obtain ⟨x, hp⟩ : ∃ p, xs[k]? = some p := ⟨_, List.getElem?_eq_getElem hlt⟩
        have hc0 := HC.out k _ hp
        have hltI : (k : Int) < (xs.length : Int) := by omega
        have hp2 := i64_bd (hg _ (List.mem_of_getElem? hp))
        have HP := Lib.hid hp
        clear hp
        by_cases hneg : x < 0
        · have hE : writeErr xs = 1 := by rw [writeErr, if_neg (by omega), if_pos (badX_at HP.out (.inl hneg))]
          have hS : writeS xs = ⟨#[]⟩ := by rw [writeS, if_neg (by rw [hE]; decide)]
          go_wp2_with (fail)
          go_ret2
          exact ⟨rfl, Below.refl _ _⟩
        · by_cases hbig : 15 < x
          · have hE : writeErr xs = 1 := by rw [writeErr, if_neg (by omega), if_pos (badX_at HP.out (.inr hbig))]
            have hS : writeS xs = ⟨#[]⟩ := by rw [writeS, if_neg (by rw [hE]; decide)]
            go_wp2_with (fail)
            go_ret2
            exact ⟨rfl, Below.refl _ _⟩
          · have HE := Lib.hid (badX_next HP.out hfe.out (by omega))
            go_wp2_with (fail)
            exact ⟨⟨k + 1, by omega, rfl, HE, trivial⟩, by show xs.length - (((k : Int) + 1).toNat) < xs.length - ((k : Int).toNat); omega⟩
      · have hke : k = xs.length := by omega
        subst hke
        rw [List.take_length] at hfe
        have hE : writeErr xs = 0 := by rw [writeErr, if_neg (by omega), if_neg (by rw [hfe.out]; decide)]
        have hS : writeS xs = ⟨(writeB xs).toArray⟩ := by rw [writeS, if_pos hE]
        have HE := Lib.hid hE
        have HS := Lib.hid hS
        clear hE hS
        have hu : (xs.length : Int) < 18446744073709551616 := by omega
        go_wp2_with (fail)
        refine (put_any xs.length (by omega) W).mono ?_
        rintro e W1 ⟨rfl, hb1⟩
        have hsz := hb1.size
        have hpl : (⟨(putB xs.length).toArray⟩ : ByteArray).size ≤ 11 := by rw [size_mk]; exact (putF_len 10 xs.length).2
        go_wp2_with (refine wpList_bytes_own rfl 9 36 5 _ rfl Try.underlying9 Try.underlying36 Try.underlying5 _ (by unfold maxLen; omega) rfl hb1 hsz ?_)
        intro ov W2 hown hb2
        clear hb1 hsz hpl
        go_wp2_with (fail)
        have h63 : xs.length ≤ 320 := hn3
        go_loopw [6, 7] (fun o y wr => ∃ (k : Nat) (l : List UInt8), k ≤ xs.length ∧ y = .int .i64 k ∧ BOwn wr W.heap.size 5 o l ∧ l.length ≤ 11 + k ∧ Hid (writeB xs = l ++ restB xs k) ∧ Below W.heap.size W wr) (fun _ y _ => xs.length - (intOf y).toNat)
        case atStart => exact ⟨0, putB xs.length, Nat.zero_le _, rfl, hown, by rw [Nat.add_zero]; exact (putF_len 10 xs.length).2, rfl, hb2⟩
        case round =>
          obtain ⟨k, l, hk, rfl, hown, hll, hwr, hb⟩ := hrel
          by_cases hlt : k < xs.length
          · obtain ⟨rfl, hblk⟩ := HQ.out k hlt
            obtain ⟨x, hp⟩ : ∃ p, xs[k]? = some p := ⟨_, List.getElem?_eq_getElem hlt⟩
            have hx := badX_mem hfe.out (List.mem_of_getElem? hp)
            have hltI : (k : Int) < (xs.length : Int) := by omega
            have HP := Lib.hid hp
            have HC0 := Lib.hid (HC.out k _ hp)
            clear hp
            obtain ⟨w0, rfl⟩ : ∃ w0, w0 = wr := ⟨_, rfl⟩
            go_wp2_with (fail)
            go_loopw [8] (fun y wx => ∃ m : Nat, 1 ≤ m ∧ m ≤ 16 ∧ k + m ≤ xs.length ∧ y = .int .i64 m ∧ Hid (lead 15 x (xs.drop (k + 1)) + 1 = m + lead (16 - m) x (xs.drop (k + m))) ∧ w0.grownBy wx none) (fun y _ => 16 - (intOf y).toNat)
            case atStart => exact ⟨1, by omega, by omega, by omega, rfl, by show _ + 1 = 1 + _; rw [Nat.add_comm], grown_refl _ _⟩
            case round =>
              obtain ⟨m, hm1, hm16, hkm, rfl, hlead, hgr⟩ := hrel
              have hb3 := below_ext hb hgr
              have c0 : ∀ x' : BW wr, x'.w.cell? ⟨b, off + k, none⟩ = some (.int .i64 x) := fun x' => ((hb3.trans (x'.h.mono hb3.size)).cell (p := ⟨b, off + k, none⟩) hblk).trans HC0.out
              have hexit : lead (16 - m) x (xs.drop (k + m)) = 0 → lead 15 x (xs.drop (k + 1)) = m - 1 := fun h => by have := hlead.out; omega
              by_cases hm : (m : Int) < 16
              · by_cases hin : (k : Int) + (m : Int) < (xs.length : Int)
                · obtain ⟨y, hy⟩ : ∃ y, xs[k + m]? = some y := ⟨_, List.getElem?_eq_getElem (by omega)⟩
                  have c1 : ∀ x' : BW wr, x'.w.cell? ⟨b, off + (k + m), none⟩ = some (.int .i64 y) := fun x' => ((hb3.trans (x'.h.mono hb3.size)).cell (p := ⟨b, off + (k + m), none⟩) hblk).trans (HC.out _ _ hy)
                  have HY := Lib.hid hy
                  clear hy
                  by_cases hxy : y = x
                  · subst hxy
                    have HL : Hid (lead 15 y (xs.drop (k + 1)) + 1 = (m + 1) + lead (16 - (m + 1)) y (xs.drop (k + (m + 1)))) := by
                      have := hlead.out; rw [lead_same HY.out (by omega)] at this; show _ = _; omega
                    clear hexit
                    go_wp2_with (fail)
                    refine wp_region_below (by kernel_rfl) (by kernel_rfl) ?_
                    repeat (go_big_quiet_step (fail))
                    refine wpQuiet_nil ?_
                    rintro _ ⟨wx, rfl⟩
                    go_wp2_with (fail)
                    exact ⟨⟨m + 1, by omega, by omega, by omega, rfl, HL, grown_trans hgr (grown_of_below wx.h)⟩, by show 16 - (((m : Int) + 1).toNat) < 16 - ((m : Int).toNat); omega⟩
                  · have hL := Lib.hid (hexit (lead_other HY.out hxy))
                    have hne : (y == x) = false := by simpa using hxy
                    clear hexit
                    go_wp2_with (fail)
                    refine wp_region_below (by kernel_rfl) (by kernel_rfl) ?_
                    repeat (go_big_quiet_step (fail))
                    refine wpQuiet_nil ?_
                    rintro _ ⟨wx, rfl⟩
                    have hgx := grown_trans hgr (grown_of_below wx.h)
                    generalize wx.w = w5 at hgx ⊢
                    have hb5 := below_ext hb hgx
                    have hsz5 := hb5.size
                    have c5 : w5.cell? ⟨b, off + k, none⟩ = some (.int .i64 x) := (hb5.cell (p := ⟨b, off + k, none⟩) hblk).trans HC0.out
                    have hown5 := hown.kept hgx
                    have hval0 := byte_val x m hx ⟨by omega, by omega⟩
                    have hw0 := write_more hwr.out HP.out (show 1 ≤ m by omega) hL.out
                    generalize UInt8.ofNat (x.toNat * 16 + (m - 1)) = c8 at hval0 hw0
                    have hval := Lib.hid hval0
                    have HW := Lib.hid hw0
                    clear hval0 hw0
                    clear wx c0 c1 hgx hb3 hgr hown
                    go_wp2_with (at_builtin; refine app_byte put.tBytes rfl (.tmp 59) (.tmp 69) rfl _ l _ c8 hval.out rfl rfl hown5 ?c2 hsz5 ?_)
                    case c2 => omega
                    intro v6 w6 hown6 hb6
                    have hb7 := hb5.trans hb6
                    clear hval hb6 hown5 c5 hsz5 hb5 hwr
                    go_wp2_with (fail)
                    exact ⟨⟨k + m, _, hkm, rfl, hown6, by simp; omega, HW, hb7⟩, by show xs.length - (((k : Int) + (m : Int)).toNat) < xs.length - ((k : Int).toNat); omega⟩
                · have hL := Lib.hid (hexit (lead_nil (by omega)))
                  have hinD : decide ((k : Int) + (m : Int) < (xs.length : Int)) = false := decide_eq_false hin
                  clear hexit
                  go_wp2_with (fail)
                  refine wp_region_below (by kernel_rfl) (by kernel_rfl) ?_
                  repeat (go_big_quiet_step (fail))
                  refine wpQuiet_nil ?_
                  rintro _ ⟨wx, rfl⟩
                  have hgx := grown_trans hgr (grown_of_below wx.h)
                  generalize wx.w = w5 at hgx ⊢
                  have hb5 := below_ext hb hgx
                  have hsz5 := hb5.size
                  have c5 : w5.cell? ⟨b, off + k, none⟩ = some (.int .i64 x) := (hb5.cell (p := ⟨b, off + k, none⟩) hblk).trans HC0.out
                  have hown5 := hown.kept hgx
                  have hval0 := byte_val x m hx ⟨by omega, by omega⟩
                  have hw0 := write_more hwr.out HP.out (show 1 ≤ m by omega) hL.out
                  generalize UInt8.ofNat (x.toNat * 16 + (m - 1)) = c8 at hval0 hw0
                  have hval := Lib.hid hval0
                  have HW := Lib.hid hw0
                  clear hval0 hw0
                  clear wx c0 hgx hb3 hgr hown
                  go_wp2_with (at_builtin; refine app_byte put.tBytes rfl (.tmp 59) (.tmp 69) rfl _ l _ c8 hval.out rfl rfl hown5 ?c2 hsz5 ?_)
                  case c2 => omega
                  intro v6 w6 hown6 hb6
                  have hb7 := hb5.trans hb6
                  clear hval hb6 hown5 c5 hsz5 hb5 hwr
                  go_wp2_with (fail)
                  exact ⟨⟨k + m, _, hkm, rfl, hown6, by simp; omega, HW, hb7⟩, by show xs.length - (((k : Int) + (m : Int)).toNat) < xs.length - ((k : Int).toNat); omega⟩
              · have : m = 16 := by omega
                subst this
                have hL := Lib.hid (hexit rfl)
                clear hexit
                go_wp2_with (fail)
                refine wp_region_below (by kernel_rfl) (by kernel_rfl) ?_
                repeat (go_big_quiet_step (fail))
                refine wpQuiet_nil ?_
                rintro _ ⟨wx, rfl⟩
                have hgx := grown_trans hgr (grown_of_below wx.h)
                generalize wx.w = w5 at hgx ⊢
                have hb5 := below_ext hb hgx
                have hsz5 := hb5.size
                have c5 : w5.cell? ⟨b, off + k, none⟩ = some (.int .i64 x) := (hb5.cell (p := ⟨b, off + k, none⟩) hblk).trans HC0.out
                have hown5 := hown.kept hgx
                have hval0 := byte_val x 16 hx ⟨by omega, by omega⟩
                have hw0 := write_more hwr.out HP.out (show 1 ≤ 16 by omega) hL.out
                generalize UInt8.ofNat (x.toNat * 16 + (16 - 1)) = c8 at hval0 hw0
                have hval := Lib.hid hval0
                have HW := Lib.hid hw0
                clear hval0 hw0
                clear wx c0 hgx hb3 hgr hown
                go_wp2_with (at_builtin; refine app_byte put.tBytes rfl (.tmp 59) (.tmp 69) rfl _ l _ c8 hval.out rfl rfl hown5 ?c2 hsz5 ?_)
                case c2 => omega
                intro v6 w6 hown6 hb6
                have hb7 := hb5.trans hb6
                clear hval hb6 hown5 c5 hsz5 hb5 hwr
                go_wp2_with (fail)
                exact ⟨⟨k + 16, _, hkm, rfl, hown6, by simp; omega, HW, hb7⟩, by show xs.length - (((k : Int) + (16 : Int)).toNat) < xs.length - ((k : Int).toNat); omega⟩
          · have hke : k = xs.length := by omega
            subst hke
            rw [restB_end, List.append_nil] at hwr
            have hst := hown.str (src := 36) (dst := 9) Try.underlying36 Try.underlying5 Try.underlying9
            go_wp2_with (fail)
            go_ret2
            exact ⟨by rw [HS.out, HE.out, hwr.out]; rfl, hb⟩
end Go.Proofs.Ytppnaofebkpbkaa.runs
/-
  runs.Read: what it answers, and the walk.
-/
namespace Go.Proofs.Ytppnaofebkpbkaa.runs
open Go.RowKit kit put get
set_option linter.unusedVariables false

/-- what is read of l, n elements being wanted, 'have' of them read, the last byte 'last': the elements, how many bytes, the error -/
def readF : List UInt8 → Nat → Nat → UInt8 → List Int × Nat × Nat
  | l, n, k, last =>
    if n ≤ k then ([], 0, 0) else
    match l with
    | [] => ([], 0, 3)
    | b :: l =>
      let many := b.toNat % 16 + 1
      if n < k + many ∨ (0 < k ∧ b.toNat / 16 = last.toNat / 16 ∧ last.toNat % 16 ≠ 15) then ([], 0, 4) else
        let r := readF l n (k + many) b
        if r.2.2 = 0 then (List.replicate many ((b.toNat / 16 : Nat) : Int) ++ r.1, r.2.1 + 1, 0) else r

def readB (s : List UInt8) : List Int × Nat × Nat :=
  let g := getB s
  if g.2.2 ≠ 0 then ([], 0, g.2.2) else
  if 320 < g.1 then ([], 0, 2) else
  let r := readF (s.drop g.2.1) g.1 0 255
  if r.2.2 = 0 then (r.1, r.2.1 + g.2.1, 0) else ([], 0, r.2.2)

def rCells (l : List Int) : List Value := l.map fun x => Value.int .i64 x

theorem readF_stop (l : List UInt8) (n k : Nat) (last : UInt8) (h : n ≤ k) : readF l n k last = ([], 0, 0) := by
  unfold readF; rw [if_pos h]
theorem readF_nil (n k : Nat) (last : UInt8) (h : ¬ n ≤ k) : readF [] n k last = ([], 0, 3) := by
  unfold readF; rw [if_neg h]
theorem readF_bad (l : List UInt8) (n k : Nat) (b last : UInt8) (h : ¬ n ≤ k) (hb : n < k + (b.toNat % 16 + 1) ∨ (0 < k ∧ b.toNat / 16 = last.toNat / 16 ∧ last.toNat % 16 ≠ 15)) : readF (b :: l) n k last = ([], 0, 4) := by
  conv => lhs; unfold readF
  rw [if_neg h]
  dsimp only
  rw [if_pos hb]
theorem readF_more (l : List UInt8) (n k : Nat) (b last : UInt8) (h : ¬ n ≤ k) (hb : ¬ (n < k + (b.toNat % 16 + 1) ∨ (0 < k ∧ b.toNat / 16 = last.toNat / 16 ∧ last.toNat % 16 ≠ 15))) :
    readF (b :: l) n k last = if (readF l n (k + (b.toNat % 16 + 1)) b).2.2 = 0 then (List.replicate (b.toNat % 16 + 1) ((b.toNat / 16 : Nat) : Int) ++ (readF l n (k + (b.toNat % 16 + 1)) b).1, (readF l n (k + (b.toNat % 16 + 1)) b).2.1 + 1, 0) else readF l n (k + (b.toNat % 16 + 1)) b := by
  conv => lhs; unfold readF
  rw [if_neg h]
  dsimp only
  rw [if_neg hb]

/-- where the loop stands -/
def Stands (L : List UInt8) (m at0 k : Nat) (last : UInt8) (done : List Int) : Prop :=
  readB L = (if (readF (L.drop at0) m k last).2.2 = 0 then (done ++ (readF (L.drop at0) m k last).1, (readF (L.drop at0) m k last).2.1 + at0, 0) else ([], 0, (readF (L.drop at0) m k last).2.2))
theorem Stands.stop {L : List UInt8} {m at0 k : Nat} {last : UInt8} {done : List Int} (h : Stands L m at0 k last done) (hk : m ≤ k) : readB L = (done, at0, 0) := by
  unfold Stands at h
  rw [readF_stop _ _ _ _ hk] at h
  simpa using h
theorem Stands.nil {L : List UInt8} {m at0 k : Nat} {last : UInt8} {done : List Int} (h : Stands L m at0 k last done) (hk : ¬ m ≤ k) (hl : L.length ≤ at0) : readB L = ([], 0, 3) := by
  unfold Stands at h
  rw [List.drop_of_length_le hl, readF_nil _ _ _ hk] at h
  simpa using h
theorem Stands.bad {L : List UInt8} {m at0 k : Nat} {b last : UInt8} {done : List Int} (h : Stands L m at0 k last done) (hk : ¬ m ≤ k) (hl : L[at0]? = some b) (hb : m < k + (b.toNat % 16 + 1) ∨ (0 < k ∧ b.toNat / 16 = last.toNat / 16 ∧ last.toNat % 16 ≠ 15)) : readB L = ([], 0, 4) := by
  unfold Stands at h
  rw [List.drop_eq_getElem_cons (List.getElem?_eq_some_iff.1 hl).1, (List.getElem?_eq_some_iff.1 hl).2, readF_bad _ _ _ _ _ hk hb] at h
  simpa using h
theorem Stands.more {L : List UInt8} {m at0 k : Nat} {b last : UInt8} {done : List Int} (h : Stands L m at0 k last done) (hk : ¬ m ≤ k) (hl : L[at0]? = some b) (hb : ¬ (m < k + (b.toNat % 16 + 1) ∨ (0 < k ∧ b.toNat / 16 = last.toNat / 16 ∧ last.toNat % 16 ≠ 15))) :
    Stands L m (at0 + 1) (k + (b.toNat % 16 + 1)) b (done ++ List.replicate (b.toNat % 16 + 1) ((b.toNat / 16 : Nat) : Int)) := by
  unfold Stands at h ⊢
  rw [List.drop_eq_getElem_cons (List.getElem?_eq_some_iff.1 hl).1, (List.getElem?_eq_some_iff.1 hl).2, readF_more _ _ _ _ _ hk hb] at h
  rw [h]
  by_cases h0 : (readF (L.drop (at0 + 1)) m (k + (b.toNat % 16 + 1)) b).2.2 = 0
  · rw [if_pos h0, if_pos rfl, if_pos h0, List.append_assoc, Nat.add_assoc, Nat.add_comm 1 at0]
  · rw [if_neg h0, if_neg h0, if_neg h0]

theorem own_len {w : World} {B e n : Nat} {v : Value} {xs : List Value} (h : w.ownsRow B e 1 v n xs) : ∃ q cap, v = .slice q n cap := by
  rcases h.2 with ⟨rfl, h0⟩ | ⟨g, cap, cur, rfl, _⟩
  · subst h0; exact ⟨_, _, rfl⟩
  · exact ⟨_, _, rfl⟩

set_option maxRecDepth 100000 in
theorem and15_fin : ∀ n : Fin 256, bits BinOp.and IntKind.u8 ((n.val : Nat) : Int) 15 = ((n.val % 16 : Nat) : Int) := by decide
theorem and15 (b : UInt8) : bits BinOp.and IntKind.u8 (b.toNat : Int) 15 = ((b.toNat % 16 : Nat) : Int) := and15_fin ⟨b.toNat, b.toNat_lt⟩

theorem tI : SliceTy Try.prog 22 3 1 8 (.int .i64 0) := sliceTy_mk Try.underlying22 (by kernel_rfl) rfl (by decide)

def ReadSays (s : ByteArray) (W : World) (e : Ending) (w' : World) : Prop :=
  ∃ ov, e = .returned (.tuple #[ov, .int .i64 ((readB s.data.toList).2.1 : Int), .int .i64 ((readB s.data.toList).2.2 : Int)]) ∧ w'.ownsRow W.heap.size 3 1 ov (readB s.data.toList).1.length (rCells (readB s.data.toList).1) ∧ Below W.heap.size W w'

theorem says_err {s : ByteArray} {W w' : World} {e : Nat} (h : readB s.data.toList = ([], 0, e)) (hb : Below W.heap.size W w') : ReadSays s W (.returned (.tuple #[.slice none 0 0, .int .i64 0, .int .i64 (e : Int)])) w' :=
  ⟨_, by rw [h]; rfl, by rw [h]; exact World.ownsRow_nil _ _ _ _, hb⟩

set_option maxRecDepth 100000 in
theorem read_any (s : ByteArray) (hs : s.size ≤ 1000000000000000) (W : World) :
    Calls Try.prog 70 #[.string s] W (ReadSays s W) := by
  rcases getB_facts s.data.toList with ⟨k, m, h1, h2, h3, h4, h5⟩ | h | h
  · have H := Lib.hid h1
    clear h5
    by_cases hbig : (320 : Int) < (m : Int)
    · have hE : readB s.data.toList = ([], 0, 2) := by unfold readB; rw [h1]; simp; omega
      have HE := Lib.hid hE
      clear h1 hE
      go_enter Try.func70, Try.ntmps70
      go_wp2_with (fail)
      refine (get_as s (by unfold maxLen; omega) m k 0 H.out _).mono ?_
      rintro e w' ⟨rfl, rfl⟩
      go_wp2_with (fail)
      go_ret3
      exact says_err HE.out (Below.refl _ _)
    · clear h1
      go_enter Try.func70, Try.ntmps70
      go_wp2_with (fail)
      refine (get_as s (by unfold maxLen; omega) m k 0 H.out _).mono ?_
      rintro e w' ⟨rfl, rfl⟩
      have hm3 : m ≤ 320 := by omega
      have hkk : k ≤ s.size := by rw [Lib.size_eq]; exact h3
      have hst0 : Hid (Stands s.data.toList m k 0 255 []) := by
        show Stands s.data.toList m k 0 255 []
        unfold Stands readB
        rw [H.out]
        simp only [ne_eq, not_true_eq_false, if_false, List.nil_append]
        rw [if_neg (by omega)]
      clear hbig h3 h2
      go_wp2_with (fail)
      go_loopw [6, 8, 9] (fun av o lv wr => ∃ (at0 : Nat) (last : UInt8) (done : List Int), at0 ≤ s.size ∧ done.length ≤ m ∧ av = .int .i64 at0 ∧ lv = .int .u8 (last.toNat : Int) ∧ wr.ownsRow W.heap.size 3 1 o done.length (rCells done) ∧ Hid (Stands s.data.toList m at0 done.length last done) ∧ Below W.heap.size W wr) (fun av _ _ _ => s.size - (intOf av).toNat)
      case atStart => exact ⟨k, 255, [], hkk, Nat.zero_le _, rfl, rfl, World.ownsRow_nil _ _ _ _, hst0, Below.refl _ _⟩
      case round =>
        obtain ⟨at0, last, done, hat, hdl, rfl, rfl, hown, hst, hb⟩ := hrel
        obtain ⟨q, cap, rfl⟩ := own_len hown
        have hsI : (s.size : Int) ≤ 1000000000000000 := by omega
        by_cases hfin : (done.length : Int) < (m : Int)
        · by_cases hend : (at0 : Int) = (s.size : Int)
          · have HE := Lib.hid (hst.out.nil (by omega) (by rw [← Lib.size_eq]; omega))
            have hee : ((at0 : Int) == (s.size : Int)) = true := by simpa using hend
            clear hend
            go_wp2_with (fail)
            go_ret3
            exact says_err HE.out hb
          · have hee : ((at0 : Int) == (s.size : Int)) = false := by simpa using hend
            have hlt : at0 < s.size := by omega
            have hltI : (at0 : Int) < (s.size : Int) := by omega
            obtain ⟨b, hbi⟩ : ∃ b, s[at0] = b := ⟨_, rfl⟩
            have hbl : s.data.toList[at0]? = some b := by
              rw [Lib.size_eq] at hlt
              rw [List.getElem?_eq_getElem hlt, ← hbi]
              rfl
            have HB := Lib.hid hbl
            obtain ⟨mq, hmq⟩ : ∃ mq, mq = b.toNat % 16 := ⟨_, rfl⟩
            obtain ⟨lq, hlq⟩ : ∃ lq, lq = last.toNat % 16 := ⟨_, rfl⟩
            have ha1 := and15 b
            have ha2 := and15 last
            rw [← hmq] at ha1
            rw [← hlq] at ha2
            have hm15 : mq ≤ 15 := by omega
            have hl15 : lq ≤ 15 := by omega
            have hd3 : done.length ≤ 320 := by omega
            have HMQ := Lib.hid hmq
            have HLQ := Lib.hid hlq
            clear hend hbl hmq hlq
            by_cases hov : (m : Int) < (done.length : Int) + ((mq : Int) + 1)
            · have HE := Lib.hid (hst.out.bad (by omega) HB.out (.inl (by rw [← HMQ.out]; omega)))
              go_wp2_with (fail)
              go_ret3
              exact says_err HE.out hb
            · by_cases hrep : 0 < done.length ∧ b.toNat / 16 = last.toNat / 16 ∧ lq ≠ 15
              · obtain ⟨r1, r2, r3⟩ := hrep
                have HE := Lib.hid (hst.out.bad (by omega) HB.out (.inr ⟨r1, r2, by rw [← HLQ.out]; exact r3⟩))
                have r1I : (0 : Int) < (done.length : Int) := by omega
                have r2I : (b.toNat : Int) / 16 = (last.toNat : Int) / 16 := by omega
                have r3I : ((lq : Int) != 15) = true := by simp; omega
                go_wp2_with (fail)
                go_ret3
                exact says_err HE.out hb
              · have hmore0 := hst.out.more (by omega) HB.out (by rw [← HMQ.out, ← HLQ.out]; omega)
                rw [← HMQ.out] at hmore0
                obtain ⟨vq, hvq⟩ : ∃ vq, vq = b.toNat / 16 := ⟨_, rfl⟩
                have hvI : (b.toNat : Int) / 16 = (vq : Int) := by omega
                have hv15 : vq ≤ 15 := by have := b.toNat_lt; omega
                have hmore : Stands s.data.toList m (at0 + 1) (done.length + (mq + 1)) b (done ++ List.replicate (mq + 1) (vq : Int)) := by rw [hvq]; exact hmore0
                clear hmore0
                by_cases r1 : (0 : Int) < (done.length : Int)
                · by_cases r2 : (b.toNat : Int) / 16 = (last.toNat : Int) / 16
                  · have r3 : lq = 15 := by omega
                    subst r3
                    have r2b : ((vq : Int) == (last.toNat : Int) / 16) = true := by simp; omega
                    clear hvq hrep r2
                    go_wp2_with (fail)
                    go_loopw [8, 66] (fun o y wx => ∃ j : Nat, j ≤ mq + 1 ∧ y = .int .i64 j ∧ wx.ownsRow W.heap.size 3 1 o (done.length + j) (rCells (done ++ List.replicate j (vq : Int))) ∧ Below W.heap.size W wx) (fun _ y _ => mq + 1 - (intOf y).toNat)
                    case atStart => exact ⟨0, Nat.zero_le _, rfl, by simpa using hown, hb⟩
                    case round =>
                      obtain ⟨j, hj, rfl, hown2, hb2⟩ := hrel
                      have hsz2 := hb2.size
                      by_cases hjl : (j : Int) < (mq : Int) + 1
                      · go_wp2_with (at_builtin; refine app1 tI rfl (.tmp 68) (.tmp 72) rfl _ _ (done.length + j) (rCells (done ++ List.replicate j (vq : Int))) rfl rfl hown2 rfl ?c3 ?c4 hb2 hsz2 ?_)
                        case c3 => omega
                        case c4 => unfold maxLen; omega
                        intro v' w1 hown1 _ hbel1 _
                        rw [show rCells (done ++ List.replicate j (vq : Int)) ++ [Value.int .i64 (vq : Int)] = rCells (done ++ List.replicate (j + 1) (vq : Int)) from by rw [List.replicate_succ']; simp [rCells]] at hown1
                        clear hown2
                        go_wp2_with (fail)
                        exact ⟨⟨j + 1, by omega, rfl, hown1, hbel1⟩, by show mq + 1 - (((j : Int) + 1).toNat) < mq + 1 - ((j : Int).toNat); omega⟩
                      · have hje : j = mq + 1 := by omega
                        subst hje
                        have hlen2 : (done ++ List.replicate (mq + 1) (vq : Int)).length = done.length + (mq + 1) := by simp
                        have HST := Lib.hid hmore
                        rw [← hlen2] at hown2 HST
                        have hdl2 : (done ++ List.replicate (mq + 1) (vq : Int)).length ≤ m := by rw [hlen2]; omega
                        generalize done ++ List.replicate (mq + 1) (vq : Int) = done2 at hown2 HST hdl2
                        clear hmore hlen2 hown
                        go_wp2_with (fail)
                        exact ⟨⟨at0 + 1, b, done2, by omega, hdl2, rfl, rfl, hown2, HST, hb2⟩, by show s.size - (((at0 : Int) + 1).toNat) < s.size - ((at0 : Int).toNat); omega⟩
                  · clear hvq hrep
                    go_wp2_with (fail)
                    go_loopw [8, 66] (fun o y wx => ∃ j : Nat, j ≤ mq + 1 ∧ y = .int .i64 j ∧ wx.ownsRow W.heap.size 3 1 o (done.length + j) (rCells (done ++ List.replicate j (vq : Int))) ∧ Below W.heap.size W wx) (fun _ y _ => mq + 1 - (intOf y).toNat)
                    case atStart => exact ⟨0, Nat.zero_le _, rfl, by simpa using hown, hb⟩
                    case round =>
                      obtain ⟨j, hj, rfl, hown2, hb2⟩ := hrel
                      have hsz2 := hb2.size
                      by_cases hjl : (j : Int) < (mq : Int) + 1
                      · go_wp2_with (at_builtin; refine app1 tI rfl (.tmp 68) (.tmp 72) rfl _ _ (done.length + j) (rCells (done ++ List.replicate j (vq : Int))) rfl rfl hown2 rfl ?c3 ?c4 hb2 hsz2 ?_)
                        case c3 => omega
                        case c4 => unfold maxLen; omega
                        intro v' w1 hown1 _ hbel1 _
                        rw [show rCells (done ++ List.replicate j (vq : Int)) ++ [Value.int .i64 (vq : Int)] = rCells (done ++ List.replicate (j + 1) (vq : Int)) from by rw [List.replicate_succ']; simp [rCells]] at hown1
                        clear hown2
                        go_wp2_with (fail)
                        exact ⟨⟨j + 1, by omega, rfl, hown1, hbel1⟩, by show mq + 1 - (((j : Int) + 1).toNat) < mq + 1 - ((j : Int).toNat); omega⟩
                      · have hje : j = mq + 1 := by omega
                        subst hje
                        have hlen2 : (done ++ List.replicate (mq + 1) (vq : Int)).length = done.length + (mq + 1) := by simp
                        have HST := Lib.hid hmore
                        rw [← hlen2] at hown2 HST
                        have hdl2 : (done ++ List.replicate (mq + 1) (vq : Int)).length ≤ m := by rw [hlen2]; omega
                        generalize done ++ List.replicate (mq + 1) (vq : Int) = done2 at hown2 HST hdl2
                        clear hmore hlen2 hown
                        go_wp2_with (fail)
                        exact ⟨⟨at0 + 1, b, done2, by omega, hdl2, rfl, rfl, hown2, HST, hb2⟩, by show s.size - (((at0 : Int) + 1).toNat) < s.size - ((at0 : Int).toNat); omega⟩
                · clear hvq hrep
                  go_wp2_with (fail)
                  go_loopw [8, 66] (fun o y wx => ∃ j : Nat, j ≤ mq + 1 ∧ y = .int .i64 j ∧ wx.ownsRow W.heap.size 3 1 o (done.length + j) (rCells (done ++ List.replicate j (vq : Int))) ∧ Below W.heap.size W wx) (fun _ y _ => mq + 1 - (intOf y).toNat)
                  case atStart => exact ⟨0, Nat.zero_le _, rfl, by simpa using hown, hb⟩
                  case round =>
                    obtain ⟨j, hj, rfl, hown2, hb2⟩ := hrel
                    have hsz2 := hb2.size
                    by_cases hjl : (j : Int) < (mq : Int) + 1
                    · go_wp2_with (at_builtin; refine app1 tI rfl (.tmp 68) (.tmp 72) rfl _ _ (done.length + j) (rCells (done ++ List.replicate j (vq : Int))) rfl rfl hown2 rfl ?c3 ?c4 hb2 hsz2 ?_)
                      case c3 => omega
                      case c4 => unfold maxLen; omega
                      intro v' w1 hown1 _ hbel1 _
                      rw [show rCells (done ++ List.replicate j (vq : Int)) ++ [Value.int .i64 (vq : Int)] = rCells (done ++ List.replicate (j + 1) (vq : Int)) from by rw [List.replicate_succ']; simp [rCells]] at hown1
                      clear hown2
                      go_wp2_with (fail)
                      exact ⟨⟨j + 1, by omega, rfl, hown1, hbel1⟩, by show mq + 1 - (((j : Int) + 1).toNat) < mq + 1 - ((j : Int).toNat); omega⟩
                    · have hje : j = mq + 1 := by omega
                      subst hje
                      have hlen2 : (done ++ List.replicate (mq + 1) (vq : Int)).length = done.length + (mq + 1) := by simp
                      have HST := Lib.hid hmore
                      rw [← hlen2] at hown2 HST
                      have hdl2 : (done ++ List.replicate (mq + 1) (vq : Int)).length ≤ m := by rw [hlen2]; omega
                      generalize done ++ List.replicate (mq + 1) (vq : Int) = done2 at hown2 HST hdl2
                      clear hmore hlen2 hown
                      go_wp2_with (fail)
                      exact ⟨⟨at0 + 1, b, done2, by omega, hdl2, rfl, rfl, hown2, HST, hb2⟩, by show s.size - (((at0 : Int) + 1).toNat) < s.size - ((at0 : Int).toNat); omega⟩
        · have HE := Lib.hid (hst.out.stop (by omega))
          go_wp2_with (fail)
          go_ret3
          exact ⟨_, by rw [HE.out]; rfl, by rw [HE.out]; exact hown, hb⟩
  all_goals
    have hE : readB s.data.toList = ([], 0, (getB s.data.toList).2.2) := by unfold readB; rw [h]; simp
    rw [h] at hE
    have HE := Lib.hid hE
    have H := Lib.hid h
    clear h hE
    go_enter Try.func70, Try.ntmps70
    go_wp2_with (fail)
    refine (get_as s (by unfold maxLen; omega) 0 0 _ H.out _).mono ?_
    rintro e w' ⟨rfl, rfl⟩
    go_wp2_with (fail)
    go_ret3
    exact says_err HE.out (Below.refl _ _)
end Go.Proofs.Ytppnaofebkpbkaa.runs
/-
  runs: what is written is read as it was, whatever stands behind (no program).
-/
namespace Go.Proofs.Ytppnaofebkpbkaa.runs
open Go.RowKit kit put get
set_option linter.unusedVariables false
theorem lead_take : ∀ (c : Nat) (x : Int) (l : List Int), l.take (lead c x l) = List.replicate (lead c x l) x
  | 0, _, l => by simp [lead]
  | _ + 1, _, [] => by simp [lead]
  | c + 1, x, y :: l => by
    rw [lead]
    split
    · rename_i h
      subst h
      rw [List.take_succ_cons, lead_take c y l, List.replicate_succ]
    · simp
theorem lead_head : ∀ (c : Nat) (x : Int) (l : List Int), lead c x l < c → ∀ r, l.drop (lead c x l) ≠ x :: r
  | 0, _, _, h => by omega
  | _ + 1, _, [], _ => by simp
  | c + 1, x, y :: l, h => by
    rw [lead] at h ⊢
    split at h
    · rename_i hy
      rw [if_pos hy, List.drop_succ_cons]
      exact lead_head c x l (by omega)
    · rename_i hy
      rw [if_neg hy, List.drop_zero]
      intro r e
      exact hy (List.cons.inj e).1

theorem byte_parts (x : Int) (L : Nat) (hx : 0 ≤ x ∧ x ≤ 15) (hL : L ≤ 15) : (UInt8.ofNat (x.toNat * 16 + L)).toNat % 16 = L ∧ (((UInt8.ofNat (x.toNat * 16 + L)).toNat / 16 : Nat) : Int) = x := by
  have e : (UInt8.ofNat (x.toNat * 16 + L)).toNat = x.toNat * 16 + L := by simp; omega
  rw [e]
  omega

/-- what was written is read, whatever stands behind -/
theorem readF_wF : ∀ (f : Nat) (l : List Int) (more : List UInt8) (n k : Nat) (last : UInt8), l.length ≤ f → n = k + l.length → (∀ x ∈ l, 0 ≤ x ∧ x ≤ 15) →
    (k = 0 ∨ last.toNat % 16 = 15 ∨ ∀ r, l ≠ ((last.toNat / 16 : Nat) : Int) :: r) → readF (wF f l ++ more) n k last = (l, (wF f l).length, 0)
  | f, [], more, n, k, last, _, hn, _, _ => by
    rw [readF_stop _ _ _ _ (by simp at hn; omega)]
    cases f <;> rfl
  | 0, x :: l, more, n, k, last, h, _, _, _ => by simp at h
  | f + 1, x :: l, more, n, k, last, h, hn, hx, hc => by
    have h2 := lead_len 15 x l
    have hx0 := hx x (List.mem_cons_self)
    obtain ⟨e1, e2⟩ := byte_parts x (lead 15 x l) hx0 h2.2
    rw [wF, List.cons_append]
    simp only [List.length_cons] at h hn
    have ih := readF_wF f (l.drop (lead 15 x l)) more n (k + (lead 15 x l + 1)) (UInt8.ofNat (x.toNat * 16 + lead 15 x l)) (by simp; omega) (by simp; omega) (fun y hy => hx y (List.mem_cons_of_mem _ (List.mem_of_mem_drop hy))) (by
      by_cases hl : lead 15 x l < 15
      · right; right
        rw [e2]
        exact lead_head 15 x l hl
      · right; left
        rw [e1]; omega)
    rw [readF_more _ _ _ _ _ (by omega) (by
      rw [e1]
      rintro (hb | ⟨hb1, hb2, hb3⟩)
      · omega
      · rcases hc with hc | hc | hc
        · omega
        · exact hb3 hc
        · exact hc l (by rw [← hb2, e2]))]
    rw [e1, ih, if_pos rfl, e2]
    simp only [Prod.mk.injEq, List.length_cons, and_true]
    have e3 : List.replicate (lead 15 x l) x ++ l.drop (lead 15 x l) = l := by rw [← lead_take 15 x l]; exact List.take_append_drop _ _
    rw [List.replicate_succ, List.cons_append, e3]

theorem read_write (l : List Int) (h : writeErr l = 0) (more : List UInt8) : readB (writeB l ++ more) = (l, (writeB l).length, 0) := by
  have hl : l.length ≤ 320 := by
    unfold writeErr at h
    split at h
    · cases h
    · omega
  have hbad : badX l = false := by
    unfold writeErr at h
    rw [if_neg (by omega)] at h
    cases hb : badX l with
    | false => rfl
    | true => rw [hb] at h; simp at h
  have h1 := readF_wF l.length l more l.length 0 255 (Nat.le_refl _) (by omega) (fun x hx => badX_mem hbad hx) (.inl rfl)
  unfold readB writeB
  rw [List.append_assoc, getB_put l.length _ (by omega)]
  simp only [ne_eq, not_true_eq_false, if_false]
  rw [if_neg (by omega), List.drop_left, h1]
  simp
  omega
end Go.Proofs.Ytppnaofebkpbkaa.runs
/-
  runs: as many bytes as there are turns, and one more for each further sixteen (no program).
-/
namespace Go.Proofs.Ytppnaofebkpbkaa.runs
open Go.RowKit kit put
set_option linter.unusedVariables false
/-- how often another element begins -/
def tn : Option Int → List Int → Nat
  | _, [] => 0
  | p, x :: l => (if p = some x then 0 else 1) + tn (some x) l

theorem tn_none (x : Int) (l : List Int) : tn none l ≤ tn (some x) l + 1 ∧ tn (some x) l ≤ tn none l := by
  cases l with
  | nil => simp [tn]
  | cons y l =>
    rw [tn, tn]
    simp only [reduceCtorEq, if_false]
    split <;> omega
theorem tn_lead : ∀ (c : Nat) (x : Int) (l : List Int), tn (some x) l = tn (some x) (l.drop (lead c x l))
  | 0, _, l => by simp [lead]
  | _ + 1, _, [] => by simp
  | c + 1, x, y :: l => by
    rw [lead]
    split
    · rename_i h
      subst h
      rw [List.drop_succ_cons, ← tn_lead c y l, tn, if_pos rfl, Nat.zero_add]
    · rw [List.drop_zero]
theorem tn_stop : ∀ (c : Nat) (x : Int) (l : List Int), lead c x l < c → tn none (l.drop (lead c x l)) = tn (some x) (l.drop (lead c x l))
  | 0, _, _, h => by omega
  | _ + 1, _, [], _ => by simp [tn]
  | c + 1, x, y :: l, h => by
    rw [lead] at h ⊢
    split at h
    · rename_i hy
      rw [if_pos hy, List.drop_succ_cons]
      exact tn_stop c x l (by omega)
    · rename_i hy
      rw [if_neg hy, List.drop_zero, tn, tn, if_neg (by simp), if_neg (by simpa using fun e => hy e.symm)]
theorem wF_short : ∀ (f : Nat) (l : List Int), (wF f l).length ≤ tn none l + l.length / 16 ∧ (wF f l).length ≤ l.length
  | 0, l => by simp [wF]
  | f + 1, [] => by simp [wF]
  | f + 1, x :: l => by
    rw [wF, List.length_cons, List.length_cons, tn, if_neg (by simp)]
    have ih := wF_short f (l.drop (lead 15 x l))
    have h1 := tn_lead 15 x l
    have h2 := lead_len 15 x l
    have h3 := tn_none x (l.drop (lead 15 x l))
    have h4 := tn_stop 15 x l
    rw [List.length_drop] at ih
    by_cases h : lead 15 x l < 15
    · have h5 := h4 h
      omega
    · have h6 : lead 15 x l = 15 := by omega
      rw [h6] at ih h1 h3 ⊢
      omega
theorem putB_two (n : Nat) (h : n ≤ 600) : (putB n).length ≤ 2 := by
  unfold putB
  by_cases h1 : n < 128
  · rw [putF_small 10 n h1]; simp
  · rw [putF_big 9 n h1, putF_small 9 (n / 128) (by omega)]; simp
theorem putB_one (n : Nat) (h : n < 128) : (putB n).length = 1 := by
  unfold putB
  rw [putF_small 10 n h]
  rfl
/-- how many are not nought -/
def nz : List Int → Nat
  | [] => 0
  | x :: l => (if x = 0 then 0 else 1) + nz l
theorem tn_nz : ∀ (l : List Int) (x : Int), tn (some x) l ≤ 2 * nz l + (if x = 0 then 0 else 1)
  | [], x => by rw [tn]; exact Nat.zero_le _
  | y :: l, x => by
    have h := tn_nz l y
    rw [tn, nz]
    by_cases hy : y = 0
    · rw [if_pos hy] at h ⊢
      by_cases hx : x = 0
      · rw [if_pos (by rw [hx, hy])]; omega
      · rw [if_neg hx]
        split <;> omega
    · rw [if_neg hy] at h ⊢
      split <;> split <;> omega
theorem tn_all (l : List Int) : tn none l ≤ 2 * nz l + 1 := by
  cases l with
  | nil => rw [tn]; exact Nat.zero_le _
  | cons x l =>
    have h := tn_nz l x
    rw [tn, nz, if_neg (by simp)]
    split at h
    · rename_i hx; rw [if_pos hx]; omega
    · rename_i hx; rw [if_neg hx]; omega
theorem writeB_nz (l : List Int) (h : l.length ≤ 600) : (writeB l).length ≤ 2 + (2 * nz l + 1) + l.length / 16 := by
  have h1 := putB_two l.length h
  have h2 := (wF_short l.length l).1
  have h3 := tn_all l
  unfold writeB
  rw [List.length_append]
  omega
end Go.Proofs.Ytppnaofebkpbkaa.runs
