/-
  The small separation logic: strings, numbers of all kinds, and drawn regions taken in the order of the text. Nothing here speaks of the program.
-/
import Derived.Test.YtcbpeampjhegcaaSlLend
import Derived.Laws.Strings2
import Derived.Laws.Strings3
import Derived.Laws.Concat
import Derived.Laws.BytesArg
namespace Go.Proofs.Ytcbpeampjhegcaa.sl
open Go.RowKit kit
set_option linter.unusedVariables false

/-- the string of these bytes -/
abbrev str (l : List UInt8) : ByteArray := ⟨l.toArray⟩
theorem str_size (l : List UInt8) : (str l).size = l.length := by simp [ByteArray.size]
theorem str_data (l : List UInt8) : (str l).data.toList = l := rfl
theorem str_of (s : ByteArray) : ∃ l, s = str l ∧ l.length = s.size := ⟨s.data.toList, by cases s; rfl, by cases s; simp [ByteArray.size]⟩
theorem str_eq {a b : List UInt8} (h : str a = str b) : a = b := by
  have := congrArg (fun s : ByteArray => s.data.toList) h
  simpa using this
theorem str_ne {a b : List UInt8} (h : a ≠ b) : str a ≠ str b := fun e => h (str_eq e)
theorem str_toList (l : List UInt8) : (str l).toList = l := by rw [Lib.toList_data]
theorem str_extract (l : List UInt8) (i j : Nat) : (str l).extract i j = str ((l.drop i).take (j - i)) := by
  apply ByteArray.ext
  simp [ByteArray.extract, ByteArray.copySlice]
theorem str_cat (a b : List UInt8) : str a ++ str b = str (a ++ b) := by
  apply ByteArray.ext
  simp
class Knd (P : Program) (t : TypeId) : Prop where
  h : (P.underlying t).isSome = true
instance {P : Program} {t : TypeId} {k : IntKind} [h : IntK P t k] : Knd P t := ⟨by rw [h.h]; rfl⟩
section
variable {P : Program} {n : Nat} {F : Frm} {H R : List Ent} {o : Oper} {x y z : Operand} {v u z' : Value} {T S : TypeId}
/-! ### strings -/
theorem q_lenl {t : Nat} {l : List UInt8} [ht : Strg P t] (ho : o.op = .call { callee := .builtin .len, args := #[x], argTypes := #[t] }) (hx : ev F x = some (.string (str l))) : Qt P n o F H (.int .i64 (l.length : Int)) := by
  have := q_len_str (P := P) (n := n) (H := H) (ht := ht) ho hx
  rwa [str_size] at this
theorem q_cat {a b : List UInt8} {T' : TypeId} (ho : o.op = .binOp .add T x y T') (hx : ev F x = some (.string (str a))) (hy : ev F y = some (.string (str b))) (h : a.length + b.length ≤ 9223372036854775807) : Qt P n o F H (.string (str (a ++ b))) := fun ac w ha _ => by
  have h2 := run_string_add_sum (P := P) (w := w) (str a) (str b) (by rw [str_size, str_size]; exact h)
  simp only [execOp, ho, ha.eval hx, ha.eval hy, eqGuard, Bool.not_false, if_true, binOp_string_add, Sem.run_bind, Sem.run_pure, Result.andThen_ok, h2, str_cat]
theorem q_seqq {a b : List UInt8} {T' : TypeId} {r : Bool} (ho : o.op = .binOp .eql T x y T') (hx : ev F x = some (.string (str a))) (hy : ev F y = some (.string (str b))) (hr : (a == b) = r) : Qt P n o F H (.bool r) := by
  have := q_str_eql (P := P) (n := n) (H := H) ho hx hy
  rw [str_toList, str_toList, hr] at this
  exact this
theorem q_sneqq {a b : List UInt8} {T' : TypeId} {r : Bool} (ho : o.op = .binOp .neq T x y T') (hx : ev F x = some (.string (str a))) (hy : ev F y = some (.string (str b))) (hr : (a == b) = r) : Qt P n o F H (.bool (!r)) := by
  have := q_str_neq (P := P) (n := n) (H := H) ho hx hy
  rw [str_toList, str_toList, hr] at this
  exact this
theorem q_idx {k : IntKind} {i : Int} {j : Nat} {l : List UInt8} {b : UInt8} [ht : Strg P T] (ho : o.op = .index T x y) (hx : ev F x = some (.string (str l))) (hy : ev F y = some (.int k i)) (hi : i = (j : Int)) (hb : l[j]? = some b) : Qt P n o F H (.int .u8 (b.toNat : Int)) := fun a w ha _ => by
  subst hi
  obtain ⟨hl, hb⟩ := List.getElem?_eq_some_iff.1 hb
  have h1 := run_index_string (P := P) w T (str l) k (j : Int) ht.h
  rw [dif_pos ⟨by omega, by rw [str_size]; omega⟩] at h1
  simp only [execOp, ho, ha.eval hx, ha.eval hy, Sem.run_bind, h1, Result.andThen_ok, Sem.run_pure, Int.toNat_natCast]
  have : (str l)[j]'(by rw [str_size]; exact hl) = b := by rw [← hb]; rfl
  rw [this]
theorem q_subs {k k' : IntKind} {i j : Int} {i' j' : Nat} {l m : List UInt8} [ht : Strg P T] (ho : o.op = .slice T x (some y) (some z) none) (hx : ev F x = some (.string (str l))) (hy : ev F y = some (.int k i)) (hz : ev F z = some (.int k' j)) (hi : i = (i' : Int)) (hj : j = (j' : Int)) (hij : i' ≤ j') (hjl : j' ≤ l.length) (hm : (l.drop i').take (j' - i') = m) : Qt P n o F H (.string (str m)) := fun a w ha _ => by
  subst hi
  subst hj
  subst hm
  have h1 := run_slice_string (P := P) w T (str l) k k' (i' : Int) (j' : Int) ht.h (by omega) (by omega) (by rw [str_size]; omega)
  simp only [execOp, ho, Option.map_some, Option.map_none, ha.eval hx, ha.eval hy, ha.eval hz, run_sliceAt_string w T _ _ _ _ ht.h, Sem.run_bind, h1, Result.andThen_ok, Sem.run_pure, Int.toNat_natCast, str_extract]
theorem q_subh {k' : IntKind} {j : Int} {j' : Nat} {l m : List UInt8} [ht : Strg P T] (ho : o.op = .slice T x none (some z) none) (hx : ev F x = some (.string (str l))) (hz : ev F z = some (.int k' j)) (hj : j = (j' : Int)) (hjl : j' ≤ l.length) (hm : l.take j' = m) : Qt P n o F H (.string (str m)) := fun a w ha _ => by
  subst hj
  subst hm
  have h1 := run_slice_string_h (P := P) w T (str l) ht.h k' (j' : Int) (by omega) (by rw [str_size]; omega)
  simp only [execOp, ho, Option.map_some, Option.map_none, ha.eval hx, ha.eval hz, run_sliceAt_string w T _ _ _ _ ht.h, Sem.run_bind, h1, Result.andThen_ok, Sem.run_pure, Int.toNat_natCast, str_extract, List.drop_zero, Nat.sub_zero]
theorem q_subl {k : IntKind} {i : Int} {i' : Nat} {l m : List UInt8} [ht : Strg P T] (ho : o.op = .slice T x (some y) none none) (hx : ev F x = some (.string (str l))) (hy : ev F y = some (.int k i)) (hi : i = (i' : Int)) (hil : i' ≤ l.length) (hm : l.drop i' = m) : Qt P n o F H (.string (str m)) := fun a w ha _ => by
  subst hi
  subst hm
  have h1 := run_slice_string_l (P := P) w T (str l) ht.h k (i' : Int) (by omega) (by rw [str_size]; omega)
  have h2 : (l.drop i').take ((str l).size - i') = l.drop i' := by rw [str_size, List.take_of_length_le (by simp)]
  simp only [execOp, ho, Option.map_some, Option.map_none, ha.eval hx, ha.eval hy, run_sliceAt_string w T _ _ _ _ ht.h, Sem.run_bind, h1, Result.andThen_ok, Sem.run_pure, Int.toNat_natCast, str_extract, h2]
/-! ### truth values -/
theorem q_beql {a b r : Bool} {T' : TypeId} (ho : o.op = .binOp .eql T x y T') (hx : ev F x = some (.bool a)) (hy : ev F y = some (.bool b)) (hT : P.underlying T = some .bool) (hr : (a == b) = r) : Qt P n o F H (.bool r) := fun ac w ha _ => by
  subst hr
  have h1 : (Op.equal T (.bool a) (.bool b)).run P w = .ok (a == b) w := run_equalIn_bool w 9999 T a b hT
  simp [execOp, ho, ha.eval hx, ha.eval hy, eqGuard, binOp, h1]
theorem q_bneq {a b r : Bool} {T' : TypeId} (ho : o.op = .binOp .neq T x y T') (hx : ev F x = some (.bool a)) (hy : ev F y = some (.bool b)) (hT : P.underlying T = some .bool) (hr : (a != b) = r) : Qt P n o F H (.bool r) := fun ac w ha _ => by
  subst hr
  have h1 : (Op.equal T (.bool a) (.bool b)).run P w = .ok (a == b) w := run_equalIn_bool w 9999 T a b hT
  simp [execOp, ho, ha.eval hx, ha.eval hy, eqGuard, binOp, h1, bne]
/-! ### numbers -/
section ints
variable {k k' : IntKind} {i j r : Int} {T' : TypeId}
theorem q_conv [hs : Knd P S] [hd : IntK P T k'] (ho : o.op = .convert S T x) (hx : ev F x = some (.int k i)) (hr : k'.wrap i = r) : Qt P n o F H (.int k' r) := fun a w ha _ => by
  subst hr
  have hk : P.intKind T = k' := by simp [Program.intKind, hd.h]
  have h1 := run_convert_int (P := P) w S T k i hs.h (by rw [hk]; exact hd.h)
  simp only [execOp, ho, ha.eval hx, h1, hk, Sem.run_bind, Result.andThen_ok, Sem.run_pure]
theorem wr_i64 (h : -9223372036854775808 ≤ i ∧ i ≤ 9223372036854775807) : IntKind.i64.wrap i = i := IntWalk.i64_in _ h
theorem wr_u64 (h : 0 ≤ i ∧ i ≤ 18446744073709551615) : IntKind.u64.wrap i = i := IntWalk.u64_in _ h
theorem wr_u32 (h : 0 ≤ i ∧ i ≤ 4294967295) : IntKind.u32.wrap i = i := IntWalk.u32_in _ h
theorem wr_i32 (h : -2147483648 ≤ i ∧ i ≤ 2147483647) : IntKind.i32.wrap i = i := IntWalk.i32_in _ h
theorem wr_u8 (h : 0 ≤ i ∧ i ≤ 255) : IntKind.u8.wrap i = i := IntWalk.u8_in _ h
theorem wr_u8m : IntKind.u8.wrap i = i % 256 := IntKind.wrap_u8 i
theorem wr_u32m : IntKind.u32.wrap i = i % 4294967296 := IntKind.wrap_u32 i
theorem wr_u64m : IntKind.u64.wrap i = i % 18446744073709551616 := IntKind.wrap_u64 i
theorem q_ar_add (ho : o.op = .binOp .add T x y T') (hx : ev F x = some (.int k i)) (hy : ev F y = some (.int k j)) (hr : k.wrap (i + j) = r) : Qt P n o F H (.int k r) := hr ▸ q_add_w ho hx hy
theorem q_ar_sub (ho : o.op = .binOp .sub T x y T') (hx : ev F x = some (.int k i)) (hy : ev F y = some (.int k j)) (hr : k.wrap (i - j) = r) : Qt P n o F H (.int k r) := hr ▸ q_sub_w ho hx hy
theorem q_ar_mul (ho : o.op = .binOp .mul T x y T') (hx : ev F x = some (.int k i)) (hy : ev F y = some (.int k j)) (hr : k.wrap (i * j) = r) : Qt P n o F H (.int k r) := hr ▸ q_mul_w ho hx hy
theorem q_quo (ho : o.op = .binOp .quo T x y T') (hx : ev F x = some (.int .i64 i)) (hy : ev F y = some (.int .i64 j)) (h : 0 ≤ i ∧ i ≤ 9223372036854775807 ∧ 1 ≤ j) : Qt P n o F H (.int .i64 (i / j)) := fun a w ha _ => by
  have h1 := IntWalk.i64_quo i j h
  have h2 : ¬ j = 0 := by omega
  simp [execOp, ho, ha.eval hx, ha.eval hy, eqGuard, binOp, Op.intDiv, h2, h1]
theorem q_rem (ho : o.op = .binOp .rem T x y T') (hx : ev F x = some (.int .i64 i)) (hy : ev F y = some (.int .i64 j)) (h : 0 ≤ i ∧ 1 ≤ j) : Qt P n o F H (.int .i64 (i % j)) := fun a w ha _ => by
  have h1 := IntWalk.rem_in i j h.1
  have h2 : ¬ j = 0 := by omega
  simp [execOp, ho, ha.eval hx, ha.eval hy, eqGuard, binOp, Op.intDiv, h2, h1]
/-- 2 to the power j, as a literal -/
class Pw (j : Int) (p : outParam Int) : Prop where
  h : (2 : Int) ^ j.toNat = p
  lo : 0 ≤ j
  hi : j ≤ 64
theorem q_shr {p : Int} [hp : Pw j p] (ho : o.op = .binOp .shr T x y T') (hx : ev F x = some (.int k i)) (hy : ev F y = some (.int k' j)) (hb : Nat.ble j.toNat k.bits = true) : Qt P n o F H (.int k (i / p)) := fun a w ha _ => by
  have h0 := hp.lo
  have h1 : ¬ j < 0 := by omega
  have h2 : min j.toNat k.bits = j.toNat := Nat.min_eq_left (Nat.le_of_ble_eq_true hb)
  have h3 := hp.h
  have h4 : i.fdiv p = i / p := by
    rw [Int.fdiv_eq_ediv_of_nonneg]
    rw [← h3]
    exact Int.le_of_lt (Int.pow_pos (by decide))
  simp only [execOp, ho, ha.eval hx, ha.eval hy, eqGuard, Bool.not_false, if_true, binOp, Op.shift, h1, if_false, h2, h3, h4, Sem.run_bind, Sem.run_pure, Result.andThen_ok]
theorem q_shl {p : Int} [hp : Pw j p] (ho : o.op = .binOp .shl T x y T') (hx : ev F x = some (.int k i)) (hy : ev F y = some (.int k' j)) (hb : Nat.ble j.toNat k.bits = true) (hr : k.wrap (i * p) = r) : Qt P n o F H (.int k r) := fun a w ha _ => by
  have h0 := hp.lo
  have h1 : ¬ j < 0 := by omega
  have h2 : min j.toNat k.bits = j.toNat := Nat.min_eq_left (Nat.le_of_ble_eq_true hb)
  have h3 := hp.h
  subst hr
  simp only [execOp, ho, ha.eval hx, ha.eval hy, eqGuard, Bool.not_false, if_true, binOp, Op.shift, h1, if_false, h2, h3, Sem.run_bind, Sem.run_pure, Result.andThen_ok]
def isBit : BinOp → Bool
  | .and | .or | .xor | .andNot => true
  | _ => false
theorem q_bits {op : BinOp} (ho : o.op = .binOp op T x y T') (hop : isBit op = true) (hx : ev F x = some (.int k i)) (hy : ev F y = some (.int k j)) (hr : bits op k i j = r) : Qt P n o F H (.int k r) := fun a w ha _ => by
  subst hr
  cases op <;> first | (cases hop; done) | (simp [execOp, ho, ha.eval hx, ha.eval hy, eqGuard, binOp]; rfl)
end ints
/-! ### bytes and strings -/
def fY (b : UInt8) : List Value := [.int .u8 (b.toNat : Int)]
theorem one_fY (b : UInt8) : ∀ u ∈ fY b, u.oneCell' = true := by simp [fY, Value.oneCell']
/-- these cells are bytes -/
inductive U8s : List Value → List Int → Prop
  | nil : U8s [] []
  | cons {z xs zs} : U8s xs zs → U8s (.int .u8 z :: xs) (z :: zs)
theorem U8s.eq {xs : List Value} {zs : List Int} (h : U8s xs zs) : xs = zs.map (Value.int .u8) := by
  induction h with
  | nil => rfl
  | cons _ ih => rw [ih]; rfl
theorem u8s_flat : ∀ l : List UInt8, U8s (flat fY l) (l.map fun b => (b.toNat : Int))
  | [] => .nil
  | b :: l => .cons (u8s_flat l)
theorem q_bytes_str {e m : Nat} {xs : List Value} {zs : List Int} {l : List UInt8} [hs : Sli P S e] [he : IntK P e .u8] [hd : Strg P T] (ho : o.op = .convert S T x) (hx : ev F x = some v) (p : Pick (own v e 1 m xs) H R) (hz : U8s xs zs) (hl : (zs.map fun z => UInt8.ofNat z.toNat) = l) : Qt P n o F H (.string (str l)) := fun a w ha hw => by
  subst hl
  have hb : w.ownsRow 0 e 1 v m xs := hw.1 _ p.mem
  have hze := hz.eq
  have hlen : zs.length = m := by
    have := hb.1
    rw [hze] at this
    simpa using this
  have key : (convert S T v).run P w = .ok (.string (str (zs.map fun z => UInt8.ofNat z.toNat))) w := by
    rcases hb.2 with ⟨rfl, h0⟩ | ⟨g, cap, cur, rfl, h0, hg, h1, h2, h3, h4⟩
    · have : zs = [] := by
        apply List.eq_nil_of_length_eq_zero
        omega
      subst this
      rw [run_convert_bytes_nil (P := P) w S e hs.h he.h 0 0 T hd.h]
      rfl
    · rw [run_convert_bytes_arg (P := P) w S e hs.h he.h g 0 m cap zs hlen ?_ T hd.h]
      · rfl
      · intro i hi
        rw [cell_of_row _ _ _ _ _ _ hg, Nat.zero_add]
        have h5 : (cur.toList.take (m * 1))[i]? = xs[i]? := by rw [h4]
        rw [List.getElem?_take, if_pos (by omega)] at h5
        rw [← Array.getElem?_toList, h5, hze, List.getElem?_map, List.getElem?_eq_getElem (by omega)]
        simp [List.getD, List.getElem?_eq_getElem (show i < zs.length by omega)]
  simp only [execOp, ho, ha.eval hx, key, Sem.run_bind, Result.andThen_ok, Sem.run_pure]
theorem q_own_str {e m : Nat} {l : List UInt8} [hs : Sli P S e] [he : IntK P e .u8] [hd : Strg P T] (ho : o.op = .convert S T x) (hx : ev F x = some v) (p : Pick (own v e 1 m (flat fY l)) H R) : Qt P n o F H (.string (str l)) :=
  q_bytes_str ho hx p (u8s_flat l) (by
    rw [List.map_map]
    conv => rhs; rw [← List.map_id l]
    apply List.map_congr_left
    intro b _
    simp)
end
instance : Pw 1 2 := ⟨by decide, by decide, by decide⟩
instance : Pw 3 8 := ⟨by decide, by decide, by decide⟩
instance : Pw 4 16 := ⟨by decide, by decide, by decide⟩
instance : Pw 7 128 := ⟨by decide, by decide, by decide⟩
instance : Pw 8 256 := ⟨by decide, by decide, by decide⟩
instance : Pw 16 65536 := ⟨by decide, by decide, by decide⟩
instance : Pw 24 16777216 := ⟨by decide, by decide, by decide⟩
instance : Pw 31 2147483648 := ⟨by decide, by decide, by decide⟩
/-! ### a drawn region in the order of the text -/
section
variable {P : Program} {ops : Array Oper} {Q : Post} {n : Nat} {Hq : List Ent} {nk : List Nat} {r i m : Nat} {L : Array Bool} {F : Frm} {H : List Ent}
def DrnK (P : Program) (ops : Array Oper) (Q : Post) (n : Nat) (Hq : List Ent) (nk : List Nat) (r i m : Nat) (L : Array Bool) (F : Frm) (H : List Ent) : Prop := Drn P ops Q n Hq nk m L F H
theorem cod_drawn_k {id : Nat} {l : List Oper} (hm : P.follows .mixedOrders = true) (hl : l.length = m) (h : DrnK P l.toArray Q n H [] 1 0 m (Array.replicate m false) F H) : Cod P Q n (.region id l.toArray true) F H := by
  subst hl
  exact cod_drawn H [] hm h
theorem cod_drawn_ks {id : Nat} {l : List Oper} {Hq : List Ent} (is nk : List Nat) (hq : sel is H = Hq) (hm : P.follows .mixedOrders = true) (hl : l.length = m) (h : DrnK P l.toArray Q n Hq nk 1 0 m (Array.replicate m false) F H) : Cod P Q n (.region id l.toArray true) F H := by
  subst hl
  exact cod_drawn Hq nk hm h
theorem drnK_end (hr : Region.ready .any ops L = []) (h : Pst Q .normal n F H) : DrnK P ops Q n Hq nk r i 0 L F H := drn_done hr h
variable {d : Nat} {op : Op} {ty : TypeId} {ps : String} {af : Array Edge} {g : Option (Nat × Bool)} {v : Value}
theorem drnK_take (kd : Nat) (hi : ops[i]? = some ⟨some d, op, ty, ps, af, g⟩) (hk : opKind op = kd) (hg : Wtd ops F ⟨some d, op, ty, ps, af, g⟩) (hb : mayTake ops nk L i = true) (hs : HSub H Hq) (hd : Nat.blt d n = true) (hq : Qt P n ⟨some d, op, ty, ps, af, g⟩ F Hq v)
    (h : DrnK P ops Q n Hq nk r (i + 1) m (L.setIfInBounds i true) ((d, v) :: F) H) : DrnK P ops Q n Hq nk r i (m + 1) L F H := drn_take_s i hi hg hb hs hd hq h
theorem drnK_off {j t : Nat} {b : Bool} (hi : ops[i]? = some ⟨some d, op, ty, ps, af, some (j, b)⟩) (hsl : gslot ops j = some t) (hv : look F t = some (.bool (!b))) (hb : mayTake ops nk L i = true) (hs : HSub H Hq) (hd : Nat.blt d n = true)
    (h : DrnK P ops Q n Hq nk r (i + 1) m (L.setIfInBounds i true) ((d, undef) :: F) H) : DrnK P ops Q n Hq nk r i (m + 1) L F H := drn_off_s i hi hsl hv hb hs hd h
theorem drnK_done (hL : L.getD i false = true) (h : DrnK P ops Q n Hq nk r (i + 1) m L F H) : DrnK P ops Q n Hq nk r i m L F H := h
theorem drnK_skip (hs : Nat.blt i ops.size = true) (h : DrnK P ops Q n Hq nk r (i + 1) m L F H) : DrnK P ops Q n Hq nk r i m L F H := h
theorem drnK_wrap (hs : Nat.blt i ops.size = false) (h : DrnK P ops Q n Hq nk r 0 m L F H) : DrnK P ops Q n Hq nk (r + 1) i m L F H := h
theorem anyS_mono {S S' : World → Prop} (hS : ∀ w, S' w → S w) : ∀ (k : Nat) (L : Array Bool) (a : Act) (w : World), AnyS P ops Q S' nk k L a w → AnyS P ops Q S nk k L a w
  | 0, _, _, _, h => h
  | k + 1, _, _, _, h => ⟨h.1, fun i hi => wpOp_mono (fun a' w' h' => ⟨fun hn => hS w' (h'.1 hn), anyS_mono hS k _ a' w' h'.2⟩) (h.2 i hi)⟩
theorem drnK_more (hs : HSub H Hq) (h : DrnK P ops Q n H nk r i m L F H) : DrnK P ops Q n Hq nk r i m L F H := fun a w ha hw => anyS_mono hs _ _ _ _ (h a w ha hw)
theorem drnK_at (j : Nat) (h : DrnK P ops Q n Hq nk r j m L F H) : DrnK P ops Q n Hq nk r i m L F H := h
theorem drnK_oneq (kd : Nat) (hi : ops[i]? = some ⟨some d, op, ty, ps, af, g⟩) (hk : opKind op = kd) (hr : Region.ready .any ops L = [i]) (hg : Wtd ops F ⟨some d, op, ty, ps, af, g⟩) (hd : Nat.blt d n = true) (hq : Qt P n ⟨some d, op, ty, ps, af, g⟩ F H v) (hs : HSub H Hq)
    (h : DrnK P ops Q n Hq nk r (i + 1) m (L.setIfInBounds i true) ((d, v) :: F) H) : DrnK P ops Q n Hq nk r i (m + 1) L F H :=
  drn_one i hr (drn_s i hi hg hd (opr_of_qt hq) fun u H' ⟨h1, h2⟩ => by subst h1; subst h2; exact ⟨fun _ => hs, h⟩)
theorem drnK_ones (kd : Nat) {K : Value → List Ent → Prop} (hi : ops[i]? = some ⟨some d, op, ty, ps, af, g⟩) (hk : opKind op = kd) (hr : Region.ready .any ops L = [i]) (hg : Wtd ops F ⟨some d, op, ty, ps, af, g⟩) (hd : Nat.blt d n = true) (h : Opr P n ⟨some d, op, ty, ps, af, g⟩ F H K)
    (hk : ∀ v H', K v H' → (nk.contains i = false → HSub H' Hq) ∧ DrnK P ops Q n Hq nk r (i + 1) m (L.setIfInBounds i true) ((d, v) :: F) H') : DrnK P ops Q n Hq nk r i (m + 1) L F H := drn_one i hr (drn_s i hi hg hd h hk)
theorem drnK_onen (kd : Nat) {K : Value → List Ent → Prop} (hi : ops[i]? = some ⟨none, op, ty, ps, af, g⟩) (hk : opKind op = kd) (hr : Region.ready .any ops L = [i]) (hg : Wtd ops F ⟨none, op, ty, ps, af, g⟩) (h : Opr P n ⟨none, op, ty, ps, af, g⟩ F H K)
    (hk : ∀ v H', K v H' → (nk.contains i = false → HSub H' Hq) ∧ DrnK P ops Q n Hq nk r (i + 1) m (L.setIfInBounds i true) F H') : DrnK P ops Q n Hq nk r i (m + 1) L F H := drn_one i hr (drn_n i hi hg h hk)
theorem drnK_two (j : Nat) (hr : Region.ready .any ops L = [i, j]) (h1 : DrnI P ops Q n Hq nk m L F H i) (h2 : DrnI P ops Q n Hq nk m L F H j) : DrnK P ops Q n Hq nk r i (m + 1) L F H := drn_two i j hr h1 h2
theorem drnI_s (r i : Nat) {K : Value → List Ent → Prop} (hi : ops[i]? = some ⟨some d, op, ty, ps, af, g⟩) (hg : Wtd ops F ⟨some d, op, ty, ps, af, g⟩) (hd : Nat.blt d n = true) (h : Opr P n ⟨some d, op, ty, ps, af, g⟩ F H K)
    (hk : ∀ v H', K v H' → (nk.contains i = false → HSub H' Hq) ∧ DrnK P ops Q n Hq nk r 0 m (L.setIfInBounds i true) ((d, v) :: F) H') : DrnI P ops Q n Hq nk m L F H i := drn_s i hi hg hd h hk
theorem drnI_n (r i : Nat) {K : Value → List Ent → Prop} (hi : ops[i]? = some ⟨none, op, ty, ps, af, g⟩) (hg : Wtd ops F ⟨none, op, ty, ps, af, g⟩) (h : Opr P n ⟨none, op, ty, ps, af, g⟩ F H K)
    (hk : ∀ v H', K v H' → (nk.contains i = false → HSub H' Hq) ∧ DrnK P ops Q n Hq nk r 0 m (L.setIfInBounds i true) F H') : DrnI P ops Q n Hq nk m L F H i := drn_n i hi hg h hk
theorem drnK_cmp2 {bop : BinOp} {k : IntKind} {p q : Int} {T T' : TypeId} {x y : Operand} (hi : ops[i]? = some ⟨some d, .binOp bop T x y T', ty, ps, af, g⟩) (hc : isCmp bop = true) (hx : ev F x = some (.int k p)) (hy : ev F y = some (.int k q)) (hg : Wtd ops F ⟨some d, .binOp bop T x y T', ty, ps, af, g⟩) (hb : mayTake ops nk L i = true) (hs : HSub H Hq) (hd : Nat.blt d n = true)
    (h1 : cmpB bop p q = true → DrnK P ops Q n Hq nk r (i + 1) m (L.setIfInBounds i true) ((d, .bool true) :: F) H) (h2 : cmpB bop p q = false → DrnK P ops Q n Hq nk r (i + 1) m (L.setIfInBounds i true) ((d, .bool false) :: F) H) : DrnK P ops Q n Hq nk r i (m + 1) L F H := by
  cases hbb : cmpB bop p q with
  | true => exact drn_take_s i hi hg hb hs hd (q_cmp_b rfl hc hx hy hbb) (h1 hbb)
  | false => exact drn_take_s i hi hg hb hs hd (q_cmp_b rfl hc hx hy hbb) (h2 hbb)
theorem drnK_lss {k : IntKind} {p q : Int} {T T' : TypeId} {x y : Operand} (hi : ops[i]? = some ⟨some d, .binOp .lss T x y T', ty, ps, af, g⟩) (hx : ev F x = some (.int k p)) (hy : ev F y = some (.int k q)) (hg : Wtd ops F ⟨some d, .binOp .lss T x y T', ty, ps, af, g⟩) (hb : mayTake ops nk L i = true) (hs : HSub H Hq) (hd : Nat.blt d n = true)
    (h1 : p < q → DrnK P ops Q n Hq nk r (i + 1) m (L.setIfInBounds i true) ((d, .bool true) :: F) H) (h2 : q ≤ p → DrnK P ops Q n Hq nk r (i + 1) m (L.setIfInBounds i true) ((d, .bool false) :: F) H) : DrnK P ops Q n Hq nk r i (m + 1) L F H :=
  drnK_cmp2 hi rfl hx hy hg hb hs hd (fun h => h1 (of_lss h)) fun h => h2 (of_lss' h)
theorem drnK_leq {k : IntKind} {p q : Int} {T T' : TypeId} {x y : Operand} (hi : ops[i]? = some ⟨some d, .binOp .leq T x y T', ty, ps, af, g⟩) (hx : ev F x = some (.int k p)) (hy : ev F y = some (.int k q)) (hg : Wtd ops F ⟨some d, .binOp .leq T x y T', ty, ps, af, g⟩) (hb : mayTake ops nk L i = true) (hs : HSub H Hq) (hd : Nat.blt d n = true)
    (h1 : p ≤ q → DrnK P ops Q n Hq nk r (i + 1) m (L.setIfInBounds i true) ((d, .bool true) :: F) H) (h2 : q < p → DrnK P ops Q n Hq nk r (i + 1) m (L.setIfInBounds i true) ((d, .bool false) :: F) H) : DrnK P ops Q n Hq nk r i (m + 1) L F H :=
  drnK_cmp2 hi rfl hx hy hg hb hs hd (fun h => h1 (of_leq h)) fun h => h2 (of_leq' h)
theorem drnK_gtr {k : IntKind} {p q : Int} {T T' : TypeId} {x y : Operand} (hi : ops[i]? = some ⟨some d, .binOp .gtr T x y T', ty, ps, af, g⟩) (hx : ev F x = some (.int k p)) (hy : ev F y = some (.int k q)) (hg : Wtd ops F ⟨some d, .binOp .gtr T x y T', ty, ps, af, g⟩) (hb : mayTake ops nk L i = true) (hs : HSub H Hq) (hd : Nat.blt d n = true)
    (h1 : q < p → DrnK P ops Q n Hq nk r (i + 1) m (L.setIfInBounds i true) ((d, .bool true) :: F) H) (h2 : p ≤ q → DrnK P ops Q n Hq nk r (i + 1) m (L.setIfInBounds i true) ((d, .bool false) :: F) H) : DrnK P ops Q n Hq nk r i (m + 1) L F H :=
  drnK_cmp2 hi rfl hx hy hg hb hs hd (fun h => h1 (of_gtr h)) fun h => h2 (of_gtr' h)
theorem drnK_geq {k : IntKind} {p q : Int} {T T' : TypeId} {x y : Operand} (hi : ops[i]? = some ⟨some d, .binOp .geq T x y T', ty, ps, af, g⟩) (hx : ev F x = some (.int k p)) (hy : ev F y = some (.int k q)) (hg : Wtd ops F ⟨some d, .binOp .geq T x y T', ty, ps, af, g⟩) (hb : mayTake ops nk L i = true) (hs : HSub H Hq) (hd : Nat.blt d n = true)
    (h1 : q ≤ p → DrnK P ops Q n Hq nk r (i + 1) m (L.setIfInBounds i true) ((d, .bool true) :: F) H) (h2 : p < q → DrnK P ops Q n Hq nk r (i + 1) m (L.setIfInBounds i true) ((d, .bool false) :: F) H) : DrnK P ops Q n Hq nk r i (m + 1) L F H :=
  drnK_cmp2 hi rfl hx hy hg hb hs hd (fun h => h1 (of_geq h)) fun h => h2 (of_geq' h)
theorem drnK_eql {k : IntKind} {p q : Int} {T T' : TypeId} {x y : Operand} (hi : ops[i]? = some ⟨some d, .binOp .eql T x y T', ty, ps, af, g⟩) (hx : ev F x = some (.int k p)) (hy : ev F y = some (.int k q)) (hg : Wtd ops F ⟨some d, .binOp .eql T x y T', ty, ps, af, g⟩) (hb : mayTake ops nk L i = true) (hs : HSub H Hq) (hd : Nat.blt d n = true)
    (h1 : p = q → DrnK P ops Q n Hq nk r (i + 1) m (L.setIfInBounds i true) ((d, .bool true) :: F) H) (h2 : p ≠ q → DrnK P ops Q n Hq nk r (i + 1) m (L.setIfInBounds i true) ((d, .bool false) :: F) H) : DrnK P ops Q n Hq nk r i (m + 1) L F H :=
  drnK_cmp2 hi rfl hx hy hg hb hs hd (fun h => h1 (of_eql h)) fun h => h2 (of_eql' h)
theorem drnK_neq {k : IntKind} {p q : Int} {T T' : TypeId} {x y : Operand} (hi : ops[i]? = some ⟨some d, .binOp .neq T x y T', ty, ps, af, g⟩) (hx : ev F x = some (.int k p)) (hy : ev F y = some (.int k q)) (hg : Wtd ops F ⟨some d, .binOp .neq T x y T', ty, ps, af, g⟩) (hb : mayTake ops nk L i = true) (hs : HSub H Hq) (hd : Nat.blt d n = true)
    (h1 : p ≠ q → DrnK P ops Q n Hq nk r (i + 1) m (L.setIfInBounds i true) ((d, .bool true) :: F) H) (h2 : p = q → DrnK P ops Q n Hq nk r (i + 1) m (L.setIfInBounds i true) ((d, .bool false) :: F) H) : DrnK P ops Q n Hq nk r i (m + 1) L F H :=
  drnK_cmp2 hi rfl hx hy hg hb hs hd (fun h => h1 (of_neq h)) fun h => h2 (of_neq' h)
end
theorem wr_b_i64 {b : UInt8} : IntKind.i64.wrap (b.toNat : Int) = (b.toNat : Int) := IntWalk.i64_in _ (by have := b.toNat_lt; omega)
theorem wr_b_u64 {b : UInt8} : IntKind.u64.wrap (b.toNat : Int) = (b.toNat : Int) := IntWalk.u64_in _ (by have := b.toNat_lt; omega)
theorem wr_b_u32 {b : UInt8} : IntKind.u32.wrap (b.toNat : Int) = (b.toNat : Int) := IntWalk.u32_in _ (by have := b.toNat_lt; omega)
/-! ### what is tried at a step -/
theorem qs3 {P : Program} {n : Nat} {o : Oper} {F : Frm} {H : List Ent} {v : Value} (h : Qt P n o F H v := by (first | exact q_idx rfl rfl rfl (by (first | rfl | assumption | omega)) (by first | assumption | rfl))) : Qt P n o F H v := h
theorem qs4 {P : Program} {n : Nat} {o : Oper} {F : Frm} {H : List Ent} {v : Value} (h : Qt P n o F H v := by (first | exact q_cat rfl rfl rfl (by (first | omega | (simp only [List.length_append, List.length_cons, List.length_nil, List.length_take, List.length_drop, List.length_map]; omega))) | exact q_ar_add rfl rfl rfl (by (first | exact wr_b_i64 | exact wr_b_u64 | exact wr_b_u32 | exact wr_i64 (by omega) | exact wr_u64 (by omega) | exact wr_u8 (by omega) | exact wr_u32 (by omega) | exact wr_i32 (by omega) | exact wr_u8m | exact wr_u32m | exact wr_u64m)) | exact q_ar_sub rfl rfl rfl (by (first | exact wr_b_i64 | exact wr_b_u64 | exact wr_b_u32 | exact wr_i64 (by omega) | exact wr_u64 (by omega) | exact wr_u8 (by omega) | exact wr_u32 (by omega) | exact wr_i32 (by omega) | exact wr_u8m | exact wr_u32m | exact wr_u64m)) | exact q_ar_mul rfl rfl rfl (by (first | exact wr_b_i64 | exact wr_b_u64 | exact wr_b_u32 | exact wr_i64 (by omega) | exact wr_u64 (by omega) | exact wr_u8 (by omega) | exact wr_u32 (by omega) | exact wr_i32 (by omega) | exact wr_u8m | exact wr_u32m | exact wr_u64m)) | exact q_shr rfl rfl rfl (by rfl) | exact q_shl rfl rfl rfl (by rfl) (by (first | exact wr_b_i64 | exact wr_b_u64 | exact wr_b_u32 | exact wr_i64 (by omega) | exact wr_u64 (by omega) | exact wr_u8 (by omega) | exact wr_u32 (by omega) | exact wr_i32 (by omega) | exact wr_u8m | exact wr_u32m | exact wr_u64m)) | exact q_quo rfl rfl rfl (by omega) | exact q_rem rfl rfl rfl (by omega) | exact q_bits rfl rfl rfl rfl (by first | assumption | rfl) | exact q_seqq rfl rfl rfl (by assumption) | exact q_sneqq rfl rfl rfl (by assumption) | exact q_beql rfl rfl rfl (by kernel_rfl) (by first | assumption | rfl) | exact q_bneq rfl rfl rfl (by kernel_rfl) (by first | assumption | rfl))) : Qt P n o F H v := h
theorem qs6 {P : Program} {n : Nat} {o : Oper} {F : Frm} {H : List Ent} {v : Value} (h : Qt P n o F H v := by (first | exact q_lenl rfl rfl)) : Qt P n o F H v := h
theorem qs11 {P : Program} {n : Nat} {o : Oper} {F : Frm} {H : List Ent} {v : Value} (h : Qt P n o F H v := by (first | exact q_conv rfl rfl (by (first | exact wr_b_i64 | exact wr_b_u64 | exact wr_b_u32 | exact wr_i64 (by omega) | exact wr_u64 (by omega) | exact wr_u8 (by omega) | exact wr_u32 (by omega) | exact wr_i32 (by omega) | exact wr_u8m | exact wr_u32m | exact wr_u64m)) | exact q_own_str rfl rfl (by exact pka) | exact q_bytes_str rfl rfl (by exact pka) (by (repeat (first | exact U8s.nil | apply U8s.cons))) (by first | assumption | rfl))) : Qt P n o F H v := h
theorem qs12 {P : Program} {n : Nat} {o : Oper} {F : Frm} {H : List Ent} {v : Value} (h : Qt P n o F H v := by (first | exact q_subs rfl rfl rfl rfl (by (first | rfl | assumption | omega)) (by (first | rfl | assumption | omega)) (by (first | omega | (simp only [List.length_append, List.length_cons, List.length_nil, List.length_take, List.length_drop, List.length_map]; omega))) (by (first | omega | (simp only [List.length_append, List.length_cons, List.length_nil, List.length_take, List.length_drop, List.length_map]; omega))) (by first | assumption | rfl) | exact q_subh rfl rfl rfl (by (first | rfl | assumption | omega)) (by (first | omega | (simp only [List.length_append, List.length_cons, List.length_nil, List.length_take, List.length_drop, List.length_map]; omega))) (by first | assumption | rfl) | exact q_subl rfl rfl rfl (by (first | rfl | assumption | omega)) (by (first | omega | (simp only [List.length_append, List.length_cons, List.length_nil, List.length_take, List.length_drop, List.length_map]; omega))) (by first | assumption | rfl))) : Qt P n o F H v := h
end Go.Proofs.Ytcbpeampjhegcaa.sl
