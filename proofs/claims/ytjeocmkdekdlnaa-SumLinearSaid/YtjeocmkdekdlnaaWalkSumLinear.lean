/-
  SumLinear: the walk of the law: it answers true.
-/
import Derived.Test.YtjeocmkdekdlnaaSumTable
import Derived.Test.YtjeocmkdekdlnaaPut
namespace Go.Proofs.Ytjeocmkdekdlnaa.lawSumLinear
open Go.RowKit kit sum
set_option linter.unusedVariables false
attribute [local go_sem] kit.ite_min_nat

/-! ### The plain law -/
def x3 (a b c : List UInt8) : List UInt8 := List.zipWith (· ^^^ ·) (List.zipWith (· ^^^ ·) a b) c

theorem byteStep_xor (p q r : BitVec 32) (x y z : UInt8) : byteStep (p ^^^ q ^^^ r) (x ^^^ y ^^^ z) = byteStep p x ^^^ byteStep q y ^^^ byteStep r z := by
  have e : BitVec.ofNat 32 (x ^^^ y ^^^ z).toNat = BitVec.ofNat 32 x.toNat ^^^ BitVec.ofNat 32 y.toNat ^^^ BitVec.ofNat 32 z.toNat := by
    rw [UInt8.toNat_xor, UInt8.toNat_xor]
    apply BitVec.eq_of_getLsbD_eq
    intro i hi
    simp [hi]
  simp only [byteStep]
  rw [← steps_xor, ← steps_xor, e]
  congr 1
  apply BitVec.eq_of_getLsbD_eq
  intro i _
  simp only [BitVec.getLsbD_xor]
  cases p.getLsbD i <;> cases q.getLsbD i <;> cases r.getLsbD i <;> simp

theorem crcL_xor : ∀ (a b c : List UInt8) (p q r : BitVec 32), a.length = b.length → b.length = c.length → crcL (p ^^^ q ^^^ r) (x3 a b c) = crcL p a ^^^ crcL q b ^^^ crcL r c
  | [], [], [], p, q, r, _, _ => by simp [x3, crcL]
  | x :: a, y :: b, z :: c, p, q, r, h1, h2 => by
    have := crcL_xor a b c (byteStep p x) (byteStep q y) (byteStep r z) (by simpa using h1) (by simpa using h2)
    simp only [x3, List.zipWith_cons_cons]
    simp only [crcL, List.foldl_cons] at this ⊢
    rw [byteStep_xor]
    exact this

theorem moreB_xor (a b c : List UInt8) (h1 : a.length = b.length) (h2 : b.length = c.length) : moreB 0 (x3 a b c) = moreB 0 a ^^^ moreB 0 b ^^^ moreB 0 c := by
  have h := crcL_xor a b c (~~~ 0#32) (~~~ 0#32) (~~~ 0#32) h1 h2
  rw [show (~~~ 0#32 ^^^ ~~~ 0#32 ^^^ ~~~ 0#32) = ~~~ 0#32 from by decide] at h
  show ~~~ crcL (~~~ 0#32) (x3 a b c) = ~~~ crcL (~~~ 0#32) a ^^^ ~~~ crcL (~~~ 0#32) b ^^^ ~~~ crcL (~~~ 0#32) c
  rw [h]
  apply BitVec.eq_of_getLsbD_eq
  intro i hi
  simp only [BitVec.getLsbD_xor, BitVec.getLsbD_not, hi, decide_true, Bool.true_and]
  cases (crcL (~~~ 0#32) a).getLsbD i <;> cases (crcL (~~~ 0#32) b).getLsbD i <;> cases (crcL (~~~ 0#32) c).getLsbD i <;> rfl
theorem sum_ab : moreB 0 [97] ≠ moreB 0 [98] := by decide

theorem x3_len (a b c : List UInt8) : (x3 a b c).length = min a.length (min b.length c.length) := by
  simp [x3]
theorem x3_get (a b c : List UInt8) (k : Nat) (h1 : k < a.length) (h2 : k < b.length) (h3 : k < c.length) : (x3 a b c)[k]? = some (a[k] ^^^ b[k] ^^^ c[k]) := by
  simp [x3, List.getElem?_zipWith, h1, h2, h3]
theorem x3_take (a b c : List UInt8) (n : Nat) (hn : n = min a.length (min b.length c.length)) : x3 a b c = x3 (a.take n) (b.take n) (c.take n) := by
  apply List.ext_getElem?
  intro k
  rcases Nat.lt_or_ge k n with h | h
  · rw [x3_get a b c k (by omega) (by omega) (by omega), x3_get _ _ _ k (by simp; omega) (by simp; omega) (by simp; omega)]
    simp
  · rw [List.getElem?_eq_none (by rw [x3_len]; omega), List.getElem?_eq_none (by rw [x3_len]; simp; omega)]

set_option maxRecDepth 100000 in
theorem walk (a : ByteArray) (ha : a.size ≤ reachBytes) (b : ByteArray) (hb : b.size ≤ reachBytes) (c : ByteArray) (hc : c.size ≤ reachBytes) (W : World) :
    Calls Try.prog 7 #[.string a, .string b, .string c] W fun e w' => e = .returned (.bool true) ∧ Below W.heap.size W w' := by
  have hr : reachBytes = 140737488351232 := rfl
  rw [hr] at ha hb hc
  clear hr
  go_enter Try.func7, Try.ntmps7
  go_wp2_with (fail)
  obtain ⟨n, hn⟩ : ∃ n, n = min a.size (min b.size c.size) := ⟨_, rfl⟩
  have hna : n ≤ a.size := by omega
  have hnb : n ≤ b.size := by omega
  have hnc : n ≤ c.size := by omega
  rw [← hn]
  have HN := Lib.hid hn
  clear hn
  obtain ⟨X, hX⟩ : ∃ X, X = x3 a.data.toList b.data.toList c.data.toList := ⟨_, rfl⟩
  have HX := Lib.hid hX
  have hxl : X.length = n := by rw [hX, x3_len, HN.out, ← Lib.size_eq, ← Lib.size_eq, ← Lib.size_eq]
  have HXL := Lib.hid hxl
  clear hX hxl
  go_loopw [8, 9, 18] (fun v _ i wr => ∃ k : Nat, k ≤ n ∧ i = .int .i64 k ∧ wr.ownsRow W.heap.size 5 1 v k (byteCells (X.take k)) ∧ Below W.heap.size W wr) (fun _ _ i _ => n - (intOf i).toNat)
  case atStart => exact ⟨0, Nat.zero_le _, rfl, World.ownsRow_nil _ _ _ _, Below.refl _ _⟩
  case round =>
    obtain ⟨k, hk, rfl, hown, hbel⟩ := hrel
    have hsz := hbel.size
    by_cases hlt : k < n
    · have h1 : k < a.size := by omega
      have h2 : k < b.size := by omega
      have h3 : k < c.size := by omega
      have h1' : (k : Int) < (a.size : Int) := by omega
      have h2' : (k : Int) < (b.size : Int) := by omega
      have h3' : (k : Int) < (c.size : Int) := by omega
      have hlt' : (k : Int) < (n : Int) := by omega
      have HU : Hid (byteCells (X.take k) ++ [Value.int .u8 (bits BinOp.xor IntKind.u8 (bits BinOp.xor IntKind.u8 (a[k].toNat : Int) (b[k].toNat : Int)) (c[k].toNat : Int))] = byteCells (X.take (k + 1))) := by
        show _ = _
        have e : X[k]? = some (a[k] ^^^ b[k] ^^^ c[k]) := by
          rw [HX.out, x3_get _ _ _ k (by rw [← Lib.size_eq]; exact h1) (by rw [← Lib.size_eq]; exact h2) (by rw [← Lib.size_eq]; exact h3)]; rfl
        rw [List.take_add_one, e, byteCells_snoc _ (a[k] ^^^ b[k] ^^^ c[k])]
        · rfl
        · rw [UInt8.toNat_xor, UInt8.toNat_xor, u8_xor_nat _ _ a[k].toNat_lt b[k].toNat_lt, u8_xor_nat _ _ (Nat.xor_lt_two_pow (n := 8) a[k].toNat_lt b[k].toNat_lt) c[k].toNat_lt]
      have hk63 : k + 1 ≤ maxLen := by unfold maxLen; omega
      go_wp2_with (fail)
      go_region_held3 (fun w' => True) (trivial)
        ((refine step_app1 put.tBytes (by rfl) _ _ (by rfl) u8 (Value.int .u8 (bits BinOp.xor IntKind.u8 (bits BinOp.xor IntKind.u8 (a[k].toNat : Int) (b[k].toNat : Int)) (c[k].toNat : Int))) k (byteCells (X.take k)) (by rfl) ⟨wr.heap.size, 0, none⟩ (by rfl) (by simp) ((hown.alloc _).drew) (by rfl) (by omega) hk63 ((hbel.alloc hsz _).drew) ((hbel.alloc hsz _).drew.size) ?_; intro v' w1 hown1 _ hbel1 _))
      all_goals
        rw [HU.out] at hown1
        clear hown
        go_wp2_with (fail)
        go_roundw
        case rel => exact ⟨k + 1, by omega, by go_num, hown1, hbel1⟩
        case measure => simp [intOf]; omega
    · obtain rfl : k = n := by omega
      have ht : X.take k = X := List.take_of_length_le (by rw [HXL.out]; exact Nat.le_refl _)
      rw [ht] at hown
      clear ht
      have hs : ∀ x : BW wr, (convert 34 9 u8).run Try.prog x.w = .ok (.string ⟨X.toArray⟩) x.w := fun x =>
        string_of_own Try.underlying34 Try.underlying5 Try.underlying9 (ownsRow_below hown x.h)
      have hna' : (k : Int) ≤ (a.size : Int) := by omega
      have hnb' : (k : Int) ≤ (b.size : Int) := by omega
      have hnc' : (k : Int) ≤ (c.size : Int) := by omega
      clear hown
      obtain ⟨p, hp⟩ : ∃ p, p = moreB 0 (a.extract 0 k).data.toList := ⟨_, rfl⟩
      obtain ⟨q, hq⟩ : ∃ q, q = moreB 0 (b.extract 0 k).data.toList := ⟨_, rfl⟩
      obtain ⟨r, hr⟩ : ∃ r, r = moreB 0 (c.extract 0 k).data.toList := ⟨_, rfl⟩
      obtain ⟨z, hz⟩ : ∃ z, z = moreB 0 (⟨X.toArray⟩ : ByteArray).data.toList := ⟨_, rfl⟩
      obtain ⟨u, hu⟩ : ∃ u, u = moreB 0 [97] := ⟨_, rfl⟩
      obtain ⟨v, hv⟩ : ∃ v, v = moreB 0 [98] := ⟨_, rfl⟩
      have hx : z = p ^^^ q ^^^ r := by
        rw [hp, hq, hr, hz, Lib.extract_data, Lib.extract_data, Lib.extract_data]
        show moreB 0 X = _
        have e1 := Lib.size_eq a
        have e2 := Lib.size_eq b
        have e3 := Lib.size_eq c
        rw [HX.out, x3_take _ _ _ k (by rw [← e1, ← e2, ← e3]; exact HN.out), moreB_xor _ _ _ (by simp; omega) (by simp; omega)]
        simp
      have heq : ((z.toNat : Int) == bits BinOp.xor IntKind.u32 (bits BinOp.xor IntKind.u32 (p.toNat : Int) (q.toNat : Int)) (r.toNat : Int)) = true := by
        rw [xor32, xor32, hx]; simp
      have hne : ((u.toNat : Int) != (v.toNat : Int)) = true := by
        rw [bne_iff_ne, hu, hv]
        intro h
        exact sum_ab (BitVec.eq_of_toNat_eq (by omega))
      have Hp := Lib.hid hp
      have Hq := Lib.hid hq
      have Hr := Lib.hid hr
      have Hz := Lib.hid hz
      have Hu := Lib.hid hu
      have Hv := Lib.hid hv
      clear hp hq hr hz hu hv hx
      go_wp2_with (fail)
      refine wp_region_below (by kernel_rfl) (by kernel_rfl) ?_
      repeat (go_big_quiet_step ((first
        | (go_at_call_of 22 (Value.string ⟨X.toArray⟩); exact call_below (sum_as _ (by rw [size_mk, HXL.out]; omega) z Hz.out _))
        | (go_at_call_of 22 (Value.string (a.extract 0 k)); exact call_below (sum_as _ (by rw [Lib.size_eq, Lib.extract_data]; simp; omega) p Hp.out _))
        | (go_at_call_of 22 (Value.string (b.extract 0 k)); exact call_below (sum_as _ (by rw [Lib.size_eq, Lib.extract_data]; simp; omega) q Hq.out _))
        | (go_at_call_of 22 (Value.string (c.extract 0 k)); exact call_below (sum_as _ (by rw [Lib.size_eq, Lib.extract_data]; simp; omega) r Hr.out _))
        | (go_at_call_of 22 (Value.string ⟨#[97]⟩); exact call_below (sum_as _ (by decide) u Hu.out _))
        | (go_at_call_of 22 (Value.string ⟨#[98]⟩); exact call_below (sum_as _ (by decide) v Hv.out _)))))
      refine wpQuiet_nil ?_
      rintro _ ⟨wx, rfl⟩
      go_wp2_with (fail)
      go_ret
      exact ⟨rfl, hbel.trans (wx.h.mono hbel.size)⟩
end Go.Proofs.Ytjeocmkdekdlnaa.lawSumLinear
