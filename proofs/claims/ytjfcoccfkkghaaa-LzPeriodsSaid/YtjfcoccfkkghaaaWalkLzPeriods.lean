/-
  LzPeriods: the plain law, and the walk.
-/
import Derived.Test.YtjfcoccfkkghaaaLz
import Derived.Test.YtjfcoccfkkghaaaWithin
import Derived.Test.YtjfcoccfkkghaaaRowsN
namespace Go.Proofs.Ytjfcoccfkkghaaa.lawLzPeriods
open Go.RowKit kit Go.Proofs.Ytjfcoccfkkghaaa.lz Go.Proofs.Ytjfcoccfkkghaaa.within
set_option linter.unusedVariables false

/-- a mark for each byte -/
def lits (l : List UInt8) : List (Int × Int × Int) := l.map fun b => (0, 0, (b.toNat : Int))
theorem expF_lits : ∀ (l : List UInt8) (r : List (Int × Int × Int)) (out : List UInt8), out.length + l.length ≤ 512 → expF (lits l ++ r) out = expF r (out ++ l) := by
  intro l
  induction l with
  | nil => intro r out h; simp [lits]
  | cons b l ih =>
    intro r out h
    have e : lits (b :: l) ++ r = (0, 0, (b.toNat : Int)) :: (lits l ++ r) := rfl
    rw [List.length_cons] at h
    have hs : stepE out (0, 0, (b.toNat : Int)) = 0 := by
      unfold stepE
      rw [show checkE (0, 0, (b.toNat : Int)) = 0 from rfl, if_neg (by simp), if_neg (by simp), if_neg (by simp only; omega)]
    have ho : stepO out (0, 0, (b.toNat : Int)) = out ++ [b] := by simp [stepO, copyF]
    rw [e, expF, if_pos hs, ho, ih r (out ++ [b]) (by simp; omega)]
    simp
/-- what is copied from d back repeats with the period d -/
theorem copyF_period (d : Nat) (l : List UInt8) (hd : l.length = d) (h0 : 0 < d) : ∀ (n : Nat) (out : List UInt8), d ≤ out.length → (∀ i, i < out.length → out[i]? = l[i % d]?) → ∀ i, i < out.length + n → (copyF n d out)[i]? = l[i % d]? := by
  intro n
  induction n with
  | zero => intro out hout h i hi; exact h i hi
  | succ n ih =>
    intro out hout h i hi
    rw [copyF]
    refine ih _ (by simp; omega) ?_ i (by simp; omega)
    intro j hj
    simp at hj
    by_cases hjl : j < out.length
    · rw [List.getElem?_append_left hjl]; exact h j hjl
    · have hje : j = out.length := by omega
      subst hje
      have h1 := h (out.length - d) (by omega)
      rw [List.getElem?_append_right (Nat.le_refl _), Nat.sub_self]
      have h2 : out.length % d = (out.length - d) % d := by
        conv => lhs; rw [show out.length = (out.length - d) + d from by omega, Nat.add_mod_right]
      rw [h2, ← h1, List.getD_eq_getElem?_getD, List.getElem?_eq_getElem (show out.length - d < out.length by omega)]
      rfl
theorem law (l : List UInt8) (n : Nat) (h0 : 0 < l.length) (h60 : l.length ≤ 60) (h3 : 3 ≤ n) (h66 : n ≤ 66) :
    ∃ t, expB (lits l ++ [((n : Int), (l.length : Int), 0)]) = (t, 0) ∧ t.length = l.length + n ∧ ∀ i, i < t.length → t[i]? = l[i % l.length]? := by
  have hc : checkE ((n : Int), (l.length : Int), 0) = 0 := by
    unfold checkE
    rw [if_neg (by simp only; omega), if_neg (by simp only; omega)]
  have hs : stepE l ((n : Int), (l.length : Int), 0) = 0 := by
    unfold stepE
    rw [hc, if_neg (by simp), if_neg (by simp), if_neg (by simp only; omega)]
  have ho : stepO l ((n : Int), (l.length : Int), 0) = copyF n l.length l := by
    unfold stepO
    rw [if_neg (by simp only; omega)]
    rfl
  refine ⟨copyF n l.length l, ?_, copyF_len _ _ _, ?_⟩
  · unfold expB
    rw [expF_lits l _ [] (by simp; omega), List.nil_append, expF, if_pos hs, ho, expF]
  · rw [copyF_len]
    exact copyF_period l.length l rfl h0 n l (Nat.le_refl _) (fun i hi => by rw [Nat.mod_eq_of_lt hi])

theorem tM : SliceTy Try.prog 28 30 3 24 (.agg #[.int .i64 0, .int .i64 0, .int .u8 0]) := sliceTy_mk Try.underlying28 (by kernel_rfl) rfl (by decide)

theorem lits_next (T : ByteArray) (k : Nat) (hk : k < T.size) : flat rowM (lits (T.data.toList.take k)) ++ [.int .i64 0, .int .i64 0, .int .u8 (T[k].toNat : Int)] = flat rowM (lits (T.data.toList.take (k + 1))) := by
  have h : T.data.toList[k]? = some T[k] := by
    rw [List.getElem?_eq_getElem (by rw [← Lib.size_eq]; exact hk)]
    rfl
  rw [take_one h]
  simp [lits, flat, rowM]
theorem all (T : ByteArray) (n : Nat) (h0 : 0 < T.size) (h60 : T.size ≤ 60) (h3 : 3 ≤ n) (h66 : n ≤ 66) :
    ∃ t : ByteArray, (⟨(expB (lits T.data.toList ++ [((n : Int), (T.size : Int), 0)])).1.toArray⟩ : ByteArray) = t ∧ (expB (lits T.data.toList ++ [((n : Int), (T.size : Int), 0)])).2 = 0 ∧ t.size = T.size + n ∧
      ∀ (i : Nat) (hi : i < t.size) (hj : i % T.size < T.size), t[i] = T[i % T.size] := by
  obtain ⟨t, h1, h2, h4⟩ := law T.data.toList n (by rw [← Lib.size_eq]; exact h0) (by rw [← Lib.size_eq]; exact h60) h3 h66
  rw [← Lib.size_eq] at h1 h2 h4
  refine ⟨⟨t.toArray⟩, by rw [h1], by rw [h1], by rw [size_mk]; exact h2, fun i hi hj => ?_⟩
  rw [size_mk] at hi
  have h5 := h4 i hi
  rw [List.getElem?_eq_getElem hi, List.getElem?_eq_getElem (by rw [← Lib.size_eq]; exact hj)] at h5
  exact Option.some.inj h5

theorem str_ne {s : ByteArray} (h : 0 < s.size) : s.toList.isEmpty = false := by
  have h2 : s.toList ≠ [] := by
    intro h3
    rw [Lib.toList_data] at h3
    rw [Lib.size_eq, h3] at h
    simp at h
  simpa using h2

attribute [local go_sem] kit.ite_min
set_option maxHeartbeats 1000000 in
set_option maxRecDepth 100000 in
theorem walk (s : ByteArray) (hs : s.size ≤ reachBytes) (a : Int) (wa : (Lit.int .i64 a).wf = true) (W : World) :
    Calls Try.prog 4 #[.string s, .int .i64 a] W fun e w' => e = .returned (.bool true) ∧ Below W.heap.size W w' := by
  unfold reachBytes at hs
  have hw := withinF_bd a 64 (by omega)
  obtain ⟨n, hn⟩ : ∃ n : Nat, 3 + withinF a 64 = (n : Int) := ⟨(3 + withinF a 64).toNat, by omega⟩
  have hn3 : 3 ≤ n := by omega
  have hn66 : n ≤ 66 := by omega
  have hnI : (n : Int) ≤ 66 := by omega
  have HN := Lib.hid hn
  clear hw hn
  go_enter Try.func4, Try.ntmps4
  by_cases h0 : s.size = 0
  · obtain rfl : s = ⟨#[]⟩ := ByteArray.ext (Array.eq_empty_of_size_eq_zero h0)
    obtain ⟨T, hT⟩ : ∃ T : ByteArray, T = ⟨#[120]⟩ := ⟨_, rfl⟩
    have hT0 : 0 < T.size := by rw [hT]; decide
    have hT6 : T.size ≤ 60 := by rw [hT]; decide
    go_wp2_with (fail)
    rw [← hT]
    clear hT
    refine (within_any _ _ (by omega) (by omega) _).mono ?_
    rintro e1 W1 ⟨rfl, rfl⟩
    have HN2 := HN.out
    go_wp2_with (fail)
    clear HN2
    go_loopw [5, 22] (fun o y wr => ∃ k : Nat, k ≤ T.size ∧ y = .int .i64 k ∧ wr.ownsRow W.heap.size 30 3 o k (flat rowM (lits (T.data.toList.take k))) ∧ Below W.heap.size W wr) (fun _ y _ => T.size - (intOf y).toNat)
    case atStart => exact ⟨0, Nat.zero_le _, rfl, World.ownsRow_nil _ _ _ _, Below.refl _ _⟩
    case round =>
      obtain ⟨k, hk, rfl, hown, hb⟩ := hrel
      have hsz := hb.size
      by_cases hlt : k < T.size
      · have hltI : (k : Int) < (T.size : Int) := by omega
        go_wp2_with (at_builtin; refine appN tM rfl (.tmp 25) (.tmp 30) rfl _ [.int .i64 0, .int .i64 0, .int .u8 (T[k].toNat : Int)] k _ rfl rfl hown rfl ?c2 ?c3 ?c4 hb hsz ?_)
        case c2 => simp [Value.oneCell']
        case c3 => omega
        case c4 => unfold maxLen; omega
        intro v' W2 hown2 _ hb2 _
        rw [lits_next T k hlt] at hown2
        clear hown
        go_wp2_with (fail)
        exact ⟨⟨k + 1, by omega, rfl, hown2, hb2⟩, by show T.size - (((k : Int) + 1).toNat) < T.size - ((k : Int).toNat); omega⟩
      · have hke : k = T.size := by omega
        subst hke
        rw [List.take_of_length_le (by rw [Lib.size_eq]; exact Nat.le_refl _)] at hown
        obtain ⟨t, ht1, ht2, ht3, ht4⟩ := all T n hT0 hT6 hn3 hn66
        have HT1 := Lib.hid ht1
        have HT2 := Lib.hid ht2
        have HT4 := Lib.hid ht4
        clear ht1 ht2 ht4
        go_wp2_with (at_builtin; refine appN tM rfl (.tmp 34) (.tmp 39) rfl _ [.int .i64 (n : Int), .int .i64 (T.size : Int), .int .u8 0] T.size _ rfl rfl hown rfl ?c2 ?c3 ?c4 hb hsz ?_)
        case c2 => simp [Value.oneCell']
        case c3 => omega
        case c4 => unfold maxLen; omega
        intro v' W2 hown2 _ hb2 _
        rw [show [Value.int .i64 (n : Int), .int .i64 (T.size : Int), .int .u8 0] = rowM ((n : Int), (T.size : Int), 0) from rfl, flat_snoc] at hown2
        have hsl : SliceAt W2 3 v' ((lits T.data.toList ++ [((n : Int), (T.size : Int), 0)]).map rowM) := own_sliceN (fun _ => rfl) (by simp [lits]) hown2
        clear hown hown2
        go_wp2_with (fail)
        refine (expand_any _ _ _ hsl ?c5 ?c6).mono ?_
        case c5 =>
          intro p hp
          rw [List.mem_append] at hp
          rcases hp with hp | hp
          · simp only [lits, List.mem_map] at hp
            obtain ⟨x, _, rfl⟩ := hp
            have := x.toNat_lt
            simp [goodM, Lit.wf, IntKind.min, IntKind.max, IntKind.signed, IntKind.bits]
            omega
          · simp only [List.mem_singleton] at hp
            subst hp
            simp [goodM, Lit.wf, IntKind.min, IntKind.max, IntKind.signed, IntKind.bits]
            omega
        case c6 => have h9 : T.data.size = T.size := rfl; simp [lits, h9]; omega
        rintro e W3 ⟨rfl, hb3⟩
        have hb4 := hb2.trans (hb3.mono hb2.size)
        clear hsl hb2 hb3 hb hsz
        rw [HT1.out, HT2.out]
        have htI : (t.size : Int) = (T.size : Int) + (n : Int) := by omega
        have htb : ((t.size : Int) != (T.size : Int) + (n : Int)) = false := by simpa using htI
        have hT0I : (T.size : Int) ≠ 0 := by omega
        go_wp2_with (fail)
        go_loopw [57] (fun y wr => ∃ i : Nat, i ≤ t.size ∧ y = .int .i64 i ∧ Below W.heap.size W wr) (fun y _ => t.size - (intOf y).toNat)
        case atStart => exact ⟨0, Nat.zero_le _, rfl, hb4⟩
        case round =>
          obtain ⟨i, hi, rfl, hb⟩ := hrel
          by_cases hil : i < t.size
          · have hiI : (i : Int) < (t.size : Int) := by omega
            obtain ⟨r, hr⟩ : ∃ r, r = i % T.size := ⟨_, rfl⟩
            have hrl : r < T.size := by rw [hr]; exact Nat.mod_lt _ hT0
            have hrI : (i : Int).tmod (T.size : Int) = (r : Int) := by rw [hr]; rfl
            have hrI2 : (r : Int) < (T.size : Int) := by omega
            have heq := HT4.out i hil (by rw [← hr]; exact hrl)
            have heq2 : t[i] = T[r] := by rw [heq]; congr 1; exact hr.symm
            clear hr heq
            go_wp2_with (fail)
            refine wp_region_below (by kernel_rfl) (by kernel_rfl) ?_
            repeat (go_big_quiet_step (fail))
            refine wpQuiet_nil ?_
            rintro _ ⟨wx, rfl⟩
            have hb5 := below_ext hb (grown_of_below wx.h)
            generalize wx.w = w5 at hb5 ⊢
            clear wx
            go_wp2_with (fail)
            exact ⟨⟨i + 1, by omega, rfl, hb5⟩, by show t.size - (((i : Int) + 1).toNat) < t.size - ((i : Int).toNat); omega⟩
          · go_wp2_with (fail)
            go_ret
            exact ⟨rfl, hb⟩
  · obtain ⟨m, hm⟩ : ∃ m, m = min s.size 60 := ⟨_, rfl⟩
    have hmI : min (s.size : Int) 60 = (m : Int) := by omega
    have hms : (m : Int) ≤ (s.size : Int) := by omega
    have hTs : (s.extract 0 m).size = m := by rw [ByteArray.size_extract]; omega
    have hT0 : 0 < (s.extract 0 m).size := by omega
    have hT6 : (s.extract 0 m).size ≤ 60 := by omega
    have hne : (s.extract 0 m).toList.isEmpty = false := str_ne hT0
    clear hm hTs
    go_wp2_with (fail)
    generalize s.extract 0 m = T at hT0 hT6 hne ⊢
    clear hne
    refine (within_any _ _ (by omega) (by omega) _).mono ?_
    rintro e1 W1 ⟨rfl, rfl⟩
    have HN2 := HN.out
    go_wp2_with (fail)
    clear HN2
    go_loopw [5, 22] (fun o y wr => ∃ k : Nat, k ≤ T.size ∧ y = .int .i64 k ∧ wr.ownsRow W.heap.size 30 3 o k (flat rowM (lits (T.data.toList.take k))) ∧ Below W.heap.size W wr) (fun _ y _ => T.size - (intOf y).toNat)
    case atStart => exact ⟨0, Nat.zero_le _, rfl, World.ownsRow_nil _ _ _ _, Below.refl _ _⟩
    case round =>
      obtain ⟨k, hk, rfl, hown, hb⟩ := hrel
      have hsz := hb.size
      by_cases hlt : k < T.size
      · have hltI : (k : Int) < (T.size : Int) := by omega
        go_wp2_with (at_builtin; refine appN tM rfl (.tmp 25) (.tmp 30) rfl _ [.int .i64 0, .int .i64 0, .int .u8 (T[k].toNat : Int)] k _ rfl rfl hown rfl ?c2 ?c3 ?c4 hb hsz ?_)
        case c2 => simp [Value.oneCell']
        case c3 => omega
        case c4 => unfold maxLen; omega
        intro v' W2 hown2 _ hb2 _
        rw [lits_next T k hlt] at hown2
        clear hown
        go_wp2_with (fail)
        exact ⟨⟨k + 1, by omega, rfl, hown2, hb2⟩, by show T.size - (((k : Int) + 1).toNat) < T.size - ((k : Int).toNat); omega⟩
      · have hke : k = T.size := by omega
        subst hke
        rw [List.take_of_length_le (by rw [Lib.size_eq]; exact Nat.le_refl _)] at hown
        obtain ⟨t, ht1, ht2, ht3, ht4⟩ := all T n hT0 hT6 hn3 hn66
        have HT1 := Lib.hid ht1
        have HT2 := Lib.hid ht2
        have HT4 := Lib.hid ht4
        clear ht1 ht2 ht4
        go_wp2_with (at_builtin; refine appN tM rfl (.tmp 34) (.tmp 39) rfl _ [.int .i64 (n : Int), .int .i64 (T.size : Int), .int .u8 0] T.size _ rfl rfl hown rfl ?c2 ?c3 ?c4 hb hsz ?_)
        case c2 => simp [Value.oneCell']
        case c3 => omega
        case c4 => unfold maxLen; omega
        intro v' W2 hown2 _ hb2 _
        rw [show [Value.int .i64 (n : Int), .int .i64 (T.size : Int), .int .u8 0] = rowM ((n : Int), (T.size : Int), 0) from rfl, flat_snoc] at hown2
        have hsl : SliceAt W2 3 v' ((lits T.data.toList ++ [((n : Int), (T.size : Int), 0)]).map rowM) := own_sliceN (fun _ => rfl) (by simp [lits]) hown2
        clear hown hown2
        go_wp2_with (fail)
        refine (expand_any _ _ _ hsl ?c5 ?c6).mono ?_
        case c5 =>
          intro p hp
          rw [List.mem_append] at hp
          rcases hp with hp | hp
          · simp only [lits, List.mem_map] at hp
            obtain ⟨x, _, rfl⟩ := hp
            have := x.toNat_lt
            simp [goodM, Lit.wf, IntKind.min, IntKind.max, IntKind.signed, IntKind.bits]
            omega
          · simp only [List.mem_singleton] at hp
            subst hp
            simp [goodM, Lit.wf, IntKind.min, IntKind.max, IntKind.signed, IntKind.bits]
            omega
        case c6 => have h9 : T.data.size = T.size := rfl; simp [lits, h9]; omega
        rintro e W3 ⟨rfl, hb3⟩
        have hb4 := hb2.trans (hb3.mono hb2.size)
        clear hsl hb2 hb3 hb hsz
        rw [HT1.out, HT2.out]
        have htI : (t.size : Int) = (T.size : Int) + (n : Int) := by omega
        have htb : ((t.size : Int) != (T.size : Int) + (n : Int)) = false := by simpa using htI
        have hT0I : (T.size : Int) ≠ 0 := by omega
        go_wp2_with (fail)
        go_loopw [57] (fun y wr => ∃ i : Nat, i ≤ t.size ∧ y = .int .i64 i ∧ Below W.heap.size W wr) (fun y _ => t.size - (intOf y).toNat)
        case atStart => exact ⟨0, Nat.zero_le _, rfl, hb4⟩
        case round =>
          obtain ⟨i, hi, rfl, hb⟩ := hrel
          by_cases hil : i < t.size
          · have hiI : (i : Int) < (t.size : Int) := by omega
            obtain ⟨r, hr⟩ : ∃ r, r = i % T.size := ⟨_, rfl⟩
            have hrl : r < T.size := by rw [hr]; exact Nat.mod_lt _ hT0
            have hrI : (i : Int).tmod (T.size : Int) = (r : Int) := by rw [hr]; rfl
            have hrI2 : (r : Int) < (T.size : Int) := by omega
            have heq := HT4.out i hil (by rw [← hr]; exact hrl)
            have heq2 : t[i] = T[r] := by rw [heq]; congr 1; exact hr.symm
            clear hr heq
            go_wp2_with (fail)
            refine wp_region_below (by kernel_rfl) (by kernel_rfl) ?_
            repeat (go_big_quiet_step (fail))
            refine wpQuiet_nil ?_
            rintro _ ⟨wx, rfl⟩
            have hb5 := below_ext hb (grown_of_below wx.h)
            generalize wx.w = w5 at hb5 ⊢
            clear wx
            go_wp2_with (fail)
            exact ⟨⟨i + 1, by omega, rfl, hb5⟩, by show t.size - (((i : Int) + 1).toNat) < t.size - ((i : Int).toNat); omega⟩
          · go_wp2_with (fail)
            go_ret
            exact ⟨rfl, hb⟩
end Go.Proofs.Ytjfcoccfkkghaaa.lawLzPeriods
