/-
  BitsJoins: the plain law, and the walk.
-/
import Derived.Test.YtjeocmkdekdlnaaWidths
import Derived.Test.YtjeocmkdekdlnaaClonePiece
namespace Go.Proofs.Ytjeocmkdekdlnaa.lawBitsJoins
open Go.RowKit kit Go.Proofs.Ytjeocmkdekdlnaa.bits Go.Proofs.Ytjeocmkdekdlnaa.concatpiece
set_option linter.unusedVariables false

theorem i64_and7 (n : Int) : bits .and .i64 n 7 = n % 8 := by
  have h7 : (BitVec.ofInt 64 7).toNat = 2 ^ 3 - 1 := by decide
  have key : (BitVec.ofInt 64 n &&& BitVec.ofInt 64 7).toNat = (n % ((2 ^ 64 : Nat) : Int)).toNat % 2 ^ 3 := by
    rw [BitVec.toNat_and, BitVec.toNat_ofInt, h7, Nat.and_two_pow_sub_one_eq_mod]
  show IntKind.i64.wrap ((BitVec.ofInt 64 n &&& BitVec.ofInt 64 7).toNat : Nat) = n % 8
  rw [key, IntKind.wrap_i64]
  omega

def remI : Int → List (Int × Int) → Int
  | t, [] => t
  | t, p :: l => remI ((t + p.2 % 8) % 8) l
theorem remI_app : ∀ (a b : List (Int × Int)) (t : Int), remI t (a ++ b) = remI (remI t a) b := by
  intro a
  induction a with
  | nil => intro b t; rfl
  | cons p a ih => intro b t; rw [List.cons_append, remI, remI, ih]
theorem remI_next {xs : List (Int × Int)} {k : Nat} {p : Int × Int} (hp : xs[k]? = some p) (t : Int) : remI t (xs.take (k + 1)) = (remI t (xs.take k) + p.2 % 8) % 8 := by
  rw [take_one hp, remI_app]; rfl
theorem remI_bd : ∀ (l : List (Int × Int)) (t : Int), 0 ≤ t ∧ t < 8 → 0 ≤ remI t l ∧ remI t l < 8 := by
  intro l
  induction l with
  | nil => intro t h; exact h
  | cons p l ih => intro t h; rw [remI]; exact ih _ (by omega)
theorem remI_total : ∀ (l : List (Int × Int)) (t : Int), 0 ≤ t ∧ t < 8 → firstErr l = 0 → remI t l = (t + (total l : Int)) % 8 := by
  intro l
  induction l with
  | nil => intro t h _; simp [remI, total]; omega
  | cons p l ih =>
    intro t h hf
    have hp : pieceErr p = 0 := firstErr_mem hf (by simp)
    have hl : firstErr l = 0 := by unfold firstErr at hf; rw [if_pos hp] at hf; exact hf
    have hw : 0 ≤ p.2 := by
      unfold pieceErr at hp
      split at hp
      · cases hp
      · omega
    rw [remI, ih _ (by omega) hl, total]
    omega
/-- the pieces, filled up to whole bytes -/
def padded (l : List (Int × Int)) : List (Int × Int) := if remI 0 l = 0 then l else l ++ [(0, 8 - remI 0 l)]
theorem padded_total (l : List (Int × Int)) (h : firstErr (padded l) = 0) : total (padded l) % 8 = 0 := by
  have hb := remI_bd l 0 (by omega)
  unfold padded at h ⊢
  split
  · rename_i h0
    rw [if_pos h0] at h
    have := remI_total l 0 (by omega) h
    omega
  · rename_i h0
    rw [if_neg h0, firstErr_app] at h
    split at h
    · rename_i hl
      have := remI_total l 0 (by omega) hl
      rw [total_app]
      simp only [total]
      omega
    · rename_i hl; exact absurd h hl
theorem toLE_join : ∀ (a b N M : Nat), N < 256 ^ a → toLE (N + 256 ^ a * M) (a + b) = toLE N a ++ toLE M b := by
  intro a
  induction a with
  | zero => intro b N M h; simp at h; subst h; simp [toLE]
  | succ a ih =>
    intro b N M h
    rw [show a + 1 + b = (a + b) + 1 from by omega, toLE, toLE, List.cons_append]
    have e : 256 ^ (a + 1) * M = 256 * (256 ^ a * M) := by rw [Nat.pow_succ, Nat.mul_comm (256 ^ a) 256, Nat.mul_assoc]
    rw [Nat.pow_succ] at h
    rw [e, show (N + 256 * (256 ^ a * M)) % 256 = N % 256 from by omega, show (N + 256 * (256 ^ a * M)) / 256 = N / 256 + 256 ^ a * M from by omega]
    rw [ih b (N / 256) M (by omega)]
theorem packB_join (a b : List (Int × Int)) (h8 : total a % 8 = 0) (hf : firstErr a = 0) (hp : ∀ p ∈ a, 0 ≤ p.1) : packB (a ++ b) = packB a ++ packB b := by
  have hlt := packN_lt a hp hf
  obtain ⟨k, hk⟩ : ∃ k, total a = 8 * k := ⟨total a / 8, by omega⟩
  have e : (2 : Nat) ^ (8 * k) = 256 ^ k := by rw [Nat.pow_mul]
  unfold packB
  rw [packN_app, total_app, hk, e, show (8 * k + total b + 7) / 8 = k + (total b + 7) / 8 from by omega, show (8 * k + 7) / 8 = k from by omega]
  rw [hk, e] at hlt
  exact toLE_join k _ _ _ hlt
theorem packErr_zero {l : List (Int × Int)} (h : packErr l = 0) : firstErr l = 0 ∧ total l ≤ 65536 := by
  unfold packErr at h
  by_cases h1 : firstErr l = 0
  · rw [if_neg (by omega)] at h
    split at h
    · cases h
    · exact ⟨h1, by omega⟩
  · rw [if_pos h1] at h; exact absurd h h1
theorem packErr_two {l : List (Int × Int)} (h1 : firstErr l = 0) (h2 : 65536 < total l) : packErr l = 2 := by
  unfold packErr
  rw [if_neg (by omega), if_pos h2]
theorem packS_size {l : List (Int × Int)} (h : packErr l = 0) : (packS l).size = (total l + 7) / 8 := by
  rw [packS, if_pos h, size_mk, packB, toLE_len]
theorem packS_le (l : List (Int × Int)) : (packS l).size ≤ 8192 := by
  by_cases h : packErr l = 0
  · have := (packErr_zero h).2
    rw [packS_size h]; omega
  · rw [packS, if_neg h]; decide
theorem law (a b : List (Int × Int)) (h8 : firstErr a = 0 → total a % 8 = 0) (hp : ∀ p ∈ a, 0 ≤ p.1) :
    ((packErr a ≠ 0 ∨ packErr b ≠ 0) ∧ packErr (a ++ b) ≠ 0) ∨ (packErr a = 0 ∧ packErr b = 0 ∧ (packErr (a ++ b) = 0 ∧ packS (a ++ b) = packS a ++ packS b ∨ packErr (a ++ b) = 2 ∧ packS (a ++ b) = ⟨#[]⟩ ∧ 8192 < (packS a).size + (packS b).size)) := by
  by_cases ha : packErr a = 0
  · obtain ⟨fa, ta⟩ := packErr_zero ha
    by_cases hb : packErr b = 0
    · right
      obtain ⟨fb, tb⟩ := packErr_zero hb
      refine ⟨ha, hb, ?_⟩
      have fab : firstErr (a ++ b) = 0 := by rw [firstErr_app, if_pos fa, fb]
      have h9 := h8 fa
      by_cases ht : 65536 < total (a ++ b)
      · right
        have he := packErr_two fab ht
        refine ⟨he, by rw [packS, if_neg (by rw [he]; decide)], ?_⟩
        rw [packS_size ha, packS_size hb]
        rw [total_app] at ht
        omega
      · left
        have he : packErr (a ++ b) = 0 := by unfold packErr; rw [if_neg (by omega), if_neg ht]
        refine ⟨he, ?_⟩
        rw [packS, if_pos he, packS, if_pos ha, packS, if_pos hb, packB_join a b h9 fa hp]
        apply ByteArray.ext
        simp
    · left
      refine ⟨.inr hb, ?_⟩
      intro h
      obtain ⟨f, t⟩ := packErr_zero h
      rw [firstErr_app, if_pos fa] at f
      rw [total_app] at t
      apply hb
      unfold packErr
      rw [if_neg (by omega), if_neg (by omega)]
  · left
    refine ⟨.inl ha, ?_⟩
    intro h
    obtain ⟨f, t⟩ := packErr_zero h
    rw [firstErr_app] at f
    rw [total_app] at t
    split at f
    · rename_i h0
      apply ha
      unfold packErr
      rw [if_neg (by omega), if_neg (by omega)]
    · rename_i h0; exact h0 f
theorem lit_piece {w : World} (a b : Int) : SliceAt (w.alloc (.cells #[Value.int .u64 a, Value.int .i64 b] 60)) 2 (.slice (some ⟨w.heap.size, 0, none⟩) 1 1) ([(a, b)].map rowP) := by
  refine .inr ⟨w.heap.size, 0, 1, rfl, by simp, by unfold maxLen; omega, by simp, by simp, ?_⟩
  intro i r hr
  have hi : i = 0 := by have := (List.getElem?_eq_some_iff.1 hr).1; simp at this; omega
  subst hi
  have hr2 : rowP (a, b) = r := by simpa using hr
  subst hr2
  refine ⟨rfl, fun j x hx => ?_⟩
  exact cell_new rfl (by simpa [rowP] using hx)
theorem first : packErr [(7, 3)] = 0 ∧ packS [(7, 3)] = ⟨#[7]⟩ := by decide

set_option maxHeartbeats 2000000 in
set_option maxRecDepth 100000 in
theorem walk (W : World) (v : Value) (xs : List (Int × Int)) (hs : SliceAt W 2 v (xs.map fun p : Int × Int => [Value.int .u64 p.1, Value.int .i64 p.2])) (hg : ∀ p ∈ xs, (Lit.int .u64 p.1).wf = true ∧ (Lit.int .i64 p.2).wf = true) (hn : xs.length * Try.prog.bytesOf 60 ≤ reachBytes)
    (u : Value) (ys : List (Int × Int)) (ht : SliceAt W 2 u (ys.map fun p : Int × Int => [Value.int .u64 p.1, Value.int .i64 p.2])) (gy : ∀ p ∈ ys, (Lit.int .u64 p.1).wf = true ∧ (Lit.int .i64 p.2).wf = true) (hm : ys.length * Try.prog.bytesOf 60 ≤ reachBytes) :
    Calls Try.prog 13 #[v, u] W fun e w' => e = .returned (.bool true) ∧ Below W.heap.size W w' := by
  have hr : reachBytes = 140737488351232 := rfl
  have hby : Try.prog.bytesOf 60 = 16 := by kernel_rfl
  rw [hr, hby] at hn hm
  clear hr hby
  have hs0 : SliceAt W 2 v (xs.map rowP) := hs
  have ht0 : SliceAt W 2 u (ys.map rowP) := ht
  clear hs ht
  obtain ⟨qv, capv, _, _, rfl, _, _⟩ := hs0.view
  obtain ⟨qu, capu, _, _, rfl, _, _⟩ := ht0.view
  simp only [List.length_map] at hs0 ht0 ⊢
  go_enter Try.func13, Try.ntmps13
  go_wp2_with (fail)
  refine (widths_any _ xs _ hs0 (by omega)).mono ?_
  rintro e w1 ⟨a1, b1, rfl, ha1, hb1, hbel1⟩
  obtain ⟨q1, cap1, bb, off, rfl, hq1, hc1⟩ := ha1.view
  obtain ⟨q2, cap2, _, _, rfl, _, _⟩ := hb1.view
  simp only [List.length_map] at hq1 ⊢
  have HQ := Lib.hid hq1
  have HC : Hid (∀ k p, xs[k]? = some p → w1.cell? ⟨bb, off + k, none⟩ = some (.int .i64 p.2)) := fun k p hx => by
    have := hc1 k _ (by rw [List.getElem?_map, hx]; rfl) 0 _ rfl
    simpa [Nat.mul_one] using this
  clear ha1 hb1 hq1 hc1
  have hxI : (xs.length : Int) ≤ 8796093022207 := by omega
  go_wp2_with (fail)
  go_loopw [7, 25] (fun z y wr => ∃ (k : Nat) (t : Int), k ≤ xs.length ∧ y = .int .i64 k ∧ z = .int .i64 t ∧ 0 ≤ t ∧ t < 8 ∧ Hid (t = remI 0 (xs.take k)) ∧ w1 = wr) (fun _ y _ => xs.length - (intOf y).toNat)
  case atStart => exact ⟨0, 0, Nat.zero_le _, rfl, rfl, by omega, by omega, rfl, rfl⟩
  case round =>
    obtain ⟨k, t, hk, rfl, rfl, ht0', ht8, hrem, rfl⟩ := hrel
    by_cases hlt : k < xs.length
    · obtain ⟨rfl, hblk⟩ := HQ.out k hlt
      obtain ⟨⟨p1, p2⟩, hp⟩ : ∃ p, xs[k]? = some p := ⟨_, List.getElem?_eq_getElem hlt⟩
      have hc0 := HC.out k _ hp
      have hltI : (k : Int) < (xs.length : Int) := by omega
      have h7 := i64_and7 p2
      obtain ⟨r, hr⟩ : ∃ r, r = p2 % 8 := ⟨_, rfl⟩
      rw [← hr] at h7
      have hr8 : 0 ≤ r ∧ r < 8 := by omega
      obtain ⟨t2, ht2⟩ : ∃ t2, t2 = (t + r) % 8 := ⟨_, rfl⟩
      have h72 := i64_and7 (t + r)
      rw [← ht2] at h72
      have hnext : Hid (t2 = remI 0 (xs.take (k + 1))) := by show t2 = _; rw [remI_next hp, ← hrem.out, ht2, hr]
      have ht28 : 0 ≤ t2 ∧ t2 < 8 := by omega
      have HT2 := Lib.hid ht28
      clear hr ht2 hp ht28
      go_wp2_with (fail)
      exact ⟨⟨k + 1, t2, by omega, rfl, rfl, HT2.out.1, HT2.out.2, hnext, trivial⟩, by show xs.length - (((k : Int) + 1).toNat) < xs.length - ((k : Int).toNat); omega⟩
    · have hke : k = xs.length := by omega
      subst hke
      rw [List.take_length] at hrem
      obtain ⟨zs, hzs⟩ : ∃ zs, zs = padded xs := ⟨_, rfl⟩
      by_cases hz : t = 0
      · subst hz
        have hzx : zs = xs := by rw [hzs, padded, if_pos hrem.out.symm]
        have hsz : SliceAt w1 2 (.slice qv zs.length capv) (zs.map rowP) := by rw [hzx]; exact hs0.below (Nat.le_refl _) hbel1
        have hgz : ∀ p ∈ zs, (Lit.int .u64 p.1).wf = true ∧ (Lit.int .i64 p.2).wf = true := by rw [hzx]; exact hg
        have hnz : zs.length * 16 ≤ 140737488351248 := by rw [hzx]; omega
        rw [show xs.length = zs.length from by rw [hzx]]
        have hb5 := hbel1
        generalize w1 = w5 at hsz hb5 ⊢
        clear hzx hbel1 HQ HC
        have hu0 : SliceAt w5 2 (.slice qu ys.length capu) (ys.map rowP) := ht0.below (Nat.le_refl _) hb5
        have hlaw := law zs ys (fun h => by rw [hzs] at h ⊢; exact padded_total xs h) (fun p hp => by obtain ⟨v, h1, _⟩ := u64_nat (hgz p hp).1; omega)
        obtain ⟨SA, hSA⟩ : ∃ s, packS zs = s := ⟨_, rfl⟩
        obtain ⟨SB, hSB⟩ : ∃ s, packS ys = s := ⟨_, rfl⟩
        obtain ⟨SC, hSC⟩ : ∃ s, packS (zs ++ ys) = s := ⟨_, rfl⟩
        obtain ⟨ea, hea⟩ : ∃ s, packErr zs = s := ⟨_, rfl⟩
        obtain ⟨eb, heb⟩ : ∃ s, packErr ys = s := ⟨_, rfl⟩
        obtain ⟨ec, hec⟩ : ∃ s, packErr (zs ++ ys) = s := ⟨_, rfl⟩
        rw [hSA, hSB, hSC, hea, heb, hec] at hlaw
        have hsA : (SA.size : Int) ≤ 8192 := by rw [← hSA]; have := packS_le zs; omega
        have hsB : (SB.size : Int) ≤ 8192 := by rw [← hSB]; have := packS_le ys; omega
        have HSA := Lib.hid hSA
        have HSB := Lib.hid hSB
        have HSC := Lib.hid hSC
        have HEA := Lib.hid hea
        have HEB := Lib.hid heb
        have HEC := Lib.hid hec
        have hga : ∀ p ∈ zs ++ ys, (Lit.int .u64 p.1).wf = true ∧ (Lit.int .i64 p.2).wf = true := fun p hp => by
          rcases List.mem_append.1 hp with h | h
          · exact hgz p h
          · exact gy p h
        have hla : (zs ++ ys).length ≤ 100000000000000000 := by simp; omega
        have hlc : (zs.length + ys.length) * 16 ≤ 281474976710656 := by omega
        clear hSA hSB hSC hea heb hec hzs hs0 ht0
        go_wp2_with (fail)
        refine (pack_any _ zs _ hsz hgz (by omega)).mono ?_
        rintro e w6 ⟨rfl, hb6⟩
        rw [HSA.out, HEA.out]
        have b6 := hb5.trans (hb6.mono hb5.size)
        have hu6 := hu0.below (Nat.le_refl _) hb6
        have hz6 := hsz.below (Nat.le_refl _) hb6
        clear hu0 hsz hb5 hb6
        go_wp2_with (fail)
        refine (pack_any _ ys _ hu6 gy (by omega)).mono ?_
        rintro e w7 ⟨rfl, hb7⟩
        rw [HSB.out, HEB.out]
        have b7 := b6.trans (hb7.mono b6.size)
        have hu7 := hu6.below (Nat.le_refl _) hb7
        have hz7 := hz6.below (Nat.le_refl _) hb7
        clear hu6 hz6 b6 hb7
        go_wp2_with (fail)
        refine (concat_any _ _ _ zs ys _ (hz7.below (Nat.le_refl _) ((Below.refl _ _).alloc (Nat.le_refl _) _)) (hu7.below (Nat.le_refl _) ((Below.refl _ _).alloc (Nat.le_refl _) _)) (by simp) (cell_new rfl rfl) (cell_new rfl rfl) hlc).mono ?_
        rintro e w8 ⟨v8, rfl, hown8, hb8⟩
        have hs8 : SliceAt w8 2 v8 ((zs ++ ys).map rowP) := own_sliceN rowE_len (by simp) hown8
        have b8 := (b7.alloc b7.size (Obj.cells #[Value.slice qv zs.length capv, Value.slice qu ys.length capu] 55)).trans (hb8.mono (Nat.le_trans b7.size (by simp)))
        clear hown8 hb8 b7 hu7 hz7
        go_wp2_with (fail)
        refine (pack_any _ (zs ++ ys) _ hs8 hga hla).mono ?_
        rintro e w9 ⟨rfl, hb9⟩
        rw [HSC.out, HEC.out]
        have b9 := b8.trans (hb9.mono b8.size)
        clear hs8 hb9 b8
        rcases hlaw with ⟨he, hc⟩ | ⟨rfl, rfl, hlast⟩
        · have hcb : ((ec : Int) != 0) = true := by simp; omega
          rcases Nat.eq_zero_or_pos ea with h0 | h0
          · subst h0
            have hbb : ((eb : Int) != 0) = true := by simp; omega
            clear he hc
            go_wp2_with (fail)
            go_ret
            exact ⟨rfl, b9⟩
          · have hab : ((ea : Int) != 0) = true := by simp; omega
            clear he hc h0
            go_wp2_with (fail)
            go_ret
            exact ⟨rfl, b9⟩
        · have hfirst := first
          go_wp2_with (fail)
          refine (pack_any _ [(7, 3)] _ (lit_piece 7 3) (by decide) (by decide)).mono ?_
          rintro e w10 ⟨rfl, hb10⟩
          rw [hfirst.1, hfirst.2]
          have b10 := (b9.alloc b9.size (Obj.cells #[Value.int .u64 7, Value.int .i64 3] 60)).trans (hb10.mono (Nat.le_trans b9.size (by simp)))
          clear hb10 b9 hfirst
          rcases hlast with ⟨rfl, rfl⟩ | ⟨rfl, rfl, hbig⟩
          · go_wp2_with (fail)
            go_ret
            exact ⟨rfl, b10⟩
          · have hbI : (8192 : Int) < (SA.size : Int) + (SB.size : Int) := by omega
            clear hbig
            have hne : (ByteArray.toList ⟨#[]⟩ == (SA ++ SB).toList) = false := by
              rw [Lib.toList_data, Lib.toList_data]
              simp only [beq_eq_false_iff_ne, ne_eq]
              intro h
              have h2 := congrArg List.length h
              have h3 := Lib.size_eq SA
              have h4 := Lib.size_eq SB
              simp at h2 h3 h4
              omega
            go_wp2_with (fail)
            all_goals
              go_ret
              exact ⟨rfl, b10⟩
      · have htb : (t == 0) = false := by simpa using hz
        have hzx : zs = xs ++ [(0, 8 - t)] := by rw [hzs, padded, if_neg (by rw [← hrem.out]; exact hz), ← hrem.out]
        have hs1 : SliceAt w1 2 (.slice qv xs.length capv) (xs.map rowP) := hs0.below (Nat.le_refl _) hbel1
        have hgz : ∀ p ∈ zs, (Lit.int .u64 p.1).wf = true ∧ (Lit.int .i64 p.2).wf = true := by
          rw [hzx]
          intro p hp
          rcases List.mem_append.1 hp with h | h
          · exact hg p h
          · simp only [List.mem_singleton] at h
            subst h
            simp [Lit.wf, IntKind.min, IntKind.max, IntKind.signed, IntKind.bits]
            omega
        have hnz : zs.length * 16 ≤ 140737488351248 := by rw [hzx]; simp; omega
        have hzl : xs.length + 1 = zs.length := by rw [hzx]; simp
        have HZL := Lib.hid hzl
        have HZS := Lib.hid hzs
        have HZX := Lib.hid hzx
        clear HQ HC hz hzl hzs hzx
        go_wp2_with (fail)
        refine (clonepiece.clone_any _ xs _ hs1 (by omega)).mono ?_
        rintro e w2 ⟨v2, rfl, hown2, hb2'⟩
        have hb2 := hbel1.trans (hb2'.mono hbel1.size)
        have hsz2 := hb2.size
        have hown2' := own_monoN hown2 hbel1.size
        clear hown2 hs1 hb2' hbel1
        go_wp2_with (at_builtin; refine appN tE rfl (.tmp 38) (.tmp 42) rfl _ [.int .u64 0, .int .i64 (8 - t)] xs.length _ rfl rfl hown2' rfl ?c1 ?c2 ?c3 hb2 hsz2 ?_)
        case c1 => simp [Value.oneCell']
        case c2 => omega
        case c3 => unfold maxLen; omega
        intro v3 w5 hown3 _ hb5 _
        have hsz : SliceAt w5 2 v3 (zs.map rowP) := by
          rw [show flat rowE xs ++ [Value.int .u64 0, Value.int .i64 (8 - t)] = flat rowE zs from by rw [HZX.out]; simp [flat, rowE], HZL.out] at hown3
          exact own_sliceN rowE_len rfl hown3
        clear hown2' hown3 hb2 hsz2
        have hzs := HZS.out
        obtain ⟨q3, cap3, _, _, rfl, _, _⟩ := hsz.view
        simp only [List.length_map] at hsz
        rw [List.length_map]
        have hu0 : SliceAt w5 2 (.slice qu ys.length capu) (ys.map rowP) := ht0.below (Nat.le_refl _) hb5
        have hlaw := law zs ys (fun h => by rw [hzs] at h ⊢; exact padded_total xs h) (fun p hp => by obtain ⟨v, h1, _⟩ := u64_nat (hgz p hp).1; omega)
        obtain ⟨SA, hSA⟩ : ∃ s, packS zs = s := ⟨_, rfl⟩
        obtain ⟨SB, hSB⟩ : ∃ s, packS ys = s := ⟨_, rfl⟩
        obtain ⟨SC, hSC⟩ : ∃ s, packS (zs ++ ys) = s := ⟨_, rfl⟩
        obtain ⟨ea, hea⟩ : ∃ s, packErr zs = s := ⟨_, rfl⟩
        obtain ⟨eb, heb⟩ : ∃ s, packErr ys = s := ⟨_, rfl⟩
        obtain ⟨ec, hec⟩ : ∃ s, packErr (zs ++ ys) = s := ⟨_, rfl⟩
        rw [hSA, hSB, hSC, hea, heb, hec] at hlaw
        have hsA : (SA.size : Int) ≤ 8192 := by rw [← hSA]; have := packS_le zs; omega
        have hsB : (SB.size : Int) ≤ 8192 := by rw [← hSB]; have := packS_le ys; omega
        have HSA := Lib.hid hSA
        have HSB := Lib.hid hSB
        have HSC := Lib.hid hSC
        have HEA := Lib.hid hea
        have HEB := Lib.hid heb
        have HEC := Lib.hid hec
        have hga : ∀ p ∈ zs ++ ys, (Lit.int .u64 p.1).wf = true ∧ (Lit.int .i64 p.2).wf = true := fun p hp => by
          rcases List.mem_append.1 hp with h | h
          · exact hgz p h
          · exact gy p h
        have hla : (zs ++ ys).length ≤ 100000000000000000 := by simp; omega
        have hlc : (zs.length + ys.length) * 16 ≤ 281474976710656 := by omega
        clear hSA hSB hSC hea heb hec hzs hs0 ht0
        go_wp2_with (fail)
        refine (pack_any _ zs _ hsz hgz (by omega)).mono ?_
        rintro e w6 ⟨rfl, hb6⟩
        rw [HSA.out, HEA.out]
        have b6 := hb5.trans (hb6.mono hb5.size)
        have hu6 := hu0.below (Nat.le_refl _) hb6
        have hz6 := hsz.below (Nat.le_refl _) hb6
        clear hu0 hsz hb5 hb6
        go_wp2_with (fail)
        refine (pack_any _ ys _ hu6 gy (by omega)).mono ?_
        rintro e w7 ⟨rfl, hb7⟩
        rw [HSB.out, HEB.out]
        have b7 := b6.trans (hb7.mono b6.size)
        have hu7 := hu6.below (Nat.le_refl _) hb7
        have hz7 := hz6.below (Nat.le_refl _) hb7
        clear hu6 hz6 b6 hb7
        go_wp2_with (fail)
        refine (concat_any _ _ _ zs ys _ (hz7.below (Nat.le_refl _) ((Below.refl _ _).alloc (Nat.le_refl _) _)) (hu7.below (Nat.le_refl _) ((Below.refl _ _).alloc (Nat.le_refl _) _)) (by simp) (cell_new rfl rfl) (cell_new rfl rfl) hlc).mono ?_
        rintro e w8 ⟨v8, rfl, hown8, hb8⟩
        have hs8 : SliceAt w8 2 v8 ((zs ++ ys).map rowP) := own_sliceN rowE_len (by simp) hown8
        have b8 := (b7.alloc b7.size (Obj.cells #[Value.slice q3 zs.length cap3, Value.slice qu ys.length capu] 55)).trans (hb8.mono (Nat.le_trans b7.size (by simp)))
        clear hown8 hb8 b7 hu7 hz7
        go_wp2_with (fail)
        refine (pack_any _ (zs ++ ys) _ hs8 hga hla).mono ?_
        rintro e w9 ⟨rfl, hb9⟩
        rw [HSC.out, HEC.out]
        have b9 := b8.trans (hb9.mono b8.size)
        clear hs8 hb9 b8
        rcases hlaw with ⟨he, hc⟩ | ⟨rfl, rfl, hlast⟩
        · have hcb : ((ec : Int) != 0) = true := by simp; omega
          rcases Nat.eq_zero_or_pos ea with h0 | h0
          · subst h0
            have hbb : ((eb : Int) != 0) = true := by simp; omega
            clear he hc
            go_wp2_with (fail)
            go_ret
            exact ⟨rfl, b9⟩
          · have hab : ((ea : Int) != 0) = true := by simp; omega
            clear he hc h0
            go_wp2_with (fail)
            go_ret
            exact ⟨rfl, b9⟩
        · have hfirst := first
          go_wp2_with (fail)
          refine (pack_any _ [(7, 3)] _ (lit_piece 7 3) (by decide) (by decide)).mono ?_
          rintro e w10 ⟨rfl, hb10⟩
          rw [hfirst.1, hfirst.2]
          have b10 := (b9.alloc b9.size (Obj.cells #[Value.int .u64 7, Value.int .i64 3] 60)).trans (hb10.mono (Nat.le_trans b9.size (by simp)))
          clear hb10 b9 hfirst
          rcases hlast with ⟨rfl, rfl⟩ | ⟨rfl, rfl, hbig⟩
          · go_wp2_with (fail)
            go_ret
            exact ⟨rfl, b10⟩
          · have hbI : (8192 : Int) < (SA.size : Int) + (SB.size : Int) := by omega
            clear hbig
            have hne : (ByteArray.toList ⟨#[]⟩ == (SA ++ SB).toList) = false := by
              rw [Lib.toList_data, Lib.toList_data]
              simp only [beq_eq_false_iff_ne, ne_eq]
              intro h
              have h2 := congrArg List.length h
              have h3 := Lib.size_eq SA
              have h4 := Lib.size_eq SB
              simp at h2 h3 h4
              omega
            go_wp2_with (fail)
            all_goals
              go_ret
              exact ⟨rfl, b10⟩
end Go.Proofs.Ytjeocmkdekdlnaa.lawBitsJoins
