/-
  runs.Read: what it answers, and the walk.
-/
import Derived.Test.YtjfcoccfkkghaaaRuns
import Derived.Test.YtjfcoccfkkghaaaGet
namespace Go.Proofs.Ytjfcoccfkkghaaa.runs
open Go.RowKit kit put get
set_option linter.unusedVariables false

/-- what is read of l, n elements being wanted, 'have' of them read, the last byte 'last': the elements, how many bytes, the error -/
def readF : List UInt8 → Nat → Nat → UInt8 → List Int × Nat × Nat
  | l, n, k, last =>
    if n ≤ k then ([], 0, 0) else
    match l with
    | [] => ([], 0, 3)
    | b :: l =>
      let many := b.toNat % 16 + 1
      if n < k + many ∨ (0 < k ∧ b.toNat / 16 = last.toNat / 16 ∧ last.toNat % 16 ≠ 15) then ([], 0, 4) else
        let r := readF l n (k + many) b
        if r.2.2 = 0 then (List.replicate many ((b.toNat / 16 : Nat) : Int) ++ r.1, r.2.1 + 1, 0) else r

def readB (s : List UInt8) : List Int × Nat × Nat :=
  let g := getB s
  if g.2.2 ≠ 0 then ([], 0, g.2.2) else
  if 320 < g.1 then ([], 0, 2) else
  let r := readF (s.drop g.2.1) g.1 0 255
  if r.2.2 = 0 then (r.1, r.2.1 + g.2.1, 0) else ([], 0, r.2.2)

def rCells (l : List Int) : List Value := l.map fun x => Value.int .i64 x

theorem readF_stop (l : List UInt8) (n k : Nat) (last : UInt8) (h : n ≤ k) : readF l n k last = ([], 0, 0) := by
  unfold readF; rw [if_pos h]
theorem readF_nil (n k : Nat) (last : UInt8) (h : ¬ n ≤ k) : readF [] n k last = ([], 0, 3) := by
  unfold readF; rw [if_neg h]
theorem readF_bad (l : List UInt8) (n k : Nat) (b last : UInt8) (h : ¬ n ≤ k) (hb : n < k + (b.toNat % 16 + 1) ∨ (0 < k ∧ b.toNat / 16 = last.toNat / 16 ∧ last.toNat % 16 ≠ 15)) : readF (b :: l) n k last = ([], 0, 4) := by
  conv => lhs; unfold readF
  rw [if_neg h]
  dsimp only
  rw [if_pos hb]
theorem readF_more (l : List UInt8) (n k : Nat) (b last : UInt8) (h : ¬ n ≤ k) (hb : ¬ (n < k + (b.toNat % 16 + 1) ∨ (0 < k ∧ b.toNat / 16 = last.toNat / 16 ∧ last.toNat % 16 ≠ 15))) :
    readF (b :: l) n k last = if (readF l n (k + (b.toNat % 16 + 1)) b).2.2 = 0 then (List.replicate (b.toNat % 16 + 1) ((b.toNat / 16 : Nat) : Int) ++ (readF l n (k + (b.toNat % 16 + 1)) b).1, (readF l n (k + (b.toNat % 16 + 1)) b).2.1 + 1, 0) else readF l n (k + (b.toNat % 16 + 1)) b := by
  conv => lhs; unfold readF
  rw [if_neg h]
  dsimp only
  rw [if_neg hb]

/-- where the loop stands -/
def Stands (L : List UInt8) (m at0 k : Nat) (last : UInt8) (done : List Int) : Prop :=
  readB L = (if (readF (L.drop at0) m k last).2.2 = 0 then (done ++ (readF (L.drop at0) m k last).1, (readF (L.drop at0) m k last).2.1 + at0, 0) else ([], 0, (readF (L.drop at0) m k last).2.2))
theorem Stands.stop {L : List UInt8} {m at0 k : Nat} {last : UInt8} {done : List Int} (h : Stands L m at0 k last done) (hk : m ≤ k) : readB L = (done, at0, 0) := by
  unfold Stands at h
  rw [readF_stop _ _ _ _ hk] at h
  simpa using h
theorem Stands.nil {L : List UInt8} {m at0 k : Nat} {last : UInt8} {done : List Int} (h : Stands L m at0 k last done) (hk : ¬ m ≤ k) (hl : L.length ≤ at0) : readB L = ([], 0, 3) := by
  unfold Stands at h
  rw [List.drop_of_length_le hl, readF_nil _ _ _ hk] at h
  simpa using h
theorem Stands.bad {L : List UInt8} {m at0 k : Nat} {b last : UInt8} {done : List Int} (h : Stands L m at0 k last done) (hk : ¬ m ≤ k) (hl : L[at0]? = some b) (hb : m < k + (b.toNat % 16 + 1) ∨ (0 < k ∧ b.toNat / 16 = last.toNat / 16 ∧ last.toNat % 16 ≠ 15)) : readB L = ([], 0, 4) := by
  unfold Stands at h
  rw [List.drop_eq_getElem_cons (List.getElem?_eq_some_iff.1 hl).1, (List.getElem?_eq_some_iff.1 hl).2, readF_bad _ _ _ _ _ hk hb] at h
  simpa using h
theorem Stands.more {L : List UInt8} {m at0 k : Nat} {b last : UInt8} {done : List Int} (h : Stands L m at0 k last done) (hk : ¬ m ≤ k) (hl : L[at0]? = some b) (hb : ¬ (m < k + (b.toNat % 16 + 1) ∨ (0 < k ∧ b.toNat / 16 = last.toNat / 16 ∧ last.toNat % 16 ≠ 15))) :
    Stands L m (at0 + 1) (k + (b.toNat % 16 + 1)) b (done ++ List.replicate (b.toNat % 16 + 1) ((b.toNat / 16 : Nat) : Int)) := by
  unfold Stands at h ⊢
  rw [List.drop_eq_getElem_cons (List.getElem?_eq_some_iff.1 hl).1, (List.getElem?_eq_some_iff.1 hl).2, readF_more _ _ _ _ _ hk hb] at h
  rw [h]
  by_cases h0 : (readF (L.drop (at0 + 1)) m (k + (b.toNat % 16 + 1)) b).2.2 = 0
  · rw [if_pos h0, if_pos rfl, if_pos h0, List.append_assoc, Nat.add_assoc, Nat.add_comm 1 at0]
  · rw [if_neg h0, if_neg h0, if_neg h0]

theorem own_len {w : World} {B e n : Nat} {v : Value} {xs : List Value} (h : w.ownsRow B e 1 v n xs) : ∃ q cap, v = .slice q n cap := by
  rcases h.2 with ⟨rfl, h0⟩ | ⟨g, cap, cur, rfl, _⟩
  · subst h0; exact ⟨_, _, rfl⟩
  · exact ⟨_, _, rfl⟩

set_option maxRecDepth 100000 in
theorem and15_fin : ∀ n : Fin 256, bits BinOp.and IntKind.u8 ((n.val : Nat) : Int) 15 = ((n.val % 16 : Nat) : Int) := by decide
theorem and15 (b : UInt8) : bits BinOp.and IntKind.u8 (b.toNat : Int) 15 = ((b.toNat % 16 : Nat) : Int) := and15_fin ⟨b.toNat, b.toNat_lt⟩

theorem tI : SliceTy Try.prog 22 3 1 8 (.int .i64 0) := sliceTy_mk Try.underlying22 (by kernel_rfl) rfl (by decide)

def ReadSays (s : ByteArray) (W : World) (e : Ending) (w' : World) : Prop :=
  ∃ ov, e = .returned (.tuple #[ov, .int .i64 ((readB s.data.toList).2.1 : Int), .int .i64 ((readB s.data.toList).2.2 : Int)]) ∧ w'.ownsRow W.heap.size 3 1 ov (readB s.data.toList).1.length (rCells (readB s.data.toList).1) ∧ Below W.heap.size W w'

theorem says_err {s : ByteArray} {W w' : World} {e : Nat} (h : readB s.data.toList = ([], 0, e)) (hb : Below W.heap.size W w') : ReadSays s W (.returned (.tuple #[.slice none 0 0, .int .i64 0, .int .i64 (e : Int)])) w' :=
  ⟨_, by rw [h]; rfl, by rw [h]; exact World.ownsRow_nil _ _ _ _, hb⟩

set_option maxRecDepth 100000 in
theorem read_any (s : ByteArray) (hs : s.size ≤ 1000000000000000) (W : World) :
    Calls Try.prog 21 #[.string s] W (ReadSays s W) := by
  rcases getB_facts s.data.toList with ⟨k, m, h1, h2, h3, h4, h5⟩ | h | h
  · have H := Lib.hid h1
    clear h5
    by_cases hbig : (320 : Int) < (m : Int)
    · have hE : readB s.data.toList = ([], 0, 2) := by unfold readB; rw [h1]; simp; omega
      have HE := Lib.hid hE
      clear h1 hE
      go_enter Try.func21, Try.ntmps21
      go_wp2_with (fail)
      refine (get_as s (by unfold maxLen; omega) m k 0 H.out _).mono ?_
      rintro e w' ⟨rfl, rfl⟩
      go_wp2_with (fail)
      go_ret3
      exact says_err HE.out (Below.refl _ _)
    · clear h1
      go_enter Try.func21, Try.ntmps21
      go_wp2_with (fail)
      refine (get_as s (by unfold maxLen; omega) m k 0 H.out _).mono ?_
      rintro e w' ⟨rfl, rfl⟩
      have hm3 : m ≤ 320 := by omega
      have hkk : k ≤ s.size := by rw [Lib.size_eq]; exact h3
      have hst0 : Hid (Stands s.data.toList m k 0 255 []) := by
        show Stands s.data.toList m k 0 255 []
        unfold Stands readB
        rw [H.out]
        simp only [ne_eq, not_true_eq_false, if_false, List.nil_append]
        rw [if_neg (by omega)]
      clear hbig h3 h2
      go_wp2_with (fail)
      go_loopw [6, 8, 9] (fun av o lv wr => ∃ (at0 : Nat) (last : UInt8) (done : List Int), at0 ≤ s.size ∧ done.length ≤ m ∧ av = .int .i64 at0 ∧ lv = .int .u8 (last.toNat : Int) ∧ wr.ownsRow W.heap.size 3 1 o done.length (rCells done) ∧ Hid (Stands s.data.toList m at0 done.length last done) ∧ Below W.heap.size W wr) (fun av _ _ _ => s.size - (intOf av).toNat)
      case atStart => exact ⟨k, 255, [], hkk, Nat.zero_le _, rfl, rfl, World.ownsRow_nil _ _ _ _, hst0, Below.refl _ _⟩
      case round =>
        obtain ⟨at0, last, done, hat, hdl, rfl, rfl, hown, hst, hb⟩ := hrel
        obtain ⟨q, cap, rfl⟩ := own_len hown
        have hsI : (s.size : Int) ≤ 1000000000000000 := by omega
        by_cases hfin : (done.length : Int) < (m : Int)
        · by_cases hend : (at0 : Int) = (s.size : Int)
          · have HE := Lib.hid (hst.out.nil (by omega) (by rw [← Lib.size_eq]; omega))
            have hee : ((at0 : Int) == (s.size : Int)) = true := by simpa using hend
            clear hend
            go_wp2_with (fail)
            go_ret3
            exact says_err HE.out hb
          · have hee : ((at0 : Int) == (s.size : Int)) = false := by simpa using hend
            have hlt : at0 < s.size := by omega
            have hltI : (at0 : Int) < (s.size : Int) := by omega
            obtain ⟨b, hbi⟩ : ∃ b, s[at0] = b := ⟨_, rfl⟩
            have hbl : s.data.toList[at0]? = some b := by
              rw [Lib.size_eq] at hlt
              rw [List.getElem?_eq_getElem hlt, ← hbi]
              rfl
            have HB := Lib.hid hbl
            obtain ⟨mq, hmq⟩ : ∃ mq, mq = b.toNat % 16 := ⟨_, rfl⟩
            obtain ⟨lq, hlq⟩ : ∃ lq, lq = last.toNat % 16 := ⟨_, rfl⟩
            have ha1 := and15 b
            have ha2 := and15 last
            rw [← hmq] at ha1
            rw [← hlq] at ha2
            have hm15 : mq ≤ 15 := by omega
            have hl15 : lq ≤ 15 := by omega
            have hd3 : done.length ≤ 320 := by omega
            have HMQ := Lib.hid hmq
            have HLQ := Lib.hid hlq
            clear hend hbl hmq hlq
            by_cases hov : (m : Int) < (done.length : Int) + ((mq : Int) + 1)
            · have HE := Lib.hid (hst.out.bad (by omega) HB.out (.inl (by rw [← HMQ.out]; omega)))
              go_wp2_with (fail)
              go_ret3
              exact says_err HE.out hb
            · by_cases hrep : 0 < done.length ∧ b.toNat / 16 = last.toNat / 16 ∧ lq ≠ 15
              · obtain ⟨r1, r2, r3⟩ := hrep
                have HE := Lib.hid (hst.out.bad (by omega) HB.out (.inr ⟨r1, r2, by rw [← HLQ.out]; exact r3⟩))
                have r1I : (0 : Int) < (done.length : Int) := by omega
                have r2I : (b.toNat : Int) / 16 = (last.toNat : Int) / 16 := by omega
                have r3I : ((lq : Int) != 15) = true := by simp; omega
                go_wp2_with (fail)
                go_ret3
                exact says_err HE.out hb
              · have hmore0 := hst.out.more (by omega) HB.out (by rw [← HMQ.out, ← HLQ.out]; omega)
                rw [← HMQ.out] at hmore0
                obtain ⟨vq, hvq⟩ : ∃ vq, vq = b.toNat / 16 := ⟨_, rfl⟩
                have hvI : (b.toNat : Int) / 16 = (vq : Int) := by omega
                have hv15 : vq ≤ 15 := by have := b.toNat_lt; omega
                have hmore : Stands s.data.toList m (at0 + 1) (done.length + (mq + 1)) b (done ++ List.replicate (mq + 1) (vq : Int)) := by rw [hvq]; exact hmore0
                clear hmore0
                by_cases r1 : (0 : Int) < (done.length : Int)
                · by_cases r2 : (b.toNat : Int) / 16 = (last.toNat : Int) / 16
                  · have r3 : lq = 15 := by omega
                    subst r3
                    have r2b : ((vq : Int) == (last.toNat : Int) / 16) = true := by simp; omega
                    clear hvq hrep r2
                    go_wp2_with (fail)
                    go_loopw [8, 66] (fun o y wx => ∃ j : Nat, j ≤ mq + 1 ∧ y = .int .i64 j ∧ wx.ownsRow W.heap.size 3 1 o (done.length + j) (rCells (done ++ List.replicate j (vq : Int))) ∧ Below W.heap.size W wx) (fun _ y _ => mq + 1 - (intOf y).toNat)
                    case atStart => exact ⟨0, Nat.zero_le _, rfl, by simpa using hown, hb⟩
                    case round =>
                      obtain ⟨j, hj, rfl, hown2, hb2⟩ := hrel
                      have hsz2 := hb2.size
                      by_cases hjl : (j : Int) < (mq : Int) + 1
                      · go_wp2_with (at_builtin; refine app1 tI rfl (.tmp 68) (.tmp 72) rfl _ _ (done.length + j) (rCells (done ++ List.replicate j (vq : Int))) rfl rfl hown2 rfl ?c3 ?c4 hb2 hsz2 ?_)
                        case c3 => omega
                        case c4 => unfold maxLen; omega
                        intro v' w1 hown1 _ hbel1 _
                        rw [show rCells (done ++ List.replicate j (vq : Int)) ++ [Value.int .i64 (vq : Int)] = rCells (done ++ List.replicate (j + 1) (vq : Int)) from by rw [List.replicate_succ']; simp [rCells]] at hown1
                        clear hown2
                        go_wp2_with (fail)
                        exact ⟨⟨j + 1, by omega, rfl, hown1, hbel1⟩, by show mq + 1 - (((j : Int) + 1).toNat) < mq + 1 - ((j : Int).toNat); omega⟩
                      · have hje : j = mq + 1 := by omega
                        subst hje
                        have hlen2 : (done ++ List.replicate (mq + 1) (vq : Int)).length = done.length + (mq + 1) := by simp
                        have HST := Lib.hid hmore
                        rw [← hlen2] at hown2 HST
                        have hdl2 : (done ++ List.replicate (mq + 1) (vq : Int)).length ≤ m := by rw [hlen2]; omega
                        generalize done ++ List.replicate (mq + 1) (vq : Int) = done2 at hown2 HST hdl2
                        clear hmore hlen2 hown
                        go_wp2_with (fail)
                        exact ⟨⟨at0 + 1, b, done2, by omega, hdl2, rfl, rfl, hown2, HST, hb2⟩, by show s.size - (((at0 : Int) + 1).toNat) < s.size - ((at0 : Int).toNat); omega⟩
                  · clear hvq hrep
                    go_wp2_with (fail)
                    go_loopw [8, 66] (fun o y wx => ∃ j : Nat, j ≤ mq + 1 ∧ y = .int .i64 j ∧ wx.ownsRow W.heap.size 3 1 o (done.length + j) (rCells (done ++ List.replicate j (vq : Int))) ∧ Below W.heap.size W wx) (fun _ y _ => mq + 1 - (intOf y).toNat)
                    case atStart => exact ⟨0, Nat.zero_le _, rfl, by simpa using hown, hb⟩
                    case round =>
                      obtain ⟨j, hj, rfl, hown2, hb2⟩ := hrel
                      have hsz2 := hb2.size
                      by_cases hjl : (j : Int) < (mq : Int) + 1
                      · go_wp2_with (at_builtin; refine app1 tI rfl (.tmp 68) (.tmp 72) rfl _ _ (done.length + j) (rCells (done ++ List.replicate j (vq : Int))) rfl rfl hown2 rfl ?c3 ?c4 hb2 hsz2 ?_)
                        case c3 => omega
                        case c4 => unfold maxLen; omega
                        intro v' w1 hown1 _ hbel1 _
                        rw [show rCells (done ++ List.replicate j (vq : Int)) ++ [Value.int .i64 (vq : Int)] = rCells (done ++ List.replicate (j + 1) (vq : Int)) from by rw [List.replicate_succ']; simp [rCells]] at hown1
                        clear hown2
                        go_wp2_with (fail)
                        exact ⟨⟨j + 1, by omega, rfl, hown1, hbel1⟩, by show mq + 1 - (((j : Int) + 1).toNat) < mq + 1 - ((j : Int).toNat); omega⟩
                      · have hje : j = mq + 1 := by omega
                        subst hje
                        have hlen2 : (done ++ List.replicate (mq + 1) (vq : Int)).length = done.length + (mq + 1) := by simp
                        have HST := Lib.hid hmore
                        rw [← hlen2] at hown2 HST
                        have hdl2 : (done ++ List.replicate (mq + 1) (vq : Int)).length ≤ m := by rw [hlen2]; omega
                        generalize done ++ List.replicate (mq + 1) (vq : Int) = done2 at hown2 HST hdl2
                        clear hmore hlen2 hown
                        go_wp2_with (fail)
                        exact ⟨⟨at0 + 1, b, done2, by omega, hdl2, rfl, rfl, hown2, HST, hb2⟩, by show s.size - (((at0 : Int) + 1).toNat) < s.size - ((at0 : Int).toNat); omega⟩
                · clear hvq hrep
                  go_wp2_with (fail)
                  go_loopw [8, 66] (fun o y wx => ∃ j : Nat, j ≤ mq + 1 ∧ y = .int .i64 j ∧ wx.ownsRow W.heap.size 3 1 o (done.length + j) (rCells (done ++ List.replicate j (vq : Int))) ∧ Below W.heap.size W wx) (fun _ y _ => mq + 1 - (intOf y).toNat)
                  case atStart => exact ⟨0, Nat.zero_le _, rfl, by simpa using hown, hb⟩
                  case round =>
                    obtain ⟨j, hj, rfl, hown2, hb2⟩ := hrel
                    have hsz2 := hb2.size
                    by_cases hjl : (j : Int) < (mq : Int) + 1
                    · go_wp2_with (at_builtin; refine app1 tI rfl (.tmp 68) (.tmp 72) rfl _ _ (done.length + j) (rCells (done ++ List.replicate j (vq : Int))) rfl rfl hown2 rfl ?c3 ?c4 hb2 hsz2 ?_)
                      case c3 => omega
                      case c4 => unfold maxLen; omega
                      intro v' w1 hown1 _ hbel1 _
                      rw [show rCells (done ++ List.replicate j (vq : Int)) ++ [Value.int .i64 (vq : Int)] = rCells (done ++ List.replicate (j + 1) (vq : Int)) from by rw [List.replicate_succ']; simp [rCells]] at hown1
                      clear hown2
                      go_wp2_with (fail)
                      exact ⟨⟨j + 1, by omega, rfl, hown1, hbel1⟩, by show mq + 1 - (((j : Int) + 1).toNat) < mq + 1 - ((j : Int).toNat); omega⟩
                    · have hje : j = mq + 1 := by omega
                      subst hje
                      have hlen2 : (done ++ List.replicate (mq + 1) (vq : Int)).length = done.length + (mq + 1) := by simp
                      have HST := Lib.hid hmore
                      rw [← hlen2] at hown2 HST
                      have hdl2 : (done ++ List.replicate (mq + 1) (vq : Int)).length ≤ m := by rw [hlen2]; omega
                      generalize done ++ List.replicate (mq + 1) (vq : Int) = done2 at hown2 HST hdl2
                      clear hmore hlen2 hown
                      go_wp2_with (fail)
                      exact ⟨⟨at0 + 1, b, done2, by omega, hdl2, rfl, rfl, hown2, HST, hb2⟩, by show s.size - (((at0 : Int) + 1).toNat) < s.size - ((at0 : Int).toNat); omega⟩
        · have HE := Lib.hid (hst.out.stop (by omega))
          go_wp2_with (fail)
          go_ret3
          exact ⟨_, by rw [HE.out]; rfl, by rw [HE.out]; exact hown, hb⟩
  all_goals
    have hE : readB s.data.toList = ([], 0, (getB s.data.toList).2.2) := by unfold readB; rw [h]; simp
    rw [h] at hE
    have HE := Lib.hid hE
    have H := Lib.hid h
    clear h hE
    go_enter Try.func21, Try.ntmps21
    go_wp2_with (fail)
    refine (get_as s (by unfold maxLen; omega) 0 0 _ H.out _).mono ?_
    rintro e w' ⟨rfl, rfl⟩
    go_wp2_with (fail)
    go_ret3
    exact says_err HE.out (Below.refl _ _)
end Go.Proofs.Ytjfcoccfkkghaaa.runs
