/-
  runs.Write: what it answers, and the walk.
-/
import Derived.Test.YtjfcoccfkkghaaaMore
import Derived.Test.YtjfcoccfkkghaaaPut
import Derived.Test.YtjfcoccfkkghaaaBytesOwn
import Derived.Deep.RegionHeld3
namespace Go.Proofs.Ytjfcoccfkkghaaa.runs
open Go.RowKit kit put
set_option linter.unusedVariables false

def rowI (w : Int) : List Value := [Value.int .i64 w]
def badX : List Int → Bool
  | [] => false
  | x :: l => if x < 0 ∨ 15 < x then true else badX l
def writeErr (l : List Int) : Nat := if 320 < l.length then 2 else if badX l = true then 1 else 0
/-- how many more of x stand ahead, c at most -/
def lead : Nat → Int → List Int → Nat
  | 0, _, _ => 0
  | _ + 1, _, [] => 0
  | c + 1, x, y :: l => if y = x then lead c x l + 1 else 0
/-- the bytes of the runs -/
def wF : Nat → List Int → List UInt8
  | 0, _ => []
  | _ + 1, [] => []
  | f + 1, x :: l => UInt8.ofNat (x.toNat * 16 + lead 15 x l) :: wF f (l.drop (lead 15 x l))
def writeB (l : List Int) : List UInt8 := putB l.length ++ wF l.length l
def writeS (l : List Int) : ByteArray := if writeErr l = 0 then ⟨(writeB l).toArray⟩ else ⟨#[]⟩

theorem badX_app (a b : List Int) : badX (a ++ b) = (badX a || badX b) := by
  induction a with
  | nil => simp [badX]
  | cons p a ih =>
    rw [List.cons_append, badX, badX, ih]
    split <;> simp
theorem badX_next {l : List Int} {k : Nat} {w : Int} (hp : l[k]? = some w) (h0 : badX (l.take k) = false) (hw : ¬ (w < 0 ∨ 15 < w)) : badX (l.take (k + 1)) = false := by
  rw [take_one hp, badX_app, h0, badX, if_neg hw]; rfl
theorem badX_at {l : List Int} {k : Nat} {w : Int} (hp : l[k]? = some w) (hw : w < 0 ∨ 15 < w) : badX l = true := by
  have e1 : l = l.take k ++ (w :: l.drop (k + 1)) := by
    conv => lhs; rw [← List.take_append_drop k l]
    rw [List.drop_eq_getElem_cons (List.getElem?_eq_some_iff.1 hp).1, (List.getElem?_eq_some_iff.1 hp).2]
  rw [e1, badX_app, badX, if_pos hw, Bool.or_true]
theorem badX_mem {l : List Int} (h : badX l = false) {w : Int} (hw : w ∈ l) : 0 ≤ w ∧ w ≤ 15 := by
  induction l with
  | nil => cases hw
  | cons p l ih =>
    unfold badX at h
    split at h
    · cases h
    · rcases List.mem_cons.1 hw with rfl | hw
      · omega
      · exact ih h hw

theorem wF_fuel : ∀ (f g : Nat) (l : List Int), l.length ≤ f → l.length ≤ g → wF f l = wF g l
  | 0, g, l, h, _ => by
    have : l = [] := List.eq_nil_of_length_eq_zero (by omega)
    subst this
    cases g <;> rfl
  | f + 1, 0, l, _, h => by
    have : l = [] := List.eq_nil_of_length_eq_zero (by omega)
    subst this
    rfl
  | f + 1, g + 1, [], _, _ => rfl
  | f + 1, g + 1, x :: l, h1, h2 => by
    rw [wF, wF]
    simp only [List.length_cons] at h1 h2
    rw [wF_fuel f g _ (by simp; omega) (by simp; omega)]
theorem lead_len : ∀ (c : Nat) (x : Int) (l : List Int), lead c x l ≤ l.length ∧ lead c x l ≤ c
  | 0, _, l => by simp [lead]
  | _ + 1, _, [] => by simp [lead]
  | c + 1, x, y :: l => by
    rw [lead]
    have := lead_len c x l
    split <;> simp <;> omega
/-- the bytes from place k on -/
def restB (xs : List Int) (k : Nat) : List UInt8 := wF xs.length (xs.drop k)
theorem restB_step {xs : List Int} {k : Nat} {x : Int} (h : xs[k]? = some x) {L : Nat} (hL : lead 15 x (xs.drop (k + 1)) = L) : restB xs k = UInt8.ofNat (x.toNat * 16 + L) :: restB xs (k + 1 + L) := by
  have hk := (List.getElem?_eq_some_iff.1 h).1
  unfold restB
  rw [List.drop_eq_getElem_cons hk, (List.getElem?_eq_some_iff.1 h).2, wF_fuel xs.length ((xs.drop (k + 1)).length + 1) _ (by simp; omega) (by simp), wF, hL, List.drop_drop]
  rw [wF_fuel xs.length (xs.drop (k + 1)).length _ (by simp) (by simp; omega)]
theorem restB_end (xs : List Int) : restB xs xs.length = [] := by
  unfold restB
  rw [List.drop_length]
  cases xs.length <;> rfl
theorem lead_same {xs : List Int} {k m : Nat} {x : Int} (h : xs[k + m]? = some x) (hm : m < 16) : lead (16 - m) x (xs.drop (k + m)) = lead (16 - (m + 1)) x (xs.drop (k + (m + 1))) + 1 := by
  have hk := (List.getElem?_eq_some_iff.1 h).1
  rw [List.drop_eq_getElem_cons hk, (List.getElem?_eq_some_iff.1 h).2, show 16 - m = (16 - (m + 1)) + 1 from by omega, lead, if_pos rfl]
  rfl
theorem lead_other {xs : List Int} {k m : Nat} {x y : Int} (h : xs[k + m]? = some y) (hxy : y ≠ x) : lead (16 - m) x (xs.drop (k + m)) = 0 := by
  have hk := (List.getElem?_eq_some_iff.1 h).1
  rw [List.drop_eq_getElem_cons hk, (List.getElem?_eq_some_iff.1 h).2]
  cases 16 - m with
  | zero => rfl
  | succ c => rw [lead, if_neg hxy]
theorem lead_nil {xs : List Int} {k m : Nat} {x : Int} (h : xs.length ≤ k + m) : lead (16 - m) x (xs.drop (k + m)) = 0 := by
  rw [List.drop_of_length_le h]
  cases 16 - m <;> rfl

theorem byte_fin : ∀ a b : Fin 16, bits BinOp.or IntKind.i64 (((a.val : Nat) : Int) * 16) ((b.val : Nat) : Int) % 256 = ((UInt8.ofNat (a.val * 16 + b.val)).toNat : Int) := by decide
theorem byte_val (x : Int) (m : Nat) (hx : 0 ≤ x ∧ x ≤ 15) (hm : 1 ≤ m ∧ m ≤ 16) : bits BinOp.or IntKind.i64 (x * 16) ((m : Int) - 1) % 256 = ((UInt8.ofNat (x.toNat * 16 + (m - 1))).toNat : Int) := by
  have h := byte_fin ⟨x.toNat, by omega⟩ ⟨m - 1, by omega⟩
  simp only at h
  rw [Int.toNat_of_nonneg hx.1, show ((m - 1 : Nat) : Int) = (m : Int) - 1 from by omega] at h
  exact h
theorem write_more {xs : List Int} {l : List UInt8} {k m : Nat} {x : Int} (h : writeB xs = l ++ restB xs k) (hp : xs[k]? = some x) (hm : 1 ≤ m) (hL : lead 15 x (xs.drop (k + 1)) = m - 1) : writeB xs = (l ++ [UInt8.ofNat (x.toNat * 16 + (m - 1))]) ++ restB xs (k + m) := by
  rw [h, restB_step hp hL, show k + 1 + (m - 1) = k + m from by omega]
  simp

set_option maxHeartbeats 4000000 in
set_option maxRecDepth 100000 in
theorem write_any (v : Value) (xs : List Int) (W : World) (hs : SliceAt W 1 v (xs.map rowI)) (hg : ∀ x ∈ xs, (Lit.int .i64 x).wf = true) (hn : xs.length ≤ 1000000000000000) :
    Calls Try.prog 13 #[v] W fun e w' => e = .returned (.tuple #[.string (writeS xs), .int .i64 (writeErr xs : Int)]) ∧ Below W.heap.size W w' := by
  obtain ⟨q, cap, b, off, rfl, hq, hc⟩ := hs.view
  simp only [List.length_map] at hq ⊢
  have HQ := Lib.hid hq
  have HC : Hid (∀ k x, xs[k]? = some x → W.cell? ⟨b, off + k, none⟩ = some (.int .i64 x)) := fun k p hx => by
    have := hc k _ (by rw [List.getElem?_map, hx]; rfl) 0 _ rfl
    simpa [Nat.mul_one] using this
  clear hs hq hc
  by_cases hbig : (320 : Int) < (xs.length : Int)
  · have hE : writeErr xs = 2 := by rw [writeErr, if_pos (by omega)]
    have hS : writeS xs = ⟨#[]⟩ := by rw [writeS, if_neg (by rw [hE]; decide)]
    rw [hS, hE]
    go_enter Try.func13, Try.ntmps13
    go_wp2_with (fail)
    go_ret2
    exact ⟨rfl, Below.refl _ _⟩
  · have hn3 : xs.length ≤ 320 := by omega
    go_enter Try.func13, Try.ntmps13
    go_wp2_with (fail)
    go_loopw [14] (fun y wr => ∃ k : Nat, k ≤ xs.length ∧ y = .int .i64 k ∧ Hid (badX (xs.take k) = false) ∧ W = wr) (fun y _ => xs.length - (intOf y).toNat)
    case atStart => exact ⟨0, Nat.zero_le _, rfl, rfl, rfl⟩
    case round =>
      obtain ⟨k, hk, rfl, hfe, rfl⟩ := hrel
      by_cases hlt : k < xs.length
      · obtain ⟨rfl, hblk⟩ := HQ.out k hlt
        obtain ⟨x, hp⟩ : ∃ p, xs[k]? = some p := ⟨_, List.getElem?_eq_getElem hlt⟩
        have hc0 := HC.out k _ hp
        have hltI : (k : Int) < (xs.length : Int) := by omega
        have hp2 := i64_bd (hg _ (List.mem_of_getElem? hp))
        have HP := Lib.hid hp
        clear hp
        by_cases hneg : x < 0
        · have hE : writeErr xs = 1 := by rw [writeErr, if_neg (by omega), if_pos (badX_at HP.out (.inl hneg))]
          have hS : writeS xs = ⟨#[]⟩ := by rw [writeS, if_neg (by rw [hE]; decide)]
          go_wp2_with (fail)
          go_ret2
          exact ⟨rfl, Below.refl _ _⟩
        · by_cases hbig : 15 < x
          · have hE : writeErr xs = 1 := by rw [writeErr, if_neg (by omega), if_pos (badX_at HP.out (.inr hbig))]
            have hS : writeS xs = ⟨#[]⟩ := by rw [writeS, if_neg (by rw [hE]; decide)]
            go_wp2_with (fail)
            go_ret2
            exact ⟨rfl, Below.refl _ _⟩
          · have HE := Lib.hid (badX_next HP.out hfe.out (by omega))
            go_wp2_with (fail)
            exact ⟨⟨k + 1, by omega, rfl, HE, trivial⟩, by show xs.length - (((k : Int) + 1).toNat) < xs.length - ((k : Int).toNat); omega⟩
      · have hke : k = xs.length := by omega
        subst hke
        rw [List.take_length] at hfe
        have hE : writeErr xs = 0 := by rw [writeErr, if_neg (by omega), if_neg (by rw [hfe.out]; decide)]
        have hS : writeS xs = ⟨(writeB xs).toArray⟩ := by rw [writeS, if_pos hE]
        have HE := Lib.hid hE
        have HS := Lib.hid hS
        clear hE hS
        have hu : (xs.length : Int) < 18446744073709551616 := by omega
        go_wp2_with (fail)
        refine (put_any xs.length (by omega) W).mono ?_
        rintro e W1 ⟨rfl, hb1⟩
        have hsz := hb1.size
        have hpl : (⟨(putB xs.length).toArray⟩ : ByteArray).size ≤ 11 := by rw [size_mk]; exact (putF_len 10 xs.length).2
        go_wp2_with (refine wpList_bytes_own rfl 9 49 5 _ rfl Try.underlying9 Try.underlying49 Try.underlying5 _ (by unfold maxLen; omega) rfl hb1 hsz ?_)
        intro ov W2 hown hb2
        clear hb1 hsz hpl
        go_wp2_with (fail)
        have h63 : xs.length ≤ 320 := hn3
        go_loopw [6, 7] (fun o y wr => ∃ (k : Nat) (l : List UInt8), k ≤ xs.length ∧ y = .int .i64 k ∧ BOwn wr W.heap.size 5 o l ∧ l.length ≤ 11 + k ∧ Hid (writeB xs = l ++ restB xs k) ∧ Below W.heap.size W wr) (fun _ y _ => xs.length - (intOf y).toNat)
        case atStart => exact ⟨0, putB xs.length, Nat.zero_le _, rfl, hown, by rw [Nat.add_zero]; exact (putF_len 10 xs.length).2, rfl, hb2⟩
        case round =>
          obtain ⟨k, l, hk, rfl, hown, hll, hwr, hb⟩ := hrel
          by_cases hlt : k < xs.length
          · obtain ⟨rfl, hblk⟩ := HQ.out k hlt
            obtain ⟨x, hp⟩ : ∃ p, xs[k]? = some p := ⟨_, List.getElem?_eq_getElem hlt⟩
            have hx := badX_mem hfe.out (List.mem_of_getElem? hp)
            have hltI : (k : Int) < (xs.length : Int) := by omega
            have HP := Lib.hid hp
            have HC0 := Lib.hid (HC.out k _ hp)
            clear hp
            obtain ⟨w0, rfl⟩ : ∃ w0, w0 = wr := ⟨_, rfl⟩
            go_wp2_with (fail)
            go_loopw [8] (fun y wx => ∃ m : Nat, 1 ≤ m ∧ m ≤ 16 ∧ k + m ≤ xs.length ∧ y = .int .i64 m ∧ Hid (lead 15 x (xs.drop (k + 1)) + 1 = m + lead (16 - m) x (xs.drop (k + m))) ∧ w0.grownBy wx none) (fun y _ => 16 - (intOf y).toNat)
            case atStart => exact ⟨1, by omega, by omega, by omega, rfl, by show _ + 1 = 1 + _; rw [Nat.add_comm], grown_refl _ _⟩
            case round =>
              obtain ⟨m, hm1, hm16, hkm, rfl, hlead, hgr⟩ := hrel
              have hb3 := below_ext hb hgr
              have c0 : ∀ x' : BW wr, x'.w.cell? ⟨b, off + k, none⟩ = some (.int .i64 x) := fun x' => ((hb3.trans (x'.h.mono hb3.size)).cell (p := ⟨b, off + k, none⟩) hblk).trans HC0.out
              have hexit : lead (16 - m) x (xs.drop (k + m)) = 0 → lead 15 x (xs.drop (k + 1)) = m - 1 := fun h => by have := hlead.out; omega
              by_cases hm : (m : Int) < 16
              · by_cases hin : (k : Int) + (m : Int) < (xs.length : Int)
                · obtain ⟨y, hy⟩ : ∃ y, xs[k + m]? = some y := ⟨_, List.getElem?_eq_getElem (by omega)⟩
                  have c1 : ∀ x' : BW wr, x'.w.cell? ⟨b, off + (k + m), none⟩ = some (.int .i64 y) := fun x' => ((hb3.trans (x'.h.mono hb3.size)).cell (p := ⟨b, off + (k + m), none⟩) hblk).trans (HC.out _ _ hy)
                  have HY := Lib.hid hy
                  clear hy
                  by_cases hxy : y = x
                  · subst hxy
                    have HL : Hid (lead 15 y (xs.drop (k + 1)) + 1 = (m + 1) + lead (16 - (m + 1)) y (xs.drop (k + (m + 1)))) := by
                      have := hlead.out; rw [lead_same HY.out (by omega)] at this; show _ = _; omega
                    clear hexit
                    go_wp2_with (fail)
                    refine wp_region_below (by kernel_rfl) (by kernel_rfl) ?_
                    repeat (go_big_quiet_step (fail))
                    refine wpQuiet_nil ?_
                    rintro _ ⟨wx, rfl⟩
                    go_wp2_with (fail)
                    exact ⟨⟨m + 1, by omega, by omega, by omega, rfl, HL, grown_trans hgr (grown_of_below wx.h)⟩, by show 16 - (((m : Int) + 1).toNat) < 16 - ((m : Int).toNat); omega⟩
                  · have hL := Lib.hid (hexit (lead_other HY.out hxy))
                    have hne : (y == x) = false := by simpa using hxy
                    clear hexit
                    go_wp2_with (fail)
                    refine wp_region_below (by kernel_rfl) (by kernel_rfl) ?_
                    repeat (go_big_quiet_step (fail))
                    refine wpQuiet_nil ?_
                    rintro _ ⟨wx, rfl⟩
                    have hgx := grown_trans hgr (grown_of_below wx.h)
                    generalize wx.w = w5 at hgx ⊢
                    have hb5 := below_ext hb hgx
                    have hsz5 := hb5.size
                    have c5 : w5.cell? ⟨b, off + k, none⟩ = some (.int .i64 x) := (hb5.cell (p := ⟨b, off + k, none⟩) hblk).trans HC0.out
                    have hown5 := hown.kept hgx
                    have hval0 := byte_val x m hx ⟨by omega, by omega⟩
                    have hw0 := write_more hwr.out HP.out (show 1 ≤ m by omega) hL.out
                    generalize UInt8.ofNat (x.toNat * 16 + (m - 1)) = c8 at hval0 hw0
                    have hval := Lib.hid hval0
                    have HW := Lib.hid hw0
                    clear hval0 hw0
                    clear wx c0 c1 hgx hb3 hgr hown
                    go_wp2_with (at_builtin; refine app_byte put.tBytes rfl (.tmp 59) (.tmp 69) rfl _ l _ c8 hval.out rfl rfl hown5 ?c2 hsz5 ?_)
                    case c2 => omega
                    intro v6 w6 hown6 hb6
                    have hb7 := hb5.trans hb6
                    clear hval hb6 hown5 c5 hsz5 hb5 hwr
                    go_wp2_with (fail)
                    exact ⟨⟨k + m, _, hkm, rfl, hown6, by simp; omega, HW, hb7⟩, by show xs.length - (((k : Int) + (m : Int)).toNat) < xs.length - ((k : Int).toNat); omega⟩
                · have hL := Lib.hid (hexit (lead_nil (by omega)))
                  have hinD : decide ((k : Int) + (m : Int) < (xs.length : Int)) = false := decide_eq_false hin
                  clear hexit
                  go_wp2_with (fail)
                  refine wp_region_below (by kernel_rfl) (by kernel_rfl) ?_
                  repeat (go_big_quiet_step (fail))
                  refine wpQuiet_nil ?_
                  rintro _ ⟨wx, rfl⟩
                  have hgx := grown_trans hgr (grown_of_below wx.h)
                  generalize wx.w = w5 at hgx ⊢
                  have hb5 := below_ext hb hgx
                  have hsz5 := hb5.size
                  have c5 : w5.cell? ⟨b, off + k, none⟩ = some (.int .i64 x) := (hb5.cell (p := ⟨b, off + k, none⟩) hblk).trans HC0.out
                  have hown5 := hown.kept hgx
                  have hval0 := byte_val x m hx ⟨by omega, by omega⟩
                  have hw0 := write_more hwr.out HP.out (show 1 ≤ m by omega) hL.out
                  generalize UInt8.ofNat (x.toNat * 16 + (m - 1)) = c8 at hval0 hw0
                  have hval := Lib.hid hval0
                  have HW := Lib.hid hw0
                  clear hval0 hw0
                  clear wx c0 hgx hb3 hgr hown
                  go_wp2_with (at_builtin; refine app_byte put.tBytes rfl (.tmp 59) (.tmp 69) rfl _ l _ c8 hval.out rfl rfl hown5 ?c2 hsz5 ?_)
                  case c2 => omega
                  intro v6 w6 hown6 hb6
                  have hb7 := hb5.trans hb6
                  clear hval hb6 hown5 c5 hsz5 hb5 hwr
                  go_wp2_with (fail)
                  exact ⟨⟨k + m, _, hkm, rfl, hown6, by simp; omega, HW, hb7⟩, by show xs.length - (((k : Int) + (m : Int)).toNat) < xs.length - ((k : Int).toNat); omega⟩
              · have : m = 16 := by omega
                subst this
                have hL := Lib.hid (hexit rfl)
                clear hexit
                go_wp2_with (fail)
                refine wp_region_below (by kernel_rfl) (by kernel_rfl) ?_
                repeat (go_big_quiet_step (fail))
                refine wpQuiet_nil ?_
                rintro _ ⟨wx, rfl⟩
                have hgx := grown_trans hgr (grown_of_below wx.h)
                generalize wx.w = w5 at hgx ⊢
                have hb5 := below_ext hb hgx
                have hsz5 := hb5.size
                have c5 : w5.cell? ⟨b, off + k, none⟩ = some (.int .i64 x) := (hb5.cell (p := ⟨b, off + k, none⟩) hblk).trans HC0.out
                have hown5 := hown.kept hgx
                have hval0 := byte_val x 16 hx ⟨by omega, by omega⟩
                have hw0 := write_more hwr.out HP.out (show 1 ≤ 16 by omega) hL.out
                generalize UInt8.ofNat (x.toNat * 16 + (16 - 1)) = c8 at hval0 hw0
                have hval := Lib.hid hval0
                have HW := Lib.hid hw0
                clear hval0 hw0
                clear wx c0 hgx hb3 hgr hown
                go_wp2_with (at_builtin; refine app_byte put.tBytes rfl (.tmp 59) (.tmp 69) rfl _ l _ c8 hval.out rfl rfl hown5 ?c2 hsz5 ?_)
                case c2 => omega
                intro v6 w6 hown6 hb6
                have hb7 := hb5.trans hb6
                clear hval hb6 hown5 c5 hsz5 hb5 hwr
                go_wp2_with (fail)
                exact ⟨⟨k + 16, _, hkm, rfl, hown6, by simp; omega, HW, hb7⟩, by show xs.length - (((k : Int) + (16 : Int)).toNat) < xs.length - ((k : Int).toNat); omega⟩
          · have hke : k = xs.length := by omega
            subst hke
            rw [restB_end, List.append_nil] at hwr
            have hst := hown.str (src := 49) (dst := 9) Try.underlying49 Try.underlying5 Try.underlying9
            go_wp2_with (fail)
            go_ret2
            exact ⟨by rw [HS.out, HE.out, hwr.out]; rfl, hb⟩
end Go.Proofs.Ytjfcoccfkkghaaa.runs
