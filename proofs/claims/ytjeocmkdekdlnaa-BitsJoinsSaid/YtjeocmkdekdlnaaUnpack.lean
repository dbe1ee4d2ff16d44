/-
  bits.From, bits.Unpack.
-/
import Derived.Test.YtjeocmkdekdlnaaFrom
namespace Go.Proofs.Ytjeocmkdekdlnaa.bits
open Go.RowKit kit
set_option linter.unusedVariables false

set_option maxRecDepth 100000 in
theorem from_any (s : ByteArray) (at0 : Nat) (W : World) :
    Calls Try.prog 36 #[.string s, .int .i64 (at0 : Int)] W fun e w' => ∃ a t, e = .returned (.func (.func 46) #[] #[.pointer (some ⟨a, 0, none⟩), .pointer (some ⟨t, 0, none⟩)]) ∧ Reader w' a t at0 s ∧ W.heap.size ≤ a ∧ W.heap.size ≤ t ∧ Below W.heap.size W w' := by
  go_enter Try.func36, Try.ntmps36
  go_wp2_with (fail)
  go_ret
  refine ⟨W.heap.size + 1, W.heap.size, rfl, ⟨?_, ?_⟩, by omega, Nat.le_refl _, ((Below.refl _ _).alloc (Nat.le_refl _) _).alloc (by simp) _⟩
  · have := heap_alloc_new (W.alloc (Obj.cells #[Value.string s] 9)) (Obj.cells #[Value.int .i64 (at0 : Int)] 3)
    simpa using this
  · rw [heap_alloc_old _ _ (by simp)]
    exact heap_alloc_new _ _

/-! ### what Unpack answers -/
def widthErr : List Int → Bool
  | [] => false
  | w :: l => if w < 0 ∨ 64 < w then true else widthErr l
def wtotal : List Int → Nat
  | [] => 0
  | w :: l => w.toNat + wtotal l
def unpackVals (s : ByteArray) : Nat → List Int → List Nat
  | _, [] => []
  | a, w :: l => nextV s a w.toNat :: unpackVals s (a + w.toNat) l
def unpackErr (s : ByteArray) (l : List Int) : Nat := if widthErr l = true then 1 else if 8 * s.size < wtotal l then 3 else 0
def u64Cells (l : List Nat) : List Value := l.map fun (n : Nat) => Value.int .u64 (n : Int)
def rowI (w : Int) : List Value := [Value.int .i64 w]

theorem widthErr_app (a b : List Int) : widthErr (a ++ b) = (widthErr a || widthErr b) := by
  induction a with
  | nil => simp [widthErr]
  | cons p a ih =>
    rw [List.cons_append, widthErr, widthErr, ih]
    split <;> simp
theorem wtotal_app (a b : List Int) : wtotal (a ++ b) = wtotal a + wtotal b := by
  induction a with
  | nil => simp [wtotal]
  | cons p a ih => rw [List.cons_append, wtotal, wtotal, ih]; omega
theorem unpackVals_app (s : ByteArray) (at0 : Nat) (a b : List Int) : unpackVals s at0 (a ++ b) = unpackVals s at0 a ++ unpackVals s (at0 + wtotal a) b := by
  induction a generalizing at0 with
  | nil => simp [wtotal, unpackVals]
  | cons p a ih => rw [List.cons_append, unpackVals, unpackVals, wtotal, ih, List.cons_append, Nat.add_assoc]
theorem unpackVals_len (s : ByteArray) (at0 : Nat) (a : List Int) : (unpackVals s at0 a).length = a.length := by
  induction a generalizing at0 with
  | nil => rfl
  | cons p a ih => simp [unpackVals, ih]
theorem widthErr_next {l : List Int} {k : Nat} {w : Int} (hp : l[k]? = some w) (h0 : widthErr (l.take k) = false) (hw : 0 ≤ w ∧ w ≤ 64) : widthErr (l.take (k + 1)) = false := by
  rw [take_one hp, widthErr_app, h0, widthErr, if_neg (by omega)]; rfl
theorem wtotal_next {l : List Int} {k : Nat} {w : Int} (hp : l[k]? = some w) : wtotal (l.take (k + 1)) = wtotal (l.take k) + w.toNat := by
  rw [take_one hp, wtotal_app]; rfl
theorem vals_next {l : List Int} {k : Nat} {w : Int} (hp : l[k]? = some w) (s : ByteArray) : unpackVals s 0 (l.take (k + 1)) = unpackVals s 0 (l.take k) ++ [nextV s (wtotal (l.take k)) w.toNat] := by
  rw [take_one hp, unpackVals_app, Nat.zero_add]; rfl
theorem widthErr_at {l : List Int} {k : Nat} {w : Int} (hp : l[k]? = some w) (hw : w < 0 ∨ 64 < w) : widthErr l = true := by
  have e1 : l = l.take k ++ (w :: l.drop (k + 1)) := by
    conv => lhs; rw [← List.take_append_drop k l]
    rw [List.drop_eq_getElem_cons (List.getElem?_eq_some_iff.1 hp).1, (List.getElem?_eq_some_iff.1 hp).2]
  rw [e1, widthErr_app, widthErr, if_pos hw, Bool.or_true]
theorem widthErr_mem {l : List Int} (h : widthErr l = false) {w : Int} (hw : w ∈ l) : 0 ≤ w ∧ w ≤ 64 := by
  induction l with
  | nil => cases hw
  | cons p l ih =>
    unfold widthErr at h
    split at h
    · cases h
    · rcases List.mem_cons.1 hw with rfl | hw
      · omega
      · exact ih h hw
theorem wtotal_take_le (l : List Int) (k : Nat) : wtotal (l.take k) ≤ wtotal l := by
  conv => rhs; rw [← List.take_append_drop k l]
  rw [wtotal_app]; omega

theorem t64 : SliceTy Try.prog 42 22 1 8 (.int .u64 0) := sliceTy_mk Try.underlying42 (by kernel_rfl) rfl (by decide)

theorem Reader.grown {w w' : World} {a t n : Nat} {s : ByteArray} {r : Option Nat} (h : Reader w a t n s) (hg : w.grownBy w' r) (h1 : some a ≠ r) (h2 : some t ≠ r) : Reader w' a t n s :=
  ⟨(hg.block a (Array.getElem?_eq_some_iff.1 h.ha).1 h1).trans h.ha, (hg.block t (Array.getElem?_eq_some_iff.1 h.ht).1 h2).trans h.ht⟩

def UnpackSays (s : ByteArray) (ws : List Int) (W : World) (e : Ending) (w' : World) : Prop :=
  ∃ ov, e = .returned (.tuple #[ov, .int .i64 (unpackErr s ws : Int)]) ∧ (unpackErr s ws = 0 → w'.ownsRow W.heap.size 22 1 ov ws.length (u64Cells (unpackVals s 0 ws))) ∧ Below W.heap.size W w'

set_option maxHeartbeats 1000000 in
set_option maxRecDepth 100000 in
theorem unpack_any (s : ByteArray) (v : Value) (ws : List Int) (W : World) (hs : SliceAt W 1 v (ws.map rowI)) (hg : ∀ w ∈ ws, (Lit.int .i64 w).wf = true) (hn : ws.length ≤ 8796093022208) (hsz : s.size ≤ 1000000000000000) :
    Calls Try.prog 25 #[.string s, v] W (UnpackSays s ws W) := by
  rcases hs with ⟨h0, hv⟩ | ⟨b, off, cap, rfl, hcap, hmax, hpos, hblk, hrows⟩
  · obtain rfl : ws = [] := by simpa using h0
    obtain ⟨q, cap, rfl⟩ : ∃ q cap, v = .slice q 0 cap := by
      rcases hv with rfl | ⟨a, cap, rfl⟩
      · exact ⟨_, _, rfl⟩
      · exact ⟨_, _, rfl⟩
    clear hg hn h0 hv
    have hs0 : (0 : Int) ≤ (s.size : Int) := by omega
    go_enter Try.func25, Try.ntmps25
    go_wp2_with (fail)
    go_loopw [6, 15] (fun x y wr => x = .int .i64 0 ∧ y = .int .i64 0 ∧ W = wr) (fun _ _ _ => 0)
    case atStart => exact ⟨rfl, rfl, rfl⟩
    case round =>
      obtain ⟨rfl, rfl, rfl⟩ := hrel
      go_wp2_with (fail)
      refine (from_any s 0 _).mono ?_
      rintro e w1 ⟨a, t, rfl, hrd, ha, ht, hb⟩
      go_wp2_with (fail)
      go_loopw [10, 38] (fun x y wr => x = .slice none 0 0 ∧ y = .int .i64 0 ∧ w1 = wr) (fun _ _ _ => 0)
      case atStart => exact ⟨rfl, rfl, rfl⟩
      case round =>
        obtain ⟨rfl, rfl, rfl⟩ := hrel
        go_wp2_with (fail)
        go_ret2
        exact ⟨_, rfl, fun _ => World.ownsRow_nil _ _ _ _, hb⟩
  · have hlen : (ws.map rowI).length = ws.length := by simp
    rw [hlen] at hcap hpos ⊢
    have hcell : ∀ i w, ws[i]? = some w → W.cell? ⟨b, off + i, none⟩ = some (.int .i64 w) := by
      intro i w hp
      have h := (hrows i (rowI w) (by rw [List.getElem?_map, hp]; rfl)).2
      have := h 0 _ rfl
      simpa using this
    have HC := Lib.hid hcell
    clear hrows hcell hlen
    go_enter Try.func25, Try.ntmps25
    go_wp2_with (fail)
    go_loopw [6, 15] (fun x y wr => ∃ k : Nat, k ≤ ws.length ∧ x = .int .i64 (wtotal (ws.take k) : Int) ∧ y = .int .i64 k ∧ Hid (widthErr (ws.take k) = false) ∧ wtotal (ws.take k) ≤ 64 * k ∧ W = wr) (fun _ y _ => ws.length - (intOf y).toNat)
    case atStart => exact ⟨0, Nat.zero_le _, rfl, rfl, rfl, by simp [wtotal], rfl⟩
    case round =>
      obtain ⟨k, hk, rfl, rfl, hfe, htot, rfl⟩ := hrel
      by_cases hlt : k < ws.length
      · obtain ⟨w0, hp⟩ : ∃ p, ws[k]? = some p := ⟨_, List.getElem?_eq_getElem hlt⟩
        have hc0 := HC.out k _ hp
        have hltI : (k : Int) < (ws.length : Int) := by omega
        have hp2 := i64_bd (hg _ (List.mem_of_getElem? hp))
        have HP := Lib.hid hp
        clear hp
        by_cases hneg : w0 < 0
        · have hE : unpackErr s ws = 1 := by rw [unpackErr, if_pos (widthErr_at HP.out (.inl hneg))]
          go_wp2_with (fail)
          go_ret2
          exact ⟨.slice none 0 0, by rw [hE]; rfl, fun h => absurd h (by rw [hE]; decide), Below.refl _ _⟩
        · by_cases hbig : 64 < w0
          · have hE : unpackErr s ws = 1 := by rw [unpackErr, if_pos (widthErr_at HP.out (.inr hbig))]
            go_wp2_with (fail)
            go_ret2
            exact ⟨.slice none 0 0, by rw [hE]; rfl, fun h => absurd h (by rw [hE]; decide), Below.refl _ _⟩
          · obtain ⟨w, rfl⟩ : ∃ w : Nat, w0 = (w : Int) := ⟨w0.toNat, by omega⟩
            have ht := wtotal_next HP.out
            simp only [Int.toNat_natCast] at ht
            have HT := Lib.hid ht
            have HE := Lib.hid (widthErr_next HP.out hfe.out ⟨by omega, by omega⟩)
            have hto : wtotal (ws.take (k + 1)) ≤ 64 * (k + 1) := by omega
            clear ht
            go_wp2_with (fail)
            exact ⟨⟨k + 1, by omega, by rw [HT.out]; simp, rfl, HE, hto, trivial⟩, by show ws.length - (((k : Int) + 1).toNat) < ws.length - ((k : Int).toNat); omega⟩
      · have hke : k = ws.length := by omega
        subst hke
        rw [List.take_length] at hfe htot ⊢
        by_cases hT : (8 * (s.size : Int)) < (wtotal ws : Int)
        · have hE : unpackErr s ws = 3 := by rw [unpackErr, if_neg (by rw [hfe.out]; simp), if_pos (by omega)]
          go_wp2_with (fail)
          go_ret2
          exact ⟨.slice none 0 0, by rw [hE]; rfl, fun h => absurd h (by rw [hE]; decide), Below.refl _ _⟩
        · have hE : unpackErr s ws = 0 := by rw [unpackErr, if_neg (by rw [hfe.out]; simp), if_neg (by omega)]
          have HE := Lib.hid hE
          have hT2 : wtotal ws ≤ 8 * s.size := by omega
          clear hE
          go_wp2_with (fail)
          refine (from_any s 0 _).mono ?_
          rintro e w1 ⟨a, t, rfl, hrd, ha, ht, hb⟩
          go_wp2_with (fail)
          have hg1 := hb.size
          have hal : a < w1.heap.size := (Array.getElem?_eq_some_iff.1 hrd.ha).1
          have htl : t < w1.heap.size := (Array.getElem?_eq_some_iff.1 hrd.ht).1
          go_loopw [10, 38] (fun ov y ws' => ∃ k : Nat, k ≤ ws.length ∧ y = .int .i64 k ∧ Reader ws' a t (wtotal (ws.take k)) s ∧ ws'.ownsRow w1.heap.size 22 1 ov k (u64Cells (unpackVals s 0 (ws.take k))) ∧ Below W.heap.size W ws' ∧ w1.heap.size ≤ ws'.heap.size) (fun _ y _ => ws.length - (intOf y).toNat)
          case atStart => exact ⟨0, Nat.zero_le _, rfl, hrd, World.ownsRow_nil _ _ _ _, hb, Nat.le_refl _⟩
          case round =>
            obtain ⟨k, hk, rfl, hr1, hown, hb1, hsz1⟩ := hrel
            by_cases hlt : k < ws.length
            · obtain ⟨w0, hp⟩ : ∃ p, ws[k]? = some p := ⟨_, List.getElem?_eq_getElem hlt⟩
              obtain ⟨hw0, hw64⟩ := widthErr_mem hfe.out (List.mem_of_getElem? hp)
              obtain ⟨w, rfl⟩ : ∃ w : Nat, w0 = (w : Int) := ⟨w0.toNat, by omega⟩
              have hltI : (k : Int) < (ws.length : Int) := by omega
              have hc0 : wr.cell? ⟨b, off + k, none⟩ = some (.int .i64 (w : Int)) := (hb1.cell (p := ⟨b, off + k, none⟩) hblk).trans (HC.out k _ hp)
              have ht := wtotal_next hp
              simp only [Int.toNat_natCast] at ht
              have hto : wtotal (ws.take k) + w ≤ 8 * s.size := by have := wtotal_take_le ws (k + 1); omega
              have HP := Lib.hid hp
              have HT := Lib.hid ht
              clear ht hp
              go_wp2_with (fail)
              refine (next_any w _ a t s _ hr1 (by omega) hto hsz).mono ?_
              rintro e w2 ⟨rfl, hr2, hgr2⟩
              rw [← HT.out] at hr2
              have hown2 := hown.kept hgr2 (.inr (own_ne hown hal).symm)
              have hb2 := hb1.trans (grown_below hgr2 ha hb1.size)
              have hsz2 : w1.heap.size ≤ w2.heap.size := Nat.le_trans hsz1 hgr2.size
              have HVV := Lib.hid (vals_next HP.out s)
              simp only [Int.toNat_natCast] at HVV
              obtain ⟨V, hV⟩ : ∃ V, V = nextV s (wtotal (ws.take k)) w := ⟨_, rfl⟩
              rw [← hV] at HVV ⊢
              clear hV hr1 hown hgr2 hb1 hc0 hto
              go_wp2_with (at_builtin; refine app1s t64 rfl (.tmp 42) (.tmp 46) rfl _ _ k (u64Cells (unpackVals s 0 (ws.take k))) rfl rfl hown2 rfl ?c3 ?c4 (Below.refl _ _) hsz2 ?_)
              case c3 => omega
              case c4 => unfold maxLen; omega
              intro g cap' w3 hown3 hgr3 hbel3 hBg hgl
              have hr3 := hr2.grown hgr3 (own_ne hown2 hal) (own_ne hown2 htl)
              have hb3 := hb2.trans (hbel3.mono hg1)
              have hsz3 : w1.heap.size ≤ w3.heap.size := Nat.le_trans hsz2 hgr3.size
              rw [show u64Cells (unpackVals s 0 (ws.take k)) ++ [Value.int .u64 (V : Int)] = u64Cells (unpackVals s 0 (ws.take (k + 1))) from by rw [HVV.out]; simp [u64Cells]] at hown3
              clear hr2 hown2 hb2 hgr3 hbel3
              go_wp2_with (fail)
              exact ⟨⟨k + 1, by omega, rfl, hr3, hown3, hb3, hsz3⟩, by show ws.length - (((k : Int) + 1).toNat) < ws.length - ((k : Int).toNat); omega⟩
            · have hke : k = ws.length := by omega
              subst hke
              rw [List.take_length] at hown
              have hown2 := own_mono hown hg1
              clear hown hr1
              go_wp2_with (fail)
              go_ret2
              exact ⟨_, by rw [HE.out]; rfl, fun _ => hown2, hb1⟩
end Go.Proofs.Ytjeocmkdekdlnaa.bits
