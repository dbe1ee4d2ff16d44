/-
  inode.Write: the walk.
-/
import Derived.Test.YtdjnhbaipfkiaaaInode
namespace Go.Proofs.Ytdjnhbaipfkiaaa.inode
open Go.RowKit kit Go.Proofs.Ytdjnhbaipfkiaaa.imap Go.Proofs.Ytdjnhbaipfkiaaa.fix
set_option linter.unusedVariables false

def partB (p : Int × Int) : List UInt8 := fixB p.1.toNat 1 ++ fixB p.2.toNat 1
def partsB : List (Int × Int) → List UInt8
  | [] => []
  | p :: l => partB p ++ partsB l
theorem partsB_app (a b : List (Int × Int)) : partsB (a ++ b) = partsB a ++ partsB b := by
  induction a with
  | nil => rfl
  | cons p a ih => rw [List.cons_append, partsB, partsB, ih, List.append_assoc]
def headB (k g z : Nat) : List UInt8 := fixB k 1 ++ fixB g 4 ++ fixB z 2
def writeI (k g z : Int) (ps : List (Int × Int)) : List UInt8 := headB k.toNat g.toNat z.toNat ++ partsB ps
theorem fix_as (n w : Nat) (h1 : 1 ≤ w) (h2 : w ≤ 8) (hn : n < 18446744073709551616) (F : ByteArray) (hF : (⟨(fixB n w).toArray⟩ : ByteArray) = F) (W : World) :
    Calls Try.prog 57 #[.int .u64 n, .int .i64 w] W fun e w' => e = .returned (.string F) ∧ Below W.heap.size W w' := by
  rw [← hF]; exact fix_any n w h1 h2 hn W
theorem fix_size (n w : Nat) : (⟨(fixB n w).toArray⟩ : ByteArray).size = w := by rw [size_mk, fixB_len]
def WriteSays (k g z : Int) (ps : List (Int × Int)) (e : Ending) : Prop :=
  (GoodI k g z ps ∧ e = .returned (.tuple #[.string ⟨(writeI k g z ps).toArray⟩, .int .i64 0])) ∨ (¬ GoodI k g z ps ∧ ∃ c : Nat, c ≠ 0 ∧ e = .returned (.tuple #[.string ⟨#[]⟩, .int .i64 c]))
theorem wrap_nat (n : Nat) (h : n ≤ 2147483647) : IntKind.u64.wrap (n : Int) = (n : Int) := by rw [IntKind.wrap_u64]; omega

set_option maxHeartbeats 1000000 in
set_option maxRecDepth 100000 in
theorem write_any (k g z : Int) (v : Value) (ps : List (Int × Int)) (W : World) (hs : SliceAt W 2 v (ps.map rowP)) (hk : (Lit.int .i64 k).wf = true) (hg : (Lit.int .i64 g).wf = true) (hz : (Lit.int .i64 z).wf = true) (hl : ps.length ≤ 1000000000000000) :
    Calls Try.prog 28 #[.agg #[.int .i64 k, .int .i64 g, .int .i64 z, v]] W fun e w' => WriteSays k g z ps e ∧ Below W.heap.size W w' := by
  have hcheck := fun w h => check_any k g z v ps w h hk hg hz hl
  obtain ⟨q, cap, b, off, rfl, hq, hc⟩ := hs.view
  simp only [List.length_map] at hq hs hcheck ⊢
  have HQ := Lib.hid hq
  have HC : Hid (∀ i p, ps[i]? = some p → W.cell? ⟨b, off + i * 2, none⟩ = some (.int .i64 p.1) ∧ W.cell? ⟨b, off + i * 2 + 1, none⟩ = some (.int .i64 p.2)) := fun i p hx => by
    have h := hc i (rowP p) (by rw [List.getElem?_map, hx]; rfl)
    exact ⟨h 0 _ rfl, h 1 _ rfl⟩
  clear hq hc
  go_enter Try.func28, Try.ntmps28
  go_wp2_with (fail)
  have hb0 := (Below.refl W.heap.size W).alloc (Nat.le_refl _) (Obj.cells #[Value.int .i64 k, Value.int .i64 g, Value.int .i64 z, Value.slice q ps.length cap] 58)
  have hx0 : (W.alloc (Obj.cells #[Value.int .i64 k, Value.int .i64 g, Value.int .i64 z, Value.slice q ps.length cap] 58)).heap[W.heap.size]? = some (.cells #[Value.int .i64 k, Value.int .i64 g, Value.int .i64 z, Value.slice q ps.length cap] 58 (0, 0)) := heap_alloc_new _ _
  refine (hcheck _ (hs.below (Nat.le_refl _) hb0)).mono ?_
  rintro e w1 ⟨⟨hgood, rfl⟩ | ⟨hbad, c, hc0, rfl⟩, hb1⟩
  · have b1 : Below W.heap.size W w1 := hb0.trans (hb1.mono (by simp))
    have hx1 : w1.heap[W.heap.size]? = some (.cells #[Value.int .i64 k, Value.int .i64 g, Value.int .i64 z, Value.slice q ps.length cap] 58 (0, 0)) := (hb1.block _ (by simp)).trans hx0
    obtain ⟨g1, g2, g3, g4, g5, g6, g7⟩ := hgood
    obtain ⟨kn, rfl⟩ : ∃ n : Nat, k = (n : Int) := ⟨k.toNat, by omega⟩
    obtain ⟨gn, rfl⟩ : ∃ n : Nat, g = (n : Int) := ⟨g.toNat, by omega⟩
    obtain ⟨zn, rfl⟩ : ∃ n : Nat, z = (n : Int) := ⟨z.toNat, by omega⟩
    have hgood := Lib.hid (show GoodI kn gn zn ps from ⟨g1, g2, g3, g4, g5, g6, g7⟩)
    have HOK := Lib.hid g7
    have wk := wrap_nat kn (by omega)
    have wg := wrap_nat gn (by omega)
    have wz := wrap_nat zn (by omega)
    have lk : kn < 18446744073709551616 := by omega
    have lg : gn < 18446744073709551616 := by omega
    have lz : zn < 18446744073709551616 := by omega
    have hlen : ps.length ≤ 8 := by omega
    obtain ⟨F1, hF1⟩ : ∃ F, (⟨(fixB kn 1).toArray⟩ : ByteArray) = F := ⟨_, rfl⟩
    obtain ⟨F2, hF2⟩ : ∃ F, (⟨(fixB gn 4).toArray⟩ : ByteArray) = F := ⟨_, rfl⟩
    obtain ⟨F3, hF3⟩ : ∃ F, (⟨(fixB zn 2).toArray⟩ : ByteArray) = F := ⟨_, rfl⟩
    have s1 : F1.size = 1 := by rw [← hF1, fix_size]
    have s2 : F2.size = 4 := by rw [← hF2, fix_size]
    have s3 : F3.size = 2 := by rw [← hF3, fix_size]
    have x0 : ∀ x' : BW w1, x'.w.cell? ⟨W.heap.size, 0, none⟩ = some (.int .i64 (kn : Int)) := fun x' => by rw [cell_of_row _ _ _ _ _ _ ((x'.h.block _ (Array.getElem?_eq_some_iff.1 hx1).1).trans hx1)]; rfl
    have x1 : ∀ x' : BW w1, x'.w.cell? ⟨W.heap.size, 1, none⟩ = some (.int .i64 (gn : Int)) := fun x' => by rw [cell_of_row _ _ _ _ _ _ ((x'.h.block _ (Array.getElem?_eq_some_iff.1 hx1).1).trans hx1)]; rfl
    have x2 : ∀ x' : BW w1, x'.w.cell? ⟨W.heap.size, 2, none⟩ = some (.int .i64 (zn : Int)) := fun x' => by rw [cell_of_row _ _ _ _ _ _ ((x'.h.block _ (Array.getElem?_eq_some_iff.1 hx1).1).trans hx1)]; rfl
    have HF1 := Lib.hid hF1
    have HF2 := Lib.hid hF2
    have HF3 := Lib.hid hF3
    have HX1 := Lib.hid hx1
    clear hF1 hF2 hF3 g1 g2 g3 g4 g5 g6 g7 hb0 hx0 hb1 hx1 hcheck hs
    go_wp2_with (fail)
    refine wp_region_below (by kernel_rfl) (by kernel_rfl) ?_
    repeat (go_big_quiet_step ((first
      | (go_at_call_of 57 (Value.int .u64 (kn : Int)); exact call_below (fix_as kn 1 (by decide) (by decide) lk F1 HF1.out _))
      | (go_at_call_of 57 (Value.int .u64 (gn : Int)); exact call_below (fix_as gn 4 (by decide) (by decide) lg F2 HF2.out _))
      | (go_at_call_of 57 (Value.int .u64 (zn : Int)); exact call_below (fix_as zn 2 (by decide) (by decide) lz F3 HF3.out _)))))
    refine wpQuiet_nil ?_
    rintro _ ⟨wx, rfl⟩
    have b2 := b1.trans (wx.h.mono b1.size)
    have hx2 : wx.w.heap[W.heap.size]? = some (.cells #[Value.int .i64 (kn : Int), Value.int .i64 (gn : Int), Value.int .i64 (zn : Int), Value.slice q ps.length cap] 58 (0, 0)) := (wx.h.block _ (Array.getElem?_eq_some_iff.1 HX1.out).1).trans HX1.out
    have y3 : wx.w.cell? ⟨W.heap.size, 3, none⟩ = some (Value.slice q ps.length cap) := by rw [cell_of_row _ _ _ _ _ _ hx2]; rfl
    generalize wx.w = w2 at b2 y3 ⊢
    obtain ⟨S0, hS0⟩ : ∃ S, F1 ++ F2 ++ F3 = S := ⟨_, rfl⟩
    have z0 : S0.size = 7 := by rw [← hS0]; simp [s1, s2, s3]
    have hS0l : Hid (S0.data.toList = headB kn gn zn ++ partsB (ps.take 0)) := by
      show S0.data.toList = _
      rw [← hS0, ← HF1.out, ← HF2.out, ← HF3.out]
      simp [headB, partsB]
    rw [hS0]
    clear wx hx2 x0 x1 x2 hS0 s1 s2 s3 wk wg wz HX1
    go_wp2_with (fail)
    go_loopw [5, 30] (fun x y wr => ∃ (i : Nat) (S : ByteArray), i ≤ ps.length ∧ y = .int .i64 i ∧ x = .string S ∧ S.size = 7 + 2 * i ∧ Hid (S.data.toList = headB kn gn zn ++ partsB (ps.take i)) ∧ Below W.heap.size W wr) (fun _ y _ => ps.length - (intOf y).toNat)
    case atStart => exact ⟨0, S0, Nat.zero_le _, rfl, rfl, z0, hS0l, b2⟩
    case round =>
      obtain ⟨i, S, hi, rfl, rfl, hSz, hSl, hb⟩ := hrel
      by_cases hlt : i < ps.length
      · obtain ⟨rfl, hblk⟩ := HQ.out i hlt
        obtain ⟨⟨c, n⟩, hp⟩ : ∃ p, ps[i]? = some p := ⟨_, List.getElem?_eq_getElem hlt⟩
        have hok := HOK.out _ (List.mem_of_getElem? hp)
        obtain ⟨o1, o2, o3, o4, _, _⟩ := hok
        simp only at o1 o2 o3 o4
        obtain ⟨cn, rfl⟩ : ∃ m : Nat, c = (m : Int) := ⟨c.toNat, by omega⟩
        obtain ⟨nn, rfl⟩ : ∃ m : Nat, n = (m : Int) := ⟨n.toNat, by omega⟩
        have d0 : wr.cell? ⟨b, off + i * 2, none⟩ = some (.int .i64 (cn : Int)) := (hb.cell (p := ⟨b, off + i * 2, none⟩) hblk).trans (HC.out i _ hp).1
        have d1 : wr.cell? ⟨b, off + i * 2 + 1, none⟩ = some (.int .i64 (nn : Int)) := (hb.cell (p := ⟨b, off + i * 2 + 1, none⟩) hblk).trans (HC.out i _ hp).2
        have hltI : (i : Int) < (ps.length : Int) := by omega
        have wc := wrap_nat cn (by omega)
        have wn := wrap_nat nn (by omega)
        have lc : cn < 18446744073709551616 := by omega
        have ln : nn < 18446744073709551616 := by omega
        obtain ⟨E1, hE1⟩ : ∃ F, (⟨(fixB cn 1).toArray⟩ : ByteArray) = F := ⟨_, rfl⟩
        obtain ⟨E2, hE2⟩ : ∃ F, (⟨(fixB nn 1).toArray⟩ : ByteArray) = F := ⟨_, rfl⟩
        have t1 : E1.size = 1 := by rw [← hE1, fix_size]
        have t2 : E2.size = 1 := by rw [← hE2, fix_size]
        have HE1 := Lib.hid hE1
        have HE2 := Lib.hid hE2
        have HP := Lib.hid hp
        have hSb : S.size ≤ 23 := by omega
        have HSZ := Lib.hid hSz
        have HI := Lib.hid hltI
        have hsz := hb.size
        clear hE1 hE2 hp o1 o2 o3 o4 hSz
        go_wp2_with (fail)
        have hbA := hb.alloc hsz (Obj.cells #[Value.int .i64 (cn : Int), Value.int .i64 (nn : Int)] 45)
        have hxA : (wr.alloc (Obj.cells #[Value.int .i64 (cn : Int), Value.int .i64 (nn : Int)] 45)).heap[wr.heap.size]? = some (.cells #[Value.int .i64 (cn : Int), Value.int .i64 (nn : Int)] 45 (0, 0)) := heap_alloc_new _ _
        generalize wr.alloc (Obj.cells #[Value.int .i64 (cn : Int), Value.int .i64 (nn : Int)] 45) = wA at hbA hxA ⊢
        have e0 : ∀ x' : BW wA, x'.w.cell? ⟨wr.heap.size, 0, none⟩ = some (.int .i64 (cn : Int)) := fun x' => by rw [cell_of_row _ _ _ _ _ _ ((x'.h.block _ (Array.getElem?_eq_some_iff.1 hxA).1).trans hxA)]; rfl
        have e1 : ∀ x' : BW wA, x'.w.cell? ⟨wr.heap.size, 1, none⟩ = some (.int .i64 (nn : Int)) := fun x' => by rw [cell_of_row _ _ _ _ _ _ ((x'.h.block _ (Array.getElem?_eq_some_iff.1 hxA).1).trans hxA)]; rfl
        clear hxA d0 d1 hb
        refine wp_region_below (by kernel_rfl) (by kernel_rfl) ?_
        repeat (go_big_quiet_step ((first
          | (go_at_call_of 57 (Value.int .u64 (cn : Int)); exact call_below (fix_as cn 1 (by decide) (by decide) lc E1 HE1.out _))
          | (go_at_call_of 57 (Value.int .u64 (nn : Int)); exact call_below (fix_as nn 1 (by decide) (by decide) ln E2 HE2.out _)))))
        refine wpQuiet_nil ?_
        rintro _ ⟨wx, rfl⟩
        have hb3 := hbA.trans (wx.h.mono hbA.size)
        generalize wx.w = w3 at hb3 ⊢
        obtain ⟨S2, hS2⟩ : ∃ S2, S ++ (E1 ++ E2) = S2 := ⟨_, rfl⟩
        have z2 : S2.size = 7 + 2 * (i + 1) := by rw [← hS2]; have := HSZ.out; simp [t1, t2]; omega
        have hl2 : Hid (S2.data.toList = headB kn gn zn ++ partsB (ps.take (i + 1))) := by
          show S2.data.toList = _
          rw [← hS2, ← HE1.out, ← HE2.out, take_one HP.out, partsB_app]
          simp [partsB, partB, hSl.out]
        rw [hS2]
        clear wx e0 e1 hS2 hbA t1 t2 wc wn
        have z2' := Lib.hid z2
        clear z2
        go_wp2_with (fail)
        exact ⟨⟨i + 1, S2, by omega, rfl, rfl, z2'.out, hl2, hb3⟩, by show ps.length - (((i : Int) + 1).toNat) < ps.length - ((i : Int).toNat); omega⟩
      · have hie : i = ps.length := by omega
        subst hie
        rw [List.take_length] at hSl
        have hfin : Hid (S = ⟨(writeI kn gn zn ps).toArray⟩) := by
          show S = _
          apply ByteArray.ext
          rw [← Array.toList_inj]
          exact hSl.out
        go_wp2_with (fail)
        go_ret2
        exact ⟨.inl ⟨hgood.out, by rw [← hfin.out]; rfl⟩, hb⟩
  · have b1 : Below W.heap.size W w1 := hb0.trans (hb1.mono (by simp))
    have hcb : ((c : Int) != 0) = true := by simp; omega
    have HB := Lib.hid hbad
    have HC0 := Lib.hid hc0
    clear hbad hc0 hcheck
    go_wp2_with (fail)
    go_ret2
    exact ⟨.inr ⟨HB.out, c, HC0.out, rfl⟩, b1⟩
end Go.Proofs.Ytdjnhbaipfkiaaa.inode
