/-
  The kit's lists that are lent: LentBytes, KeptBytes.
  Conditions: the bounds on sizes that each theorem names.
-/
import Derived.Test.YtaiicjhnhbkgmaaGreatDoorBytes
import Derived.Test.YtaiicjhnhbkgmaaGreatDoorCopy
import Derived.Deep.RegionHeld3
namespace Go.Proofs.YtaiicjhnhbkgmaaGreatDoor
open Go.RowKit
set_option maxRecDepth 100000

def markB (i : Nat) : UInt8 := UInt8.ofNat (160 + i % 90)
theorem vb_markB (i : Nat) : vb (markB i) = .int .u8 (160 + (i : Int) % 90) := by unfold vb markB; simp; omega
/-- What stands in a list that is lent, its spare room too. -/
def lentL (b : List UInt8) : List UInt8 := b ++ [markB b.length, markB (b.length + 1), markB (b.length + 2)]
theorem lentL_length (b : List UInt8) : (lentL b).length = b.length + 3 := by simp [lentL]

/-- A list that is lent. -/
def IsLent (w : World) (g : Nat) (b : List UInt8) : Prop := w.heap[g]? = some (.cells ((lentL b).map vb).toArray 5 (0, 0))
theorem IsLent.keep {w w' : World} {g : Nat} {b : List UInt8} (h : IsLent w g b) {S : Nat → Prop} (k : Keep S w w') (hS : ¬ S g) : IsLent w' g b := k.blk h hS
theorem IsLent.rd {w : World} {g : Nat} {b : List UInt8} (h : IsLent w g b) (hm : b.length ≤ 65536) : Rd w 1 (.slice (some ⟨g, 0, none⟩) b.length (b.length + 3)) b.length (b.map vb) := by
  refine ⟨by simp, _, _, rfl, by omega, by unfold maxLen; omega, (by intro h; cases h), fun _ => ⟨g, 0, rfl, fun i u hu => ?_⟩⟩
  rw [Nat.zero_add]
  refine blk_cell h ?_
  rw [List.getElem?_toArray, lentL, List.map_append, List.getElem?_append_left]
  · exact hu
  · exact (List.getElem?_eq_some_iff.1 hu).1
theorem IsLent.rdAll {w : World} {g : Nat} {b : List UInt8} (h : IsLent w g b) (hm : b.length ≤ 65536) : Rd w 1 (.slice (some ⟨g, 0, none⟩) (b.length + 3) (b.length + 3)) (lentL b).length ((lentL b).map vb) := by
  refine ⟨by simp, _, _, by rw [lentL_length], by rw [lentL_length]; exact Nat.le_refl _, by unfold maxLen; omega, (by intro h; cases h), fun _ => ⟨g, 0, rfl, fun i u hu => ?_⟩⟩
  rw [Nat.zero_add]
  exact blk_cell h (by rw [List.getElem?_toArray]; exact hu)

/-- The block behind k of the three marks. -/
def lentC (b : List UInt8) (k : Nat) : List Value := b.map vb ++ (List.range 3).map (fun j => if j < k then vb (markB (b.length + j)) else .int .u8 0)
theorem lentC_len (b : List UInt8) (k : Nat) : (lentC b k).length = b.length + 3 := by simp [lentC]
theorem lentC_step (b : List UInt8) (k : Nat) : (lentC b k).set (b.length + k) (vb (markB (b.length + k))) = lentC b (k + 1) := by
  unfold lentC
  rw [List.set_append_right _ _ (by simp), List.length_map, show b.length + k - b.length = k by omega]
  congr 1
  apply List.ext_getElem
  · simp
  · intro i h1 h2
    simp only [List.getElem_set, List.getElem_map, List.getElem_range]
    by_cases e : k = i
    · subst e; simp
    · rw [if_neg e]
      by_cases h : i < k
      · rw [if_pos h, if_pos (by omega)]
      · rw [if_neg h, if_neg (by omega)]
theorem lentC_all (b : List UInt8) : lentC b 3 = (lentL b).map vb := by simp [lentC, lentL, List.range_succ]
theorem lentC_zero (b : List UInt8) : spl (List.replicate (b.length + 3) (Value.int .u8 0)).toArray 0 (b.map vb) = (lentC b 0).toArray := by
  apply Array.ext_getElem?
  intro j
  rw [spl_get _ _ _ _ (by simp)]
  simp only [List.getElem?_toArray, lentC]
  by_cases hj : j < b.length
  · rw [if_pos (by simp; omega), List.getElem?_append_left (by simpa using hj)]; simp
  · rw [if_neg (by simp; omega), List.getElem?_append_right (by simpa using hj)]
    simp only [List.length_map, List.getElem?_replicate, List.getElem?_map]
    by_cases h3 : j < b.length + 3
    · rw [if_pos h3, List.getElem?_range (by omega)]; rfl
    · rw [if_neg h3, List.getElem?_eq_none (by simp; omega)]; rfl

theorem owns_full {w : World} {base g n : Nat} {l : List Value} (h : w.ownsRow base 5 1 (.slice (some ⟨g, 0, none⟩) n n) n l) : w.heap[g]? = some (.cells l.toArray 5 (0, 0)) := by
  rcases h.2 with ⟨h1, -⟩ | ⟨g', cap, cur, h1, _, hg, _, _, h3, h4⟩
  · cases h1
  · cases h1
    rw [hg, ← h4, List.take_of_length_le (by rw [Array.length_toList, h3]; exact Nat.le_refl _)]

def LentPost (w : World) (b : List UInt8) (e : Ending) (w' : World) : Prop :=
  ∃ g, e = .returned (.slice (some ⟨g, 0, none⟩) b.length (b.length + 3)) ∧ IsLent w' g b ∧ Keep noBlk w w' ∧ w.heap.size ≤ g
set_option maxHeartbeats 1000000 in
theorem lent_any (w : World) (bv : Value) (b : List UInt8) (hr : Rd w 1 bv b.length (b.map vb)) (hm : b.length ≤ 65536) :
    Calls Tryz.prog 42 #[bv] w (LentPost w b) := by
  obtain ⟨a, c, rfl, -, -⟩ := hr.form
  have HR := Lib.hid hr; clear hr
  obtain ⟨n, hn⟩ : ∃ n, b.length = n := ⟨_, rfl⟩
  rw [hn] at HR hm ⊢
  have HN := Lib.hid hn
  clear hn
  go_enter Tryz.func42, Tryz.ntmps42
  go_wp2_with (first
    | ((with_reducible show wpList _ _ _ (⟨some 8, .makeSlice _ _ _, _, _, _, _⟩ :: _) _ _); refine wpList_make_one rfl (.tmp 7) (.tmp 7) 51 rfl w.heap.size 5 (.int .u8 0) 1 Tryz.underlying51 infoU8 rfl (n + 3) (by rfl) (by rfl) (by omega) (by unfold maxLen; omega) (by exact Nat.le_refl _) ?_; intro w2 hown2 hk2; have HO2 := Lib.hid (owns_full hown2); have HK2 := Lib.hid hk2; have HR2 := Lib.hid (HR.out.keep hk2 fun _ _ => id); clear hown2 hk2)
    | ((with_reducible show wpList _ _ _ (⟨some 11, _, _, _, _, _⟩ :: _) _ _); refine wpList_copy_rd rfl (.tmp 9) (.tmp 10) 51 51 rfl 5 Tryz.underlying51 sizeU8 w.heap.size 0 (n + 3) (n + 3) (by rfl) _ n (b.map vb) (by rfl) HR2.out n (by show n = min n (n + 3); omega) (List.replicate (n + 3) (Value.int .u8 0)).toArray _ HO2.out (by rw [List.size_toArray, List.length_replicate]; omega) (oneCell_vb _) ?_; intro w3 hb3 hk3; have HB3 := Lib.hid hb3; have HK3 := Lib.hid hk3; clear hb3 hk3))
  have hb3 : w3.heap[w.heap.size]? = some (.cells (lentC b 0).toArray 5 (0, 0)) := by
    have := HB3.out
    rwa [List.take_of_length_le (by simp [HN.out]), ← HN.out, lentC_zero] at this
  have hk3 : Keep noBlk w w3 := HK2.out.trans' HK3.out (fun _ _ h => h) (fun i hi e => by omega)
  have R0 := Lib.hid (And.intro hb3 hk3)
  clear hb3 hk3 HB3 HK3 HK2 HO2 HR2 HR
  obtain ⟨g, hg⟩ : ∃ g, w.heap.size = g := ⟨_, rfl⟩
  rw [hg] at R0 ⊢
  have HG := Lib.hid hg
  clear hg
  go_loopw [4] (fun i wr => ∃ k : Nat, k ≤ 3 ∧ i = .int .i64 ((n + k : Nat) : Int) ∧ Hid (wr.heap[g]? = some (.cells (lentC b k).toArray 5 (0, 0)) ∧ Keep noBlk w wr)) (fun i _ => n + 3 - (intOf i).toNat)
  case atStart => exact ⟨0, by omega, rfl, R0⟩
  case round =>
    clear R0
    obtain ⟨k, hk, rfl, hR⟩ := hrel
    obtain ⟨m, hm2⟩ : ∃ m, n + k = m := ⟨_, rfl⟩
    rw [hm2]
    by_cases hk3 : k < 3
    · have hc : ∃ u, wr.cell? ⟨g, m, none⟩ = some u := by
        refine ⟨(lentC b k)[m]'(by rw [lentC_len, HN.out]; omega), blk_cell hR.out.1 ?_⟩
        rw [List.getElem?_toArray]
        exact List.getElem?_eq_getElem _
      obtain ⟨u, hc⟩ := hc
      have hf := blk_free hR.out.1 m
      have i0 : (0 : Int) ≤ (m : Int) := by omega
      have i1 : (m : Int) < (n : Int) + 3 := by omega
      have i2 : (m : Int) ≤ 65539 := by omega
      have i3 : (0 : Int) ≤ (m : Int) % 90 := by omega
      have i4 : (m : Int) % 90 < 90 := by omega
      have HV := Lib.hid (vb_markB m).symm
      have hR2 : Hid ((wr.setCell ⟨g, m, none⟩ (vb (markB m))).heap[g]? = some (.cells (lentC b (k + 1)).toArray 5 (0, 0)) ∧ Keep noBlk w (wr.setCell ⟨g, m, none⟩ (vb (markB m)))) := by
        refine Lib.hid ⟨?_, hR.out.2.setCell (fun h => by have := HG.out; simp only at h; omega) _⟩
        have h1 := set_blk hR.out.1 m (vb (markB m))
        rw [List.setIfInBounds_toArray] at h1
        have h2 := lentC_step b k
        rw [HN.out, hm2] at h2
        rw [h2] at h1
        exact h1
      rw [← HV.out] at hR2
      have HM2 := Lib.hid hm2
      clear hm2
      have e1 : IntKind.u8.wrap (160 + (m : Int) % 90) = 160 + (m : Int) % 90 := by rw [IntWalk.u8_in _ (by omega)]
      go_wp2_with fail
      go_roundw
      case rel => exact ⟨k + 1, by omega, by have := HM2.out; go_num, hR2⟩
      case measure => simp [intOf]; omega
    · obtain rfl : k = 3 := by omega
      have hfin : LentPost w b (.returned (.slice (some ⟨g, 0, none⟩) n (n + 3))) wr := by
        refine ⟨g, by rw [HN.out], ?_, hR.out.2, by rw [HG.out]; exact Nat.le_refl _⟩
        have := hR.out.1
        rw [lentC_all] at this
        exact this
      have HF := Lib.hid hfin
      have hmm : (n : Int) + 3 = (m : Int) := by omega
      have i5 : ¬ ((m : Int) < (n : Int) + 3) := by omega
      have HM := Lib.hid hmm; have HM2 := Lib.hid hm2
      clear hfin hR hmm hm2
      go_wp2_with fail
      go_ret
      exact HF.out

theorem same_pair (w : World) (g g2 n : Nat) (b : List UInt8) (hn : b.length = n) (hm : n ≤ 65536) (h1 : IsLent w g b) (h2 : IsLent w g2 b) :
    Calls Tryz.prog 81 #[.slice (some ⟨g, 0, none⟩) (n + 3) (n + 3), .slice (some ⟨g2, 0, none⟩) (n + 3) (n + 3)] w (fun e w' => e = .returned (.bool true) ∧ w = w') := by
  have r1 := h1.rdAll (by rw [hn]; exact hm)
  have r2 := h2.rdAll (by rw [hn]; exact hm)
  have C := same_any w _ _ (lentL b) (lentL b) r1 r2 true (by simp)
  rwa [hn] at C
def KeptPost (w : World) (b : Bool) (e : Ending) (w' : World) : Prop := e = .returned (.bool b) ∧ Keep noBlk w w'
set_option maxHeartbeats 2000000 in
theorem kept_any (w : World) (bv : Value) (b : List UInt8) (hr : Rd w 1 bv b.length (b.map vb)) (hm : b.length ≤ 65536) (g : Nat) (hl : IsLent w g b) :
    Calls Tryz.prog 48 #[.slice (some ⟨g, 0, none⟩) b.length (b.length + 3), bv] w (KeptPost w true) := by
  obtain ⟨a, c, rfl, -, -⟩ := hr.form
  have HR := Lib.hid hr; have HL := Lib.hid hl
  clear hr hl
  obtain ⟨n, hn⟩ : ∃ n, b.length = n := ⟨_, rfl⟩
  have HN := Lib.hid hn
  rw [hn] at hm ⊢
  have CL : ∀ w', Keep noBlk w w' → Hid (Calls Tryz.prog 42 #[.slice a n c] w' (LentPost w' b)) := fun w' k => Lib.hid (by
    have := lent_any w' (.slice a b.length c) b (HR.out.keep k fun _ _ => id) (by rw [hn]; exact hm)
    rwa [hn] at this)
  clear hn
  have K0 := Lib.hid (show Keep noBlk w w.drew from (Keep.refl _ _).drew)
  have i0 : (0 : Int) ≤ (n : Int) + 3 := by omega
  have i1 : ((n : Int) + 3).toNat = n + 3 := by omega
  have e1 : IntKind.i64.wrap ((n : Int) + 3) = (n : Int) + 3 := by rw [IntWalk.i64_in _ (by omega)]
  go_enter Tryz.func48, Tryz.ntmps48
  go_wp2_with fail
  go_region_held3 (fun w' => Keep noBlk w w')
    (first | (exact K0.out) | (exact HK2.out.1))
    (first
      | (go_at_call 42; refine (CL w.drew K0.out).out.mono ?_; rintro e w2 ⟨g2, rfl, hl2, hk2, -⟩; have HK2 := Lib.hid (And.intro (K0.out.trans hk2) hl2); rw [HN.out]; clear hk2 hl2)
      | (go_at_call 81; refine (same_pair w2 g g2 n b HN.out hm (HL.out.keep HK2.out.1 id) HK2.out.2).mono ?_; rintro e w3 ⟨rfl, rfl⟩))
  go_wp2_with fail
  go_ret
  exact ⟨rfl, HK2.out.1⟩
end Go.Proofs.YtaiicjhnhbkgmaaGreatDoor
