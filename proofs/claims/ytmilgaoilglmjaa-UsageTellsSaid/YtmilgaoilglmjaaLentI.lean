/-
  LentInts and KeptInts: a list of numbers with three marks behind it.
  Conditions: at most 65536 numbers.
-/
import Derived.Test.YtmilgaoilglmjaaKnownU
import Derived.Test.YtmilgaoilglmjaaCopy
import Derived.Deep.RegionHeld3
namespace Go.Proofs.Ytmilgaoilglmjaa
open Go.RowKit
set_option maxRecDepth 100000
set_option linter.unusedVariables false

def vi (x : Int) : Value := .int .i64 x
def lentIL (b : List Int) : List Int := b ++ [-77 - (b.length : Int), -77 - ((b.length + 1 : Nat) : Int), -77 - ((b.length + 2 : Nat) : Int)]
theorem lentIL_length (b : List Int) : (lentIL b).length = b.length + 3 := by simp [lentIL]
def IsLentI (w : World) (g : Nat) (b : List Int) : Prop := w.heap[g]? = some (.cells ((lentIL b).map fun x => .int .i64 x).toArray 3 (0, 0))
theorem IsLentI.keep {w w' : World} {g : Nat} {b : List Int} (h : IsLentI w g b) {S : Nat → Prop} (k : Keep S w w') (hS : ¬ S g) : IsLentI w' g b := k.blk h hS
theorem IsLentI.rd {w : World} {g : Nat} {b : List Int} (h : IsLentI w g b) (hm : b.length ≤ 65536) : Rd w 1 (.slice (some ⟨g, 0, none⟩) b.length (b.length + 3)) b.length (b.map fun x => .int .i64 x) := by
  refine ⟨by simp, _, _, rfl, by omega, by unfold maxLen; omega, (by intro e; cases e), fun _ => ⟨g, 0, rfl, fun i u hu => ?_⟩⟩
  refine blk_cell h ?_
  rw [Nat.zero_add, List.getElem?_toArray, lentIL, List.map_append, List.getElem?_append_left (by have := (List.getElem?_eq_some_iff.1 hu).1; exact this)]
  exact hu
theorem IsLentI.rdAll {w : World} {g : Nat} {b : List Int} (h : IsLentI w g b) (hm : b.length ≤ 65536) : Rd w 1 (.slice (some ⟨g, 0, none⟩) (b.length + 3) (b.length + 3)) (lentIL b).length ((lentIL b).map fun x => .int .i64 x) := by
  refine ⟨by simp, _, _, by rw [lentIL_length], by rw [lentIL_length]; omega, by unfold maxLen; omega, (by intro e; cases e), fun _ => ⟨g, 0, rfl, fun i u hu => ?_⟩⟩
  refine blk_cell h ?_
  rw [Nat.zero_add, List.getElem?_toArray]
  exact hu
def lentIC (b : List Int) (k : Nat) : List Value := b.map vi ++ (List.range 3).map (fun j => if j < k then vi (-77 - ((b.length + j : Nat) : Int)) else .int .i64 0)
theorem lentIC_len (b : List Int) (k : Nat) : (lentIC b k).length = b.length + 3 := by simp [lentIC]
theorem lentIC_step (b : List Int) (k : Nat) : (lentIC b k).set (b.length + k) (vi (-77 - ((b.length + k : Nat) : Int))) = lentIC b (k + 1) := by
  unfold lentIC
  rw [List.set_append_right _ _ (by simp), List.length_map, show b.length + k - b.length = k by omega]
  congr 1
  apply List.ext_getElem
  · simp
  · intro i h1 h2
    simp only [List.getElem_set, List.getElem_map, List.getElem_range]
    by_cases e : k = i
    · subst e; simp
    · rw [if_neg e]
      by_cases h : i < k
      · rw [if_pos h, if_pos (by omega)]
      · rw [if_neg h, if_neg (by omega)]
theorem lentIC_all (b : List Int) : lentIC b 3 = (lentIL b).map fun x => .int .i64 x := by
  unfold lentIC lentIL
  rw [List.map_append]
  rfl
theorem lentIC_zero (b : List Int) : spl (List.replicate (b.length + 3) (Value.int .i64 0)).toArray 0 (b.map fun x => .int .i64 x) = (lentIC b 0).toArray := by
  apply Array.ext_getElem?
  intro j
  rw [spl_get _ _ _ _ (by simp)]
  unfold lentIC
  rw [List.getElem?_toArray, List.getElem?_toArray]
  by_cases h1 : j < b.length
  · rw [if_pos (by simp; omega), List.getElem?_append_left (by simpa using h1), Nat.sub_zero]
    rfl
  · rw [if_neg (by simp; omega), List.getElem?_append_right (by simp; omega), List.getElem?_replicate, List.getElem?_map, List.length_map]
    by_cases h3 : j < b.length + 3
    · rw [if_pos h3, List.getElem?_range (by omega)]; rfl
    · rw [if_neg h3, List.getElem?_eq_none (by simp; omega)]; rfl
theorem owns_fullI {w : World} {base g n : Nat} {l : List Value} (h : w.ownsRow base 3 1 (.slice (some ⟨g, 0, none⟩) n n) n l) : w.heap[g]? = some (.cells l.toArray 3 (0, 0)) := by
  rcases h.2 with ⟨h1, -⟩ | ⟨g', cap, cur, h1, _, hg, _, _, h3, h4⟩
  · cases h1
  · cases h1
    rw [hg, ← h4, List.take_of_length_le (by rw [Array.length_toList, h3]; exact Nat.le_refl _)]
theorem sizeI64 : (Try.prog.info? 3).map (·.size) = some 1 := by kernel_rfl
def LentIPost (w : World) (b : List Int) (e : Ending) (w' : World) : Prop :=
  ∃ g, e = .returned (.slice (some ⟨g, 0, none⟩) b.length (b.length + 3)) ∧ IsLentI w' g b ∧ Keep noBlk w w' ∧ w.heap.size ≤ g
set_option maxHeartbeats 1000000 in
theorem lentI_any (w : World) (bv : Value) (b : List Int) (hr : Rd w 1 bv b.length (b.map fun x => .int .i64 x)) (hm : b.length ≤ 65536) :
    Calls Try.prog 10 #[bv] w (LentIPost w b) := by
  obtain ⟨a, c, rfl, -, -⟩ := hr.form
  have HR := Lib.hid hr; clear hr
  obtain ⟨n, hn⟩ : ∃ n, b.length = n := ⟨_, rfl⟩
  rw [hn] at HR hm ⊢
  have HN := Lib.hid hn
  clear hn
  have hone : ∀ u ∈ b.map (fun x => Value.int .i64 x), u.oneCell' = true := fun u hu => by obtain ⟨x, -, rfl⟩ := List.mem_map.1 hu; rfl
  go_enter Try.func10, Try.ntmps10
  go_wp2_with (first
    | ((with_reducible show wpList _ _ _ (⟨some 8, .makeSlice _ _ _, _, _, _, _⟩ :: _) _ _); refine wpList_make_one rfl (.tmp 7) (.tmp 7) 23 rfl w.heap.size 3 (.int .i64 0) 8 Try.underlying23 infoI64 rfl (n + 3) (by rfl) (by rfl) (by omega) (by unfold maxLen; omega) (by exact Nat.le_refl _) ?_; intro w2 hown2 hk2; have HO2 := Lib.hid (owns_fullI hown2); have HK2 := Lib.hid hk2; have HR2 := Lib.hid (HR.out.keep hk2 fun _ _ => id); clear hown2 hk2)
    | ((with_reducible show wpList _ _ _ (⟨some 11, _, _, _, _, _⟩ :: _) _ _); refine wpList_copy_rd rfl (.tmp 9) (.tmp 10) 23 23 rfl 3 Try.underlying23 sizeI64 w.heap.size 0 (n + 3) (n + 3) (by rfl) _ n (b.map fun x => .int .i64 x) (by rfl) HR2.out n (by show n = min n (n + 3); omega) (List.replicate (n + 3) (Value.int .i64 0)).toArray _ HO2.out (by rw [List.size_toArray, List.length_replicate]; omega) hone ?_; intro w3 hb3 hk3; have HB3 := Lib.hid hb3; have HK3 := Lib.hid hk3; clear hb3 hk3))
  have hb3 : w3.heap[w.heap.size]? = some (.cells (lentIC b 0).toArray 3 (0, 0)) := by
    have := HB3.out
    rwa [List.take_of_length_le (by simp [HN.out]), ← HN.out, lentIC_zero] at this
  have hk3 : Keep noBlk w w3 := HK2.out.trans' HK3.out (fun _ _ h => h) (fun i hi e => by omega)
  have R0 := Lib.hid (And.intro hb3 hk3)
  clear hb3 hk3 HB3 HK3 HK2 HO2 HR2 HR hone
  obtain ⟨g, hg⟩ : ∃ g, w.heap.size = g := ⟨_, rfl⟩
  rw [hg] at R0 ⊢
  have HG := Lib.hid hg
  clear hg
  go_loopw [4] (fun i wr => ∃ k : Nat, k ≤ 3 ∧ i = .int .i64 ((n + k : Nat) : Int) ∧ Hid (wr.heap[g]? = some (.cells (lentIC b k).toArray 3 (0, 0)) ∧ Keep noBlk w wr)) (fun i _ => n + 3 - (intOf i).toNat)
  case atStart => exact ⟨0, by omega, rfl, R0⟩
  case round =>
    clear R0
    obtain ⟨k, hk, rfl, hR⟩ := hrel
    obtain ⟨m, hm2⟩ : ∃ m, n + k = m := ⟨_, rfl⟩
    rw [hm2]
    by_cases hk3 : k < 3
    · have hc : ∃ u, wr.cell? ⟨g, m, none⟩ = some u := by
        refine ⟨(lentIC b k)[m]'(by rw [lentIC_len, HN.out]; omega), blk_cell hR.out.1 ?_⟩
        rw [List.getElem?_toArray]
        exact List.getElem?_eq_getElem _
      obtain ⟨u, hc⟩ := hc
      have hf := blk_free hR.out.1 m
      have i0 : (0 : Int) ≤ (m : Int) := by omega
      have i1 : (m : Int) < (n : Int) + 3 := by omega
      have i2 : (m : Int) ≤ 65539 := by omega
      have hR2 : Hid ((wr.setCell ⟨g, m, none⟩ (.int .i64 (-77 - (m : Int)))).heap[g]? = some (.cells (lentIC b (k + 1)).toArray 3 (0, 0)) ∧ Keep noBlk w (wr.setCell ⟨g, m, none⟩ (.int .i64 (-77 - (m : Int))))) := by
        refine Lib.hid ⟨?_, hR.out.2.setCell (fun h => by have := HG.out; simp only at h; omega) _⟩
        have h1 := set_blk hR.out.1 m (.int .i64 (-77 - (m : Int)))
        rw [List.setIfInBounds_toArray] at h1
        have h2 := lentIC_step b k
        rw [HN.out, hm2] at h2
        unfold vi at h2
        rw [h2] at h1
        exact h1
      have HM2 := Lib.hid hm2
      clear hm2
      go_wp2_with fail
      go_roundw
      case rel => exact ⟨k + 1, by omega, by have := HM2.out; go_num, hR2⟩
      case measure => simp [intOf]; omega
    · obtain rfl : k = 3 := by omega
      have hfin : LentIPost w b (.returned (.slice (some ⟨g, 0, none⟩) n (n + 3))) wr := by
        refine ⟨g, by rw [HN.out], ?_, hR.out.2, by rw [HG.out]; exact Nat.le_refl _⟩
        have := hR.out.1
        rw [lentIC_all] at this
        exact this
      have HF := Lib.hid hfin
      have hmm : (n : Int) + 3 = (m : Int) := by omega
      have i5 : ¬ ((m : Int) < (n : Int) + 3) := by omega
      have HM := Lib.hid hmm; have HM2 := Lib.hid hm2
      clear hfin hR hmm hm2
      go_wp2_with fail
      go_ret
      exact HF.out

theorem sameI_pair (w : World) (g g2 n : Nat) (b : List Int) (hn : b.length = n) (hm : n ≤ 65536) (h1 : IsLentI w g b) (h2 : IsLentI w g2 b) :
    Calls Try.prog 24 #[.slice (some ⟨g, 0, none⟩) (n + 3) (n + 3), .slice (some ⟨g2, 0, none⟩) (n + 3) (n + 3)] w (fun e w' => e = .returned (.bool true) ∧ Keep noBlk w w') := by
  have r1 := h1.rdAll (by rw [hn]; exact hm)
  have r2 := h2.rdAll (by rw [hn]; exact hm)
  have C := sameInts_any w _ _ (lentIL b) (lentIL b) r1 r2
  rw [hn, decide_eq_true rfl] at C
  exact C
set_option maxHeartbeats 2000000 in
theorem keptI_any (w : World) (bv : Value) (b : List Int) (hr : Rd w 1 bv b.length (b.map fun x => .int .i64 x)) (hm : b.length ≤ 65536) (g : Nat) (hl : IsLentI w g b) :
    Calls Try.prog 27 #[.slice (some ⟨g, 0, none⟩) b.length (b.length + 3), bv] w (TherePost w true) := by
  obtain ⟨a, c, rfl, -, -⟩ := hr.form
  have HR := Lib.hid hr; have HL := Lib.hid hl
  clear hr hl
  obtain ⟨n, hn⟩ : ∃ n, b.length = n := ⟨_, rfl⟩
  have HN := Lib.hid hn
  rw [hn] at hm ⊢
  have CL : ∀ w', Keep noBlk w w' → Hid (Calls Try.prog 10 #[.slice a n c] w' (LentIPost w' b)) := fun w' k => Lib.hid (by
    have := lentI_any w' (.slice a b.length c) b (HR.out.keep k fun _ _ => id) (by rw [hn]; exact hm)
    rwa [hn] at this)
  clear hn
  have K0 := Lib.hid (show Keep noBlk w w.drew from (Keep.refl _ _).drew)
  have i0 : (0 : Int) ≤ (n : Int) + 3 := by omega
  have i1 : ((n : Int) + 3).toNat = n + 3 := by omega
  have e1 : IntKind.i64.wrap ((n : Int) + 3) = (n : Int) + 3 := by rw [IntWalk.i64_in _ (by omega)]
  go_enter Try.func27, Try.ntmps27
  go_wp2_with fail
  go_region_held3 (fun w' => Keep noBlk w w')
    (first | (exact K0.out) | (exact HK3.out) | (exact HK2.out.1))
    (first
      | (go_at_call 10; refine (CL w.drew K0.out).out.mono ?_; rintro e w2 ⟨g2, rfl, hl2, hk2, -⟩; have HK2 := Lib.hid (And.intro (K0.out.trans hk2) hl2); rw [HN.out]; clear hk2 hl2)
      | (go_at_call 24; refine (sameI_pair w2 g g2 n b HN.out hm (HL.out.keep HK2.out.1 id) HK2.out.2).mono ?_; rintro e w3 ⟨rfl, hk3⟩; have HK3 := Lib.hid (HK2.out.1.trans hk3); clear hk3))
  go_wp2_with fail
  go_ret
  exact ⟨rfl, HK3.out⟩
end Go.Proofs.Ytmilgaoilglmjaa
