/-
  cmp.Compare and cmp.Or at ints; the order of addresses.
  Conditions: none.
-/
import Derived.Test.YtfjklgbakhjjiaaKeyAddr
namespace Go.Proofs.Ytfjklgbakhjjiaa
open Go.RowKit
set_option maxRecDepth 100000
set_option linter.unusedVariables false

theorem nan_any (x : Int) (w : World) : Calls Try.prog 96 #[.int .i64 x] w fun e w' => e = .returned (.bool false) ∧ w' = w := by
  have h : decide (x = x) = true := decide_eq_true rfl
  go_enter Try.func96, Try.ntmps96
  go_wp2_with fail
  go_ret
  exact ⟨by simp, rfl⟩

set_option maxHeartbeats 800000 in
theorem cmp_any (x y : Int) (w : World) : Calls Try.prog 87 #[.int .i64 x, .int .i64 y] w fun e w' => e = .returned (.int .i64 (cmpI x y)) ∧ w' = w := by
  have N1 := Lib.hid (fun w => nan_any x w)
  have N2 := Lib.hid (fun w => nan_any y w)
  obtain ⟨c, hc⟩ : ∃ c, cmpI x y = c := ⟨_, rfl⟩
  have HC := Lib.hid hc
  rw [hc]
  clear hc
  go_enter Try.func87, Try.ntmps87
  go_wp2_with fail
  refine (N1.out _).mono ?_
  rintro e w1 ⟨rfl, rfl⟩
  go_wp2_with fail
  refine (N2.out _).mono ?_
  rintro e w2 ⟨rfl, rfl⟩
  rcases Int.lt_trichotomy x y with h | h | h
  · have e : c = -1 := by rw [← HC.out]; unfold cmpI; rw [if_pos h]
    subst e
    go_wp2_with fail
    go_ret
    exact ⟨rfl, rfl⟩
  · have e : c = 0 := by rw [← HC.out]; unfold cmpI; rw [if_neg (by omega), if_neg (by omega)]
    subst e
    have h1 : ¬ x < y := by omega
    have h2 : ¬ y < x := by omega
    clear h
    go_wp2_with fail
    go_ret
    exact ⟨rfl, rfl⟩
  · have e : c = 1 := by rw [← HC.out]; unfold cmpI; rw [if_neg (by omega), if_pos h]
    subst e
    have h1 : ¬ x < y := by omega
    go_wp2_with fail
    go_ret
    exact ⟨rfl, rfl⟩

/-- The first that is not nought, of two. -/
def orI (x y : Int) : Int := if x ≠ 0 then x else y
set_option maxHeartbeats 800000 in
theorem or_any (x y : Int) (b : Nat) (w : World) (h0 : w.cell? ⟨b, 0, none⟩ = some (.int .i64 x)) (h1 : w.cell? ⟨b, 1, none⟩ = some (.int .i64 y)) :
    Calls Try.prog 92 #[.slice (some ⟨b, 0, none⟩) 2 2] w fun e w' => e = .returned (.int .i64 (orI x y)) ∧ w' = w := by
  obtain ⟨c, hc⟩ : ∃ c, orI x y = c := ⟨_, rfl⟩
  have HC := Lib.hid hc
  rw [hc]
  have H0 := Lib.hid h0; have H1 := Lib.hid h1
  clear hc h0 h1
  go_enter Try.func92, Try.ntmps92
  go_wp2_with fail
  go_loopw [5, 8] (fun _ i wr => wr = w ∧ (i = .int .i64 0 ∨ (i = .int .i64 1 ∧ x = 0) ∨ (i = .int .i64 2 ∧ x = 0 ∧ y = 0))) (fun _ i _ => 2 - (intOf i).toNat)
  case atStart => exact ⟨rfl, .inl rfl⟩
  case round =>
    obtain ⟨rfl, rfl | ⟨rfl, rfl⟩ | ⟨rfl, rfl, rfl⟩⟩ := hrel
    · have c0 := H0.out
      by_cases hx : x = 0
      · subst hx
        go_wp2_with fail
        go_roundw
        case rel => simp
        case measure => decide
      · have e : x = c := by rw [← HC.out]; unfold orI; rw [if_pos hx]
        subst e
        go_wp2_with fail
        go_ret
        exact ⟨rfl, rfl⟩
    · have c1 := H1.out
      have e : y = c := by rw [← HC.out]; unfold orI; rfl
      subst e
      by_cases hy : y = 0
      · subst hy
        go_wp2_with fail
        go_roundw
        case rel => simp
        case measure => decide
      · go_wp2_with fail
        go_ret
        exact ⟨rfl, rfl⟩
    · have e : c = 0 := by rw [← HC.out]; rfl
      subst e
      go_wp2_with fail
      go_ret
      exact ⟨rfl, rfl⟩

set_option maxHeartbeats 2000000 in
theorem order_any (a b : Ad) (w : World) : Calls Try.prog 78 #[adV a, adV b] w fun e w' => e = .returned (.int .i64 (cmpAd a b)) ∧ Gr w w' := by
  obtain ⟨w2, hw2⟩ : ∃ w2, (w.alloc (.cells (adCs a).toArray 50)).alloc (.cells (adCs b).toArray 50) = w2 := ⟨_, rfl⟩
  have hb1 : w2.heap[w.heap.size]? = some (.cells (adCs a).toArray 50 (0, 0)) := by rw [← hw2]; exact heap_alloc2_old _ _ _
  have hb2 : w2.heap[w.heap.size + 1]? = some (.cells (adCs b).toArray 50 (0, 0)) := by rw [← hw2]; exact heap_alloc2_new _ _ _
  have hg : Gr w w2 := by rw [← hw2]; exact ((Gr.refl _).alloc _).alloc _
  have HC := Lib.hid (show cmpAd a b = orI (cmpI a.1 b.1) (cmpI a.2 b.2) from rfl)
  obtain ⟨S, hS0⟩ : ∃ S : World → Prop, S = fun w' => Gr w2 w' := ⟨_, rfl⟩
  have HSE := Lib.hid (show ∀ w', S w' → Gr w w' from fun w' h => by rw [hS0] at h; exact hg.trans h)
  have HSG := Lib.hid (show ∀ w' w'', S w' → Gr w' w'' → S w'' from fun w' w'' h k => by rw [hS0] at h ⊢; exact Gr.trans h k)
  have HA0 := Lib.hid (show ∀ w', S w' → w'.cell? ⟨w.heap.size, 0, none⟩ = some (.int .i64 a.1) from fun w' h => by rw [hS0] at h; exact blk_cell (h.keep.blk hb1 id) rfl)
  have HA1 := Lib.hid (show ∀ w', S w' → w'.cell? ⟨w.heap.size, 1, none⟩ = some (.int .i64 a.2) from fun w' h => by rw [hS0] at h; exact blk_cell (h.keep.blk hb1 id) rfl)
  have HB0 := Lib.hid (show ∀ w', S w' → w'.cell? ⟨w.heap.size + 1, 0, none⟩ = some (.int .i64 b.1) from fun w' h => by rw [hS0] at h; exact blk_cell (h.keep.blk hb2 id) rfl)
  have HB1 := Lib.hid (show ∀ w', S w' → w'.cell? ⟨w.heap.size + 1, 1, none⟩ = some (.int .i64 b.2) from fun w' h => by rw [hS0] at h; exact blk_cell (h.keep.blk hb2 id) rfl)
  have hS2 : S w2 := by rw [hS0]; exact Gr.refl _
  have CC := Lib.hid cmp_any
  clear hS0 hb1 hb2 hg
  unfold adV
  go_enter Try.func78, Try.ntmps78
  go_wp2_with fail
  clear hw2
  have hS : S w2.drew := HSG.out _ _ hS2 ((Gr.refl _).drewN 1)
  clear hS2
  refine wp_region_held (S := S) (by kernel_rfl) ?_
  change wpAnyH _ _ _ _ _ _ _ _ w2.drew
  generalize w2.drew = w3 at *
  refine tka 0 (.pointer (some ⟨w.heap.size, 0, none⟩)) rfl hS ?_
  simp only [Act.put, List.setIfInBounds_toArray, List.set_cons_zero, List.set_cons_succ, List.getElem_toArray, List.getElem_cons_zero]
  refine tnd 1 (.int .i64 a.1) rfl (.inl ⟨by rfl, fun w' hw' => by have c := HA0.out w' hw'; go_simp⟩) hS ?_
  refine tna 2 (.pointer (some ⟨w.heap.size + 1, 0, none⟩)) rfl hS ?_
  refine tnd 3 (.int .i64 b.1) rfl (.inl ⟨by rfl, fun w' hw' => by have c := HB0.out w' hw'; go_simp⟩) hS ?_
  refine tna 5 (.pointer (some ⟨w.heap.size, 1, none⟩)) rfl hS ?_
  refine tnd 6 (.int .i64 a.2) rfl (.inl ⟨by rfl, fun w' hw' => by have c := HA1.out w' hw'; go_simp⟩) hS ?_
  refine tna 7 (.pointer (some ⟨w.heap.size + 1, 1, none⟩)) rfl hS ?_
  refine tnd 8 (.int .i64 b.2) rfl (.inl ⟨by rfl, fun w' hw' => by have c := HB1.out w' hw'; go_simp⟩) hS ?_
  refine wpAnyH_one (k := 4) rfl (by kernel_rfl) ?_
  go_wp2_with fail
  refine (CC.out _ _ _).mono ?_
  rintro e w4 ⟨rfl, rfl⟩
  go_wp2_with fail
  refine ⟨hS, ?_⟩
  refine wpAnyH_one (k := 9) rfl (by kernel_rfl) ?_
  go_wp2_with fail
  refine (CC.out _ _ _).mono ?_
  rintro e w5 ⟨rfl, rfl⟩
  go_wp2_with fail
  refine ⟨hS, ?_⟩
  refine wpAnyH_one (k := 10) rfl (by kernel_rfl) ?_
  go_wp2_with fail
  obtain ⟨w6, hw6, c0, c1, hS6⟩ : ∃ w6, w5.alloc (.cells #[.int .i64 (cmpI a.1 b.1), .int .i64 (cmpI a.2 b.2)] 3) = w6 ∧ w6.cell? ⟨w5.heap.size, 0, none⟩ = some (.int .i64 (cmpI a.1 b.1)) ∧ w6.cell? ⟨w5.heap.size, 1, none⟩ = some (.int .i64 (cmpI a.2 b.2)) ∧ S w6 :=
    ⟨_, rfl, blk_cell (heap_alloc_new _ _) rfl, blk_cell (heap_alloc_new _ _) rfl, HSG.out _ _ hS ((Gr.refl _).alloc _)⟩
  rw [hw6]
  have CO := Lib.hid (or_any _ _ _ _ c0 c1)
  clear hw6 c0 c1 hS
  refine ⟨hS6, ?_⟩
  refine wpAnyH_one (k := 11) rfl (by kernel_rfl) ?_
  go_wp2_with fail
  refine CO.out.mono ?_
  rintro e w7 ⟨rfl, rfl⟩
  rw [← HC.out]
  go_wp2_with fail
  refine ⟨hS6, ?_⟩
  refine tna 12 (.int .i64 (cmpAd a b)) rfl hS6 ?_
  refine wpAnyH_done (by kernel_rfl) ?_ _
  have HG := Lib.hid (HSE.out _ hS6)
  clear hS6 CO
  go_wp2_with fail
  go_ret
  exact ⟨rfl, HG.out⟩

end Go.Proofs.Ytfjklgbakhjjiaa
