/-
  The reference's words of a piece.
  Conditions: none but what each theorem names.
-/
import Derived.Test.YtdlegbcdmlmbpaaHash3
import Derived.Test.YtdlegbcdmlmbpaaPlain2
namespace Go.Proofs.Ytdlegbcdmlmbpaa
open Go.RowKit
set_option maxRecDepth 100000

/-- The words told so far. -/
def wtab (q : Nat → Int) (k : Nat) : List Value := (List.range 64).map fun j => if j < k then vW (wrd q j) else .int .u32 0
theorem wtab_length (q : Nat → Int) (k : Nat) : (wtab q k).length = 64 := by simp [wtab]
theorem wtab_step (q : Nat → Int) (k : Nat) : (wtab q k).set k (vW (wrd q k)) = wtab q (k + 1) := by
  apply List.ext_getElem
  · simp [wtab]
  · intro i h1 h2
    simp only [List.getElem_set, wtab, List.getElem_map, List.getElem_range]
    by_cases e : k = i
    · subst e; simp
    · rw [if_neg e]
      by_cases h : i < k
      · rw [if_pos h, if_pos (by omega)]
      · rw [if_neg h, if_neg (by omega)]
theorem wtab_get (q : Nat → Int) (k j : Nat) (hj : j < k) (hk : k ≤ 64) : (wtab q k).toArray[j]? = some (vW (wrd q j)) := by
  have : j < 64 := by omega
  simp [wtab, hj, this]
theorem wtab_any (q : Nat → Int) (k j : Nat) (hj : j < 64) : ∃ u, (wtab q k).toArray[j]? = some u := ⟨_, by simp [wtab, hj]; rfl⟩
theorem wtab_zero (q : Nat → Int) : wtab q 0 = List.replicate 64 (.int .u32 0) := rfl
def wordL (q : Nat → Int) : List Int := (List.range 64).map (wrd q)
theorem wtab_all (q : Nat → Int) : wtab q 64 = (wordL q).map vW := by
  apply List.ext_getElem
  · simp [wtab, wordL]
  · intro i h1 h2
    have : i < 64 := by simpa [wtab] using h1
    simp [wtab, wordL, this]

structure WR (w wr : World) (q : Nat → Int) (k : Nat) : Prop where
  res : wr.heap[w.heap.size]? = some (.cells (Array.replicate 64 (.int .u32 0)) 100 (0, 0))
  tab : wr.heap[w.heap.size + 1]? = some (.cells (wtab q k).toArray 100 (0, 0))
  keep : Keep noBlk w wr
theorem WR.step {w wr w2 : World} {q : Nat → Int} {k : Nat} (h : WR w wr q k) (hk : Keep noBlk wr w2) {x : Value} (hx : x = vW (wrd q k)) : Hid (WR w (w2.setCell ⟨w.heap.size + 1, k, none⟩ x) q (k + 1)) := by
  subst hx
  have K : Keep (fun i => i = w.heap.size + 1) w2 (w2.setCell ⟨w.heap.size + 1, k, none⟩ (vW (wrd q k))) := Keep.setCell (S := fun i => i = w.heap.size + 1) (p := ⟨w.heap.size + 1, k, none⟩) (Keep.refl _ _) (fun _ => rfl) _
  refine Lib.hid ⟨K.blk (hk.blk h.res id) (by omega), ?_, (h.keep.trans hk).trans' K (fun _ _ h => h) (fun i hi e => by omega)⟩
  have := set_blk (hk.blk h.tab id) k (vW (wrd q k))
  rw [List.setIfInBounds_toArray, wtab_step] at this
  exact this
theorem WR.drew {w wr : World} {q : Nat → Int} {k : Nat} (h : Hid (WR w wr q k)) : Hid (WR w wr.drew q k) := Lib.hid ⟨h.out.res, h.out.tab, h.out.keep.drew⟩
theorem wrd_lo (q : Nat → Int) (k : Nat) (h : k < 16) : wrd q k = word4 (q (4 * k)) (q (4 * k + 1)) (q (4 * k + 2)) (q (4 * k + 3)) := by
  rw [wrd, dif_pos h]
theorem wrd_hi (q : Nat → Int) (j : Nat) : wrd q (j + 16) = add32 (add32 (add32 (wrd q j) (sg0 (wrd q (j + 1)))) (wrd q (j + 9))) (sg1 (wrd q (j + 14))) := by
  rw [wrd, dif_neg (by omega)]
  rfl

set_option maxHeartbeats 4000000 in
theorem words_any (p : Value) (bs : List UInt8) (w : World) (hl : bs.length = 64) (hp : Rd w 1 p 64 (bs.map vb)) :
    Calls Try.prog 81 #[p] w (MadeA w (wordL (byt bs))) := by
  obtain ⟨-, a, cap, rfl, h1, h2, -, h4⟩ := hp
  obtain ⟨g, o, rfl, hc⟩ := h4 (by simp [hl])
  have hcell : ∀ j, j < 64 → w.cell? ⟨g, o + j, none⟩ = some (.int .u8 (byt bs j)) := fun j hj => hc j _ (by
    have : j < bs.length := by omega
    simp [vb, byt, this])
  have HC := Lib.hid hcell
  clear hc hcell h4
  unfold maxLen at h2
  have hq := byt_bd bs
  generalize byt bs = q at *
  go_enter Try.func81, Try.ntmps81
  go_wp2_with (first
    | (refine wpList_alloc_at rfl 100 rfl zero64 zeroK (Array.replicate 64 (.int .u32 0)) rfl ?_))
  have R0 : Hid (WR w ((w.alloc (.cells (Array.replicate 64 (.int .u32 0)) 100)).alloc (.cells (Array.replicate 64 (.int .u32 0)) 100)) q 0) :=
    Lib.hid ⟨heap_alloc2_old _ _ _, by rw [wtab_zero]; exact heap_alloc2_new _ _ _, ((Keep.refl _ _).alloc _).alloc _⟩
  generalize (w.alloc (.cells (Array.replicate 64 (.int .u32 0)) 100)).alloc (.cells (Array.replicate 64 (.int .u32 0)) 100) = w0 at *
  go_loopw [4] (fun i wr => ∃ k : Nat, k ≤ 16 ∧ i = .int .i64 k ∧ Hid (WR w wr q k)) (fun i _ => 16 - (intOf i).toNat)
  case atStart => exact ⟨0, by omega, rfl, R0⟩
  case round =>
    clear R0
    obtain ⟨k, hk, rfl, hR⟩ := hrel
    by_cases hlt : k < 16
    · obtain ⟨u, hu⟩ := wtab_any q k k (by omega)
      have cu := blk_cell hR.out.tab hu
      have fu := blk_free hR.out.tab k
      have c0 := hR.out.keep.cell (HC.out (4 * k) (by omega)) id
      have c1 := hR.out.keep.cell (HC.out (4 * k + 1) (by omega)) id
      have c2 := hR.out.keep.cell (HC.out (4 * k + 2) (by omega)) id
      have c3 := hR.out.keep.cell (HC.out (4 * k + 3) (by omega)) id
      have b0 := hq (4 * k); have b1 := hq (4 * k + 1); have b2 := hq (4 * k + 2); have b3 := hq (4 * k + 3)
      have hw := wrd_lo q k hlt
      generalize q (4 * k) = x0 at *
      generalize q (4 * k + 1) = x1 at *
      generalize q (4 * k + 2) = x2 at *
      generalize q (4 * k + 3) = x3 at *
      have HW := Lib.hid hw; clear hw hu
      have hk0 : (0 : Int) ≤ (k : Int) := by omega
      have hk1 : (k : Int) < 16 := by omega
      have w0' : IntKind.i64.wrap (4 * (k : Int)) = 4 * (k : Int) := by rw [IntWalk.i64_in _ (by omega)]
      have w1' : IntKind.i64.wrap (4 * (k : Int) + 1) = 4 * (k : Int) + 1 := by rw [IntWalk.i64_in _ (by omega)]
      have w2' : IntKind.i64.wrap (4 * (k : Int) + 2) = 4 * (k : Int) + 2 := by rw [IntWalk.i64_in _ (by omega)]
      have w3' : IntKind.i64.wrap (4 * (k : Int) + 3) = 4 * (k : Int) + 3 := by rw [IntWalk.i64_in _ (by omega)]
      have n0 : (4 * (k : Int)).toNat = 4 * k := by omega
      have n1 : (4 * (k : Int) + 1).toNat = 4 * k + 1 := by omega
      have n2 : (4 * (k : Int) + 2).toNat = 4 * k + 2 := by omega
      have n3 : (4 * (k : Int) + 3).toNat = 4 * k + 3 := by omega
      have p0 : (0 : Int) ≤ 4 * (k : Int) := by omega
      have p1 : (0 : Int) ≤ 4 * (k : Int) + 1 := by omega
      have p2 : (0 : Int) ≤ 4 * (k : Int) + 2 := by omega
      have p3 : (0 : Int) ≤ 4 * (k : Int) + 3 := by omega
      have l0 : 4 * (k : Int) < 64 := by omega
      have l1 : 4 * (k : Int) + 1 < 64 := by omega
      have l2 : 4 * (k : Int) + 2 < 64 := by omega
      have l3 : 4 * (k : Int) + 3 < 64 := by omega
      go_wp2_with fail
      go_still_tail 34, (by kernel_rfl)
      clear w0' w1' w2' w3' n0 n1 n2 n3 p0 p1 p2 p3 l0 l1 l2 l3
      go_wp2_with fail
      refine ⟨⟨k + 1, by omega, by go_num, WR.drew (hR.out.step (Keep.refl _ _) (by rw [HW.out]; rfl))⟩, ?_⟩
      simp [intOf]; omega
    · obtain rfl : k = 16 := by omega
      rw [show (Value.int .i64 ((16 : Nat) : Int)) = Value.int .i64 16 from rfl]
      go_wp2_with fail
      have R1 := hR
      clear hR
      obtain ⟨wo, rfl⟩ : ∃ wo : World, wo = wr := ⟨_, rfl⟩
      go_loopw [5] (fun i wr => ∃ j : Nat, j ≤ 48 ∧ i = .int .i64 ((j : Int) + 16) ∧ Hid (WR w wr q (j + 16))) (fun i _ => 64 - (intOf i).toNat)
      case atStart => exact ⟨0, by omega, rfl, R1⟩
      case round =>
        clear R1
        obtain ⟨j, hj, rfl, hR⟩ := hrel
        by_cases hlt : j < 48
        · obtain ⟨u, hu⟩ := wtab_any q (j + 16) (j + 16) (by omega)
          have cu := blk_cell hR.out.tab hu
          have fu := blk_free hR.out.tab (j + 16)
          have c0 := blk_cell hR.out.tab (wtab_get q (j + 16) j (by omega) (by omega))
          have c1 := blk_cell hR.out.tab (wtab_get q (j + 16) (j + 1) (by omega) (by omega))
          have c9 := blk_cell hR.out.tab (wtab_get q (j + 16) (j + 9) (by omega) (by omega))
          have c14 := blk_cell hR.out.tab (wtab_get q (j + 16) (j + 14) (by omega) (by omega))
          have hw := wrd_hi q j
          generalize wrd q j = y0 at *
          generalize wrd q (j + 1) = y1 at *
          generalize wrd q (j + 9) = y9 at *
          generalize wrd q (j + 14) = y14 at *
          simp only [vW] at c0 c1 c9 c14
          have HW := Lib.hid hw; clear hw hu
          have w15 : IntKind.i64.wrap ((j : Int) + 16 - 15) = (j : Int) + 1 := by rw [IntWalk.i64_in _ (by omega)]; omega
          have w2 : IntKind.i64.wrap ((j : Int) + 16 - 2) = (j : Int) + 14 := by rw [IntWalk.i64_in _ (by omega)]; omega
          have w16 : IntKind.i64.wrap ((j : Int) + 16 - 16) = (j : Int) := by rw [IntWalk.i64_in _ (by omega)]; omega
          have w7 : IntKind.i64.wrap ((j : Int) + 16 - 7) = (j : Int) + 9 := by rw [IntWalk.i64_in _ (by omega)]; omega
          have w00 : IntKind.i64.wrap (j : Int) = (j : Int) := by rw [IntWalk.i64_in _ (by omega)]
          have p0 : (0 : Int) ≤ (j : Int) := by omega
          have p1 : (0 : Int) ≤ (j : Int) + 1 := by omega
          have p9 : (0 : Int) ≤ (j : Int) + 9 := by omega
          have p14 : (0 : Int) ≤ (j : Int) + 14 := by omega
          have p16 : (0 : Int) ≤ (j : Int) + 16 := by omega
          have l0 : (j : Int) < 64 := by omega
          have l1 : (j : Int) + 1 < 64 := by omega
          have l9 : (j : Int) + 9 < 64 := by omega
          have l14 : (j : Int) + 14 < 64 := by omega
          have l16 : (j : Int) + 16 < 64 := by omega
          have n1 : ((j : Int) + 1).toNat = j + 1 := by omega
          have n9 : ((j : Int) + 9).toNat = j + 9 := by omega
          have n14 : ((j : Int) + 14).toNat = j + 14 := by omega
          have n16 : ((j : Int) + 16).toNat = j + 16 := by omega
          go_wp2_with fail
          go_quiet (fail)
          go_wp2_with fail
          have S16 : (⟨w.heap.size + 1, j + 16, none⟩ : Addr) ≠ ⟨w.heap.size + 1, j, none⟩ := by simp
          have S9 : (⟨w.heap.size + 1, j + 16, none⟩ : Addr) ≠ ⟨w.heap.size + 1, j + 9, none⟩ := by simp
          go_region_held3 (fun w' => w'.cell? ⟨w.heap.size + 1, j, none⟩ = some (.int .u32 y0) ∧ w'.cell? ⟨w.heap.size + 1, j + 9, none⟩ = some (.int .u32 y9))
            (first | go_keep | (exact ⟨set_other S16 c0, set_other S9 c9⟩))
            (first
              | (go_at_call 82; refine (rright_int _ _ (by omega) (by omega) _).mono ?_; rintro e w' ⟨rfl, m, rfl⟩))
          go_wp2_with fail
          generalize nq + 1 + _ + _ + _ + _ = dn
          refine ⟨⟨j + 1, by omega, by go_num, ?_⟩, ?_⟩
          · have := hR.out.step (w2 := wr.drewN dn) ((Keep.refl _ _).drewN _) (x := .int .u32 (wrd q (j + 16))) rfl
            rw [show j + 1 + 16 = j + 16 + 1 by omega]
            rw [HW.out] at this
            exact this
          · simp [intOf]; omega
        · obtain rfl : j = 48 := by omega
          obtain ⟨ts, hts⟩ : ∃ ts, (wordL q).map vW = ts := ⟨_, rfl⟩
          have htl : ts.length = 64 := by rw [← hts]; simp [wordL]
          have hto : ∀ u ∈ ts, u.oneCell' = true := by rw [← hts]; exact oneCell_vW _
          have htab := hR.out.tab
          rw [wtab_all, hts] at htab
          have HT := Lib.hid htab; have HTS := Lib.hid hts
          clear htab hts
          go_wp2_with (first
            | (with_reducible show wpList _ _ _ (⟨some 88, .load 100 (.tmp 3), _, _, _, _⟩ :: _) _ _; refine wpList_load_mid rfl 100 (.tmp 3) rfl (w.heap.size + 1) 0 rfl ts _ (rangeAt_whole HT.out) Try.underlying100 rfl (by rw [htl]; exact size64) ?_)
            | (with_reducible show wpList _ _ _ (⟨none, .store 100 (.tmp 2) (.tmp 88), _, _, _, _⟩ :: _) _ _; refine wpList_store_agg rfl 100 (.tmp 2) (.tmp 88) rfl w.heap.size 0 ts rfl rfl _ _ hR.out.res (by rw [htl]; simp) (by rw [htl]; exact size64) hto ?_; intro w5 hb5 hk5; have HB5 := Lib.hid hb5; have HK5 := Lib.hid hk5; clear hb5 hk5))
          refine bodyPost_ret (results_cell_row rfl _ _ w.heap.size _ _ _ _ rfl HB5.out Try.underlying100 rfl (by rw [spl_size]; simp [size64])) rfl ⟨?_, ?_⟩
          · rw [spl_whole _ _ (by rw [htl]; simp), HTS.out]
          · exact hR.out.keep.trans' HK5.out (fun _ _ h => h) (fun i hi e => by omega)
end Go.Proofs.Ytdlegbcdmlmbpaa
