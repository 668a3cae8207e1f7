/-
  The reference's words of a piece.
  Conditions: none but what each theorem names.
-/
import Derived.Test.YtaiicjhnhbkgmaaGreatDoorHash1
import Derived.Test.YtaiicjhnhbkgmaaGreatDoorPlain2
import Derived.Laws.ResultCell
namespace Go.Proofs.YtaiicjhnhbkgmaaGreatDoor
open Go.RowKit
set_option maxRecDepth 100000

/-- The words told so far. -/
def wtab (q : Nat → Int) (k : Nat) : List Value := (List.range 64).map fun j => if j < k then vW (wrd q j) else .int .u32 0
theorem wtab_length (q : Nat → Int) (k : Nat) : (wtab q k).length = 64 := by simp [wtab]
theorem wtab_step (q : Nat → Int) (k : Nat) : (wtab q k).set k (vW (wrd q k)) = wtab q (k + 1) := by
  apply List.ext_getElem
  · simp [wtab]
  · intro i h1 h2
    simp only [List.getElem_set, wtab, List.getElem_map, List.getElem_range]
    by_cases e : k = i
    · subst e; simp
    · rw [if_neg e]
      by_cases h : i < k
      · rw [if_pos h, if_pos (by omega)]
      · rw [if_neg h, if_neg (by omega)]
theorem wtab_get (q : Nat → Int) (k j : Nat) (hj : j < k) (hk : k ≤ 64) : (wtab q k).toArray[j]? = some (vW (wrd q j)) := by
  have : j < 64 := by omega
  simp [wtab, hj, this]
theorem wtab_any (q : Nat → Int) (k j : Nat) (hj : j < 64) : ∃ u, (wtab q k).toArray[j]? = some u := ⟨_, by simp [wtab, hj]; rfl⟩
theorem wtab_zero (q : Nat → Int) : wtab q 0 = List.replicate 64 (.int .u32 0) := rfl
def wordL (q : Nat → Int) : List Int := (List.range 64).map (wrd q)
theorem wtab_all (q : Nat → Int) : wtab q 64 = (wordL q).map vW := by
  apply List.ext_getElem
  · simp [wtab, wordL]
  · intro i h1 h2
    have : i < 64 := by simpa [wtab] using h1
    simp [wtab, wordL, this]

structure WR (w wr : World) (q : Nat → Int) (k : Nat) : Prop where
  res : wr.heap[w.heap.size]? = some (.cells (Array.replicate 64 (.int .u32 0)) 151 (0, 0))
  tab : wr.heap[w.heap.size + 1]? = some (.cells (wtab q k).toArray 151 (0, 0))
  keep : Keep noBlk w wr
theorem WR.step {w wr w2 : World} {q : Nat → Int} {k : Nat} (h : WR w wr q k) (hk : Keep noBlk wr w2) {x : Value} (hx : x = vW (wrd q k)) : Hid (WR w (w2.setCell ⟨w.heap.size + 1, k, none⟩ x) q (k + 1)) := by
  subst hx
  have K : Keep (fun i => i = w.heap.size + 1) w2 (w2.setCell ⟨w.heap.size + 1, k, none⟩ (vW (wrd q k))) := Keep.setCell (S := fun i => i = w.heap.size + 1) (p := ⟨w.heap.size + 1, k, none⟩) (Keep.refl _ _) (fun _ => rfl) _
  refine Lib.hid ⟨K.blk (hk.blk h.res id) (by omega), ?_, (h.keep.trans hk).trans' K (fun _ _ h => h) (fun i hi e => by omega)⟩
  have := set_blk (hk.blk h.tab id) k (vW (wrd q k))
  rw [List.setIfInBounds_toArray, wtab_step] at this
  exact this
theorem WR.drew {w wr : World} {q : Nat → Int} {k : Nat} (h : Hid (WR w wr q k)) : Hid (WR w wr.drew q k) := Lib.hid ⟨h.out.res, h.out.tab, h.out.keep.drew⟩
theorem wrd_lo (q : Nat → Int) (k : Nat) (h : k < 16) : wrd q k = word4 (q (4 * k)) (q (4 * k + 1)) (q (4 * k + 2)) (q (4 * k + 3)) := by
  rw [wrd, dif_pos h]
theorem wrd_hi (q : Nat → Int) (j : Nat) : wrd q (j + 16) = add32 (add32 (add32 (wrd q j) (sg0 (wrd q (j + 1)))) (wrd q (j + 9))) (sg1 (wrd q (j + 14))) := by
  rw [wrd, dif_neg (by omega)]
  rfl

set_option maxHeartbeats 4000000 in
theorem words_any (p : Value) (bs : List UInt8) (w : World) (hl : bs.length = 64) (hp : Rd w 1 p 64 (bs.map vb)) :
    Calls Tryz.prog 130 #[p] w (MadeA w (wordL (byt bs))) := by
  obtain ⟨-, a, cap, rfl, h1, h2, -, h4⟩ := hp
  obtain ⟨g, o, rfl, hc⟩ := h4 (by simp [hl])
  have hcell : ∀ j, j < 64 → w.cell? ⟨g, o + j, none⟩ = some (.int .u8 (byt bs j)) := fun j hj => hc j _ (by
    have : j < bs.length := by omega
    simp [vb, byt, this])
  have HC := Lib.hid hcell
  clear hc hcell h4
  unfold maxLen at h2
  have hq := byt_bd bs
  generalize byt bs = q at *
  go_enter Tryz.func130, Tryz.ntmps130
  go_wp2_with (first
    | (refine wpList_alloc_at rfl 151 rfl zero64 zeroK (Array.replicate 64 (.int .u32 0)) rfl ?_))
  have R0 : Hid (WR w ((w.alloc (.cells (Array.replicate 64 (.int .u32 0)) 151)).alloc (.cells (Array.replicate 64 (.int .u32 0)) 151)) q 0) :=
    Lib.hid ⟨heap_alloc2_old _ _ _, by rw [wtab_zero]; exact heap_alloc2_new _ _ _, ((Keep.refl _ _).alloc _).alloc _⟩
  generalize (w.alloc (.cells (Array.replicate 64 (.int .u32 0)) 151)).alloc (.cells (Array.replicate 64 (.int .u32 0)) 151) = w0 at *
  go_loopw [4] (fun i wr => ∃ k : Nat, k ≤ 16 ∧ i = .int .i64 k ∧ Hid (WR w wr q k)) (fun i _ => 16 - (intOf i).toNat)
  case atStart => exact ⟨0, by omega, rfl, R0⟩
  case round =>
    clear R0
    obtain ⟨k, hk, rfl, hR⟩ := hrel
    by_cases hlt : k < 16
    · obtain ⟨u, hu⟩ := wtab_any q k k (by omega)
      have cu := blk_cell hR.out.tab hu
      have fu := blk_free hR.out.tab k
      have c0 := hR.out.keep.cell (HC.out (4 * k) (by omega)) id
      have c1 := hR.out.keep.cell (HC.out (4 * k + 1) (by omega)) id
      have c2 := hR.out.keep.cell (HC.out (4 * k + 2) (by omega)) id
      have c3 := hR.out.keep.cell (HC.out (4 * k + 3) (by omega)) id
      have b0 := hq (4 * k); have b1 := hq (4 * k + 1); have b2 := hq (4 * k + 2); have b3 := hq (4 * k + 3)
      have hw := wrd_lo q k hlt
      generalize q (4 * k) = x0 at *
      generalize q (4 * k + 1) = x1 at *
      generalize q (4 * k + 2) = x2 at *
      generalize q (4 * k + 3) = x3 at *
      have HW := Lib.hid hw; clear hw hu
      have hk0 : (0 : Int) ≤ (k : Int) := by omega
      have hk1 : (k : Int) < 16 := by omega
      have w0' : IntKind.i64.wrap (4 * (k : Int)) = 4 * (k : Int) := by rw [IntWalk.i64_in _ (by omega)]
      have w1' : IntKind.i64.wrap (4 * (k : Int) + 1) = 4 * (k : Int) + 1 := by rw [IntWalk.i64_in _ (by omega)]
      have w2' : IntKind.i64.wrap (4 * (k : Int) + 2) = 4 * (k : Int) + 2 := by rw [IntWalk.i64_in _ (by omega)]
      have w3' : IntKind.i64.wrap (4 * (k : Int) + 3) = 4 * (k : Int) + 3 := by rw [IntWalk.i64_in _ (by omega)]
      have n0 : (4 * (k : Int)).toNat = 4 * k := by omega
      have n1 : (4 * (k : Int) + 1).toNat = 4 * k + 1 := by omega
      have n2 : (4 * (k : Int) + 2).toNat = 4 * k + 2 := by omega
      have n3 : (4 * (k : Int) + 3).toNat = 4 * k + 3 := by omega
      have p0 : (0 : Int) ≤ 4 * (k : Int) := by omega
      have p1 : (0 : Int) ≤ 4 * (k : Int) + 1 := by omega
      have p2 : (0 : Int) ≤ 4 * (k : Int) + 2 := by omega
      have p3 : (0 : Int) ≤ 4 * (k : Int) + 3 := by omega
      have l0 : 4 * (k : Int) < 64 := by omega
      have l1 : 4 * (k : Int) + 1 < 64 := by omega
      have l2 : 4 * (k : Int) + 2 < 64 := by omega
      have l3 : 4 * (k : Int) + 3 < 64 := by omega
      go_wp2_with fail
      go_still_tail 34, (by kernel_rfl)
      clear w0' w1' w2' w3' n0 n1 n2 n3 p0 p1 p2 p3 l0 l1 l2 l3
      go_wp2_with fail
      refine ⟨⟨k + 1, by omega, by go_num, WR.drew (hR.out.step (Keep.refl _ _) (by rw [HW.out]; rfl))⟩, ?_⟩
      simp [intOf]; omega
    · obtain rfl : k = 16 := by omega
      rw [show (Value.int .i64 ((16 : Nat) : Int)) = Value.int .i64 16 from rfl]
      go_wp2_with fail
      have R1 := hR
      clear hR
      obtain ⟨wo, rfl⟩ : ∃ wo : World, wo = wr := ⟨_, rfl⟩
      go_loopw [5] (fun i wr => ∃ j : Nat, j ≤ 48 ∧ i = .int .i64 ((j : Int) + 16) ∧ Hid (WR w wr q (j + 16))) (fun i _ => 64 - (intOf i).toNat)
      case atStart => exact ⟨0, by omega, rfl, R1⟩
      case round =>
        clear R1
        obtain ⟨j, hj, rfl, hR⟩ := hrel
        by_cases hlt : j < 48
        · obtain ⟨u, hu⟩ := wtab_any q (j + 16) (j + 16) (by omega)
          have cu := blk_cell hR.out.tab hu
          have fu := blk_free hR.out.tab (j + 16)
          have c0 := blk_cell hR.out.tab (wtab_get q (j + 16) j (by omega) (by omega))
          have c1 := blk_cell hR.out.tab (wtab_get q (j + 16) (j + 1) (by omega) (by omega))
          have c9 := blk_cell hR.out.tab (wtab_get q (j + 16) (j + 9) (by omega) (by omega))
          have c14 := blk_cell hR.out.tab (wtab_get q (j + 16) (j + 14) (by omega) (by omega))
          have hw := wrd_hi q j
          generalize wrd q j = y0 at *
          generalize wrd q (j + 1) = y1 at *
          generalize wrd q (j + 9) = y9 at *
          generalize wrd q (j + 14) = y14 at *
          simp only [vW] at c0 c1 c9 c14
          have HW := Lib.hid hw; clear hw hu
          have w15 : IntKind.i64.wrap ((j : Int) + 16 - 15) = (j : Int) + 1 := by rw [IntWalk.i64_in _ (by omega)]; omega
          have w2 : IntKind.i64.wrap ((j : Int) + 16 - 2) = (j : Int) + 14 := by rw [IntWalk.i64_in _ (by omega)]; omega
          have w16 : IntKind.i64.wrap ((j : Int) + 16 - 16) = (j : Int) := by rw [IntWalk.i64_in _ (by omega)]; omega
          have w7 : IntKind.i64.wrap ((j : Int) + 16 - 7) = (j : Int) + 9 := by rw [IntWalk.i64_in _ (by omega)]; omega
          have w00 : IntKind.i64.wrap (j : Int) = (j : Int) := by rw [IntWalk.i64_in _ (by omega)]
          have p0 : (0 : Int) ≤ (j : Int) := by omega
          have p1 : (0 : Int) ≤ (j : Int) + 1 := by omega
          have p9 : (0 : Int) ≤ (j : Int) + 9 := by omega
          have p14 : (0 : Int) ≤ (j : Int) + 14 := by omega
          have p16 : (0 : Int) ≤ (j : Int) + 16 := by omega
          have l0 : (j : Int) < 64 := by omega
          have l1 : (j : Int) + 1 < 64 := by omega
          have l9 : (j : Int) + 9 < 64 := by omega
          have l14 : (j : Int) + 14 < 64 := by omega
          have l16 : (j : Int) + 16 < 64 := by omega
          have n1 : ((j : Int) + 1).toNat = j + 1 := by omega
          have n9 : ((j : Int) + 9).toNat = j + 9 := by omega
          have n14 : ((j : Int) + 14).toNat = j + 14 := by omega
          have n16 : ((j : Int) + 16).toNat = j + 16 := by omega
          go_wp2_with fail
          go_quiet (fail)
          go_wp2_with fail
          have S16 : (⟨w.heap.size + 1, j + 16, none⟩ : Addr) ≠ ⟨w.heap.size + 1, j, none⟩ := by simp
          have S9 : (⟨w.heap.size + 1, j + 16, none⟩ : Addr) ≠ ⟨w.heap.size + 1, j + 9, none⟩ := by simp
          go_region_held3 (fun w' => w'.cell? ⟨w.heap.size + 1, j, none⟩ = some (.int .u32 y0) ∧ w'.cell? ⟨w.heap.size + 1, j + 9, none⟩ = some (.int .u32 y9))
            (first | go_keep | (exact ⟨set_other S16 c0, set_other S9 c9⟩))
            (first
              | (go_at_call 131; refine (rright_int _ _ (by omega) (by omega) _).mono ?_; rintro e w' ⟨rfl, m, rfl⟩))
          go_wp2_with fail
          generalize nq + 1 + _ + _ + _ + _ = dn
          refine ⟨⟨j + 1, by omega, by go_num, ?_⟩, ?_⟩
          · have := hR.out.step (w2 := wr.drewN dn) ((Keep.refl _ _).drewN _) (x := .int .u32 (wrd q (j + 16))) rfl
            rw [show j + 1 + 16 = j + 16 + 1 by omega]
            rw [HW.out] at this
            exact this
          · simp [intOf]; omega
        · obtain rfl : j = 48 := by omega
          obtain ⟨ts, hts⟩ : ∃ ts, (wordL q).map vW = ts := ⟨_, rfl⟩
          have htl : ts.length = 64 := by rw [← hts]; simp [wordL]
          have hto : ∀ u ∈ ts, u.oneCell' = true := by rw [← hts]; exact oneCell_vW _
          have htab := hR.out.tab
          rw [wtab_all, hts] at htab
          have HT := Lib.hid htab; have HTS := Lib.hid hts
          clear htab hts
          go_wp2_with (first
            | (with_reducible show wpList _ _ _ (⟨some 88, .load 151 (.tmp 3), _, _, _, _⟩ :: _) _ _; refine wpList_load_mid rfl 151 (.tmp 3) rfl (w.heap.size + 1) 0 rfl ts _ (rangeAt_whole HT.out) Tryz.underlying151 rfl (by rw [htl]; exact size64) ?_)
            | (with_reducible show wpList _ _ _ (⟨none, .store 151 (.tmp 2) (.tmp 88), _, _, _, _⟩ :: _) _ _; refine wpList_store_agg rfl 151 (.tmp 2) (.tmp 88) rfl w.heap.size 0 ts rfl rfl _ _ hR.out.res (by rw [htl]; simp) (by rw [htl]; exact size64) hto ?_; intro w5 hb5 hk5; have HB5 := Lib.hid hb5; have HK5 := Lib.hid hk5; clear hb5 hk5))
          refine bodyPost_ret (results_cell_row rfl _ _ w.heap.size _ _ _ _ rfl HB5.out Tryz.underlying151 rfl (by rw [spl_size]; simp [size64])) rfl ⟨?_, ?_⟩
          · rw [spl_whole _ _ (by rw [htl]; simp), HTS.out]
          · exact hR.out.keep.trans' HK5.out (fun _ _ h => h) (fun i hi e => by omega)
end Go.Proofs.YtaiicjhnhbkgmaaGreatDoor

/-
  The reference's turning of a state by a piece.
  Conditions: none but what each theorem names.
-/
namespace Go.Proofs.YtaiicjhnhbkgmaaGreatDoor
open Go.RowKit
set_option maxRecDepth 100000

/-- What a state's turning has in memory. -/
structure RT (w wr : World) (q : Nat → Int) (s x : St) (b6 b7 b8 : Nat) : Prop where
  was : wr.heap[w.heap.size]? = some (.cells (s.l.map vW).toArray 125 (0, 0))
  res : wr.heap[w.heap.size + 1]? = some (.cells (Array.replicate 8 (.int .u32 0)) 125 (0, 0))
  key : wr.heap[b6]? = some (.cells keyV 151 (0, 0))
  wds : wr.heap[b7]? = some (.cells ((wordL q).map vW).toArray 151 (0, 0))
  st : wr.heap[b8]? = some (.cells (x.l.map vW).toArray 125 (0, 0))
  keep : Keep noBlk w wr
  l6 : w.heap.size + 1 < b6
  l7 : b6 < b7
  l8 : b7 < b8
theorem RT.same {w wr wr' : World} {q : Nat → Int} {s x : St} {b6 b7 b8 : Nat} (h : RT w wr q s x b6 b7 b8) (hk : Keep noBlk wr wr') : RT w wr' q s x b6 b7 b8 :=
  ⟨hk.blk h.was id, hk.blk h.res id, hk.blk h.key id, hk.blk h.wds id, hk.blk h.st id, h.keep.trans hk, h.l6, h.l7, h.l8⟩
theorem RT.turn {w w1 w2 : World} {q : Nat → Int} {s x y : St} {b6 b7 b8 : Nat} (h : RT w w1 q s x b6 b7 b8) (hb : w2.heap[b8]? = some (.cells (spl (x.l.map vW).toArray 0 (y.l.map vW)) 125 (0, 0))) (hk : Keep (fun k => k = b8) w1 w2) : Hid (RT w w2 q s y b6 b7 b8) := by
  have l6 := h.l6; have l7 := h.l7; have l8 := h.l8
  rw [spl_whole _ _ (by simp [St.l])] at hb
  exact Lib.hid ⟨hk.blk h.was (by omega), hk.blk h.res (by omega), hk.blk h.key (by omega), hk.blk h.wds (by omega), hb, h.keep.trans' hk (fun _ _ h => h) (fun i hi e => by omega), h.l6, h.l7, h.l8⟩
theorem RT.cells {w wr : World} {q : Nat → Int} {s x : St} {b6 b7 b8 k : Nat} (h : RT w wr q s x b6 b7 b8) (hk : k < 64) :
    wr.cell? ⟨b8, 0, none⟩ = some (.int .u32 x.a) ∧ wr.cell? ⟨b8, 1, none⟩ = some (.int .u32 x.b) ∧ wr.cell? ⟨b8, 2, none⟩ = some (.int .u32 x.c) ∧ wr.cell? ⟨b8, 3, none⟩ = some (.int .u32 x.d) ∧
    wr.cell? ⟨b8, 4, none⟩ = some (.int .u32 x.e) ∧ wr.cell? ⟨b8, 5, none⟩ = some (.int .u32 x.f) ∧ wr.cell? ⟨b8, 6, none⟩ = some (.int .u32 x.g) ∧ wr.cell? ⟨b8, 7, none⟩ = some (.int .u32 x.h) ∧
    wr.cell? ⟨b6, k, none⟩ = some (.int .u32 (keyL.getD k 0)) ∧ wr.cell? ⟨b7, k, none⟩ = some (.int .u32 (wrd q k)) :=
  ⟨blk_cell h.st rfl, blk_cell h.st rfl, blk_cell h.st rfl, blk_cell h.st rfl, blk_cell h.st rfl, blk_cell h.st rfl, blk_cell h.st rfl, blk_cell h.st rfl, blk_cell h.key (by
    have : k < keyL.length := by rw [show keyL.length = 64 from rfl]; exact hk
    simp [keyV, vW, this]), blk_cell h.wds (by simp [wordL, vW, hk])⟩

/-- What is left of it behind the rounds. -/
structure RS (w wr : World) (s : St) (b8 : Nat) (L : List Int) : Prop where
  st : wr.heap[b8]? = some (.cells (L.map vW).toArray 125 (0, 0))
  res : wr.heap[w.heap.size + 1]? = some (.cells (Array.replicate 8 (.int .u32 0)) 125 (0, 0))
  was : wr.heap[w.heap.size]? = some (.cells (s.l.map vW).toArray 125 (0, 0))
  keep : Keep noBlk w wr
  l8 : w.heap.size + 1 < b8
theorem RS.of {w wr : World} {q : Nat → Int} {s x : St} {b6 b7 b8 : Nat} (h : RT w wr q s x b6 b7 b8) : Hid (RS w wr s b8 (sums x s 0)) :=
  Lib.hid ⟨h.st, h.res, h.was, h.keep, by have := h.l6; have := h.l7; have := h.l8; omega⟩
theorem RS.cells {w wr : World} {s x : St} {b8 j : Nat} (h : RS w wr s b8 (sums x s j)) (hj : j < 8) :
    wr.cell? ⟨b8, j, none⟩ = some (.int .u32 (x.at j)) ∧ wr.cell? ⟨w.heap.size, j, none⟩ = some (.int .u32 (s.at j)) ∧ wr.frozen? ⟨b8, j, none⟩ = false :=
  ⟨blk_cell h.st (by simp [sums_get x s j hj, vW]), blk_cell h.was (by simp [St.at_get s j hj, vW]), blk_free h.st j⟩
theorem RS.step {w wr : World} {s x : St} {b8 j : Nat} (h : RS w wr s b8 (sums x s j)) (y : Int) (hy : y = add32 (x.at j) (s.at j)) :
    Hid (RS w (wr.setCell ⟨b8, j, none⟩ (.int .u32 y)).drew s b8 (sums x s (j + 1))) := by
  subst hy
  have l8 := h.l8
  have K : Keep (fun k => k = b8) wr (wr.setCell ⟨b8, j, none⟩ (.int .u32 (add32 (x.at j) (s.at j)))).drew := (Keep.setCell (S := fun k => k = b8) (p := ⟨b8, j, none⟩) (Keep.refl _ _) (fun _ => rfl) _).drew
  refine Lib.hid ⟨?_, K.blk h.res (by omega), K.blk h.was (by omega), h.keep.trans' K (fun _ _ h => h) (fun i hi e => by omega), l8⟩
  have := set_blk h.st j (vW (add32 (x.at j) (s.at j)))
  rw [List.setIfInBounds_toArray, ← List.map_set, sums_step] at this
  exact this

theorem results_cell_row_tmp {P : Program} {fn : Func} {p u : Tmp} {ty : TypeId} (h : fn.results = #[.cell p ty, .tmp u]) (tmps : Array Value) (w : World) (g : Nat) (t : TypeId) (cs : Array Value) (fr : Nat × Nat) (d : TypeDesc)
    (hp : tmps.getD p undef = .pointer (some ⟨g, 0, none⟩)) (hg : w.heap[g]? = some (.cells cs t fr))
    (hu : P.underlying ty = some d) (hd : (match d with | .struct _ | .array _ _ => true | _ => false) = true) (hi : (P.info? ty).map (·.size) = some cs.size) :
    (results fn tmps).run P w = .ok (.tuple #[.agg cs, tmps.getD u undef]) w := by
  rw [results_cell_tmp h, hp]
  simp [asAddr, run_loadVar_row w g t ty cs fr d hg hu hd hi]

def Hlt2 (p : Prop) : Prop := p
theorem Hlt2.intro {p : Prop} (h : Hlt2 p) : p := h
def TurnPost (w : World) (l : List Int) (e : Ending) (w' : World) : Prop := e = .returned (.tuple #[.agg (l.map vW).toArray, .int .i64 0]) ∧ Keep noBlk w w'

set_option maxHeartbeats 4000000 in
theorem rturn_any (s : St) (p : Value) (bs : List UInt8) (w : World) (hl : bs.length = 64) (hp : Rd w 1 p 64 (bs.map vb)) :
    Calls Tryz.prog 119 #[.agg (s.l.map vW).toArray, p] w (TurnPost w (turn (byt bs) s).l) := by
  obtain ⟨a, cp, rfl, -, -⟩ := hp.form
  have HP := Lib.hid hp; clear hp
  have hv : ∃ vs, s.l.map vW = vs ∧ vs.length = 8 ∧ ∀ v ∈ vs, v.oneCell' = true := ⟨_, rfl, by simp [St.l], oneCell_vW _⟩
  obtain ⟨vs, hvs, hlen, hone⟩ := hv
  rw [hvs]
  have HV := Lib.hid hvs; clear hvs
  go_enter Tryz.func119, Tryz.ntmps119
  go_wp2_with (first
    | (refine wpList_alloc_at rfl 125 rfl zero8 zeroS8 (Array.replicate 8 (.int .u32 0)) rfl ?_))
  have A0 : Keep noBlk w ((w.alloc (.cells vs.toArray 125)).alloc (.cells (Array.replicate 8 (.int .u32 0)) 125)) := ((Keep.refl _ _).alloc _).alloc _
  have A1 := heap_alloc2_old w (.cells vs.toArray 125) (.cells (Array.replicate 8 (.int .u32 0)) 125)
  have A2 := heap_alloc2_new w (.cells vs.toArray 125) (.cells (Array.replicate 8 (.int .u32 0)) 125)
  have A3 : ((w.alloc (.cells vs.toArray 125)).alloc (.cells (Array.replicate 8 (.int .u32 0)) 125)).heap.size = w.heap.size + 2 := by simp
  generalize (w.alloc (.cells vs.toArray 125)).alloc (.cells (Array.replicate 8 (.int .u32 0)) 125) = w0 at *
  have HA0 := Lib.hid A0; have HA1 := Lib.hid A1; have HA2 := Lib.hid A2; have HA3 := Lib.hid A3
  clear A0 A1 A2 A3
  refine (table_any w0).mono ?_
  rintro e w1 ⟨rfl, hk1⟩
  obtain ⟨ks, hks⟩ : ∃ ks, keyL.map vW = ks := ⟨_, rfl⟩
  have hkl : ks.length = 64 := by rw [← hks]; rfl
  have hko : ∀ u ∈ ks, u.oneCell' = true := by rw [← hks]; exact oneCell_vW _
  rw [hks]
  have HKS := Lib.hid hks; have HK1 := Lib.hid hk1
  clear hks hk1
  go_wp2_with fail
  refine (words_any _ bs w1 hl (HP.out.keep (HA0.out.trans HK1.out) fun _ _ => id)).mono ?_
  rintro e w2 ⟨rfl, hk2⟩
  obtain ⟨ds, hds⟩ : ∃ ds, (wordL (byt bs)).map vW = ds := ⟨_, rfl⟩
  have hdl : ds.length = 64 := by rw [← hds]; simp [wordL]
  have hdo : ∀ u ∈ ds, u.oneCell' = true := by rw [← hds]; exact oneCell_vW _
  rw [hds]
  have HDS := Lib.hid hds; have HK2 := Lib.hid (HK1.out.trans hk2)
  clear hds hk2
  have hz : (Array.replicate 64 (Value.int .u32 0)).size = 64 := by simp
  go_wp2_with (first
    | (refine wpList_alloc_at rfl 151 rfl zero64 zeroK (Array.replicate 64 (.int .u32 0)) rfl ?_)
    | (refine wpList_alloc_at rfl 125 rfl zero8 zeroS8 (Array.replicate 8 (.int .u32 0)) rfl ?_)
    | ((with_reducible show wpList _ _ _ (⟨none, .store 151 (.tmp 6) (.tmp 23), _, _, _, _⟩ :: _) _ _); refine wpList_store_agg rfl 151 (.tmp 6) (.tmp 23) rfl w2.heap.size 0 ks rfl rfl _ _ (heap_alloc2_old _ _ _) (by rw [hkl]; simp) (by rw [hkl]; exact size64) hko ?_; intro w3 hb3 hk3; have HB3 := Lib.hid hb3; have HK3 := Lib.hid hk3; have HB7 := Lib.hid (hk3.blk (heap_alloc2_new w2 _ _) (fun e => by simp at e)); clear hb3 hk3)
    | ((with_reducible show wpList _ _ _ (⟨none, .store 151 (.tmp 7) (.tmp 25), _, _, _, _⟩ :: _) _ _); refine Hlt2.intro ?_))
  unfold Hlt2
  (refine wpList_store_agg rfl 151 (.tmp 7) (.tmp 25) rfl (w2.heap.size + 1) 0 ds rfl rfl _ _ HB7.out (by rw [hdl]; simp) (by rw [hdl]; exact size64) hdo ?_; intro w4 hb4 hk4; have HB4 := Lib.hid hb4; have HK4 := Lib.hid hk4; clear hb4 hk4)
  go_wp2_with (first
    | (refine wpList_alloc_at rfl 125 rfl zero8 zeroS8 (Array.replicate 8 (.int .u32 0)) rfl ?_)
    | ((with_reducible show wpList _ _ _ (⟨some 26, .load 125 (.tmp 2), _, _, _, _⟩ :: _) _ _); have HB1 := Lib.hid (HK4.out.blk (HK3.out.blk (((Keep.refl noBlk w2).alloc _ |>.alloc _).blk (HK2.out.blk HA1.out id) id) (fun e => by have := lt_of_block (HK2.out.blk HA1.out id); omega)) (fun e => by have := lt_of_block (HK2.out.blk HA1.out id); omega)); refine wpList_load_mid rfl 125 (.tmp 2) rfl w.heap.size 0 rfl vs _ (rangeAt_whole HB1.out) Tryz.underlying125 rfl (by rw [hlen]; exact size8) ?_)
    | ((with_reducible show wpList _ _ _ (⟨none, .store 125 (.tmp 8) (.tmp 26), _, _, _, _⟩ :: _) _ _); refine wpList_store_agg rfl 125 (.tmp 8) (.tmp 26) rfl w4.heap.size 0 vs rfl rfl _ _ (heap_alloc_new _ _) (by rw [hlen]; simp) (by rw [hlen]; exact size8) hone ?_; intro w5 hb5 hk5; have HB5 := Lib.hid hb5; have HK5 := Lib.hid hk5; clear hb5 hk5))
  have R0 : Hid (RT w w5 (byt bs) s s w2.heap.size (w2.heap.size + 1) w4.heap.size) := by
    have s2 : w.heap.size + 2 ≤ w2.heap.size := by have := HK2.out.size; have := HA3.out; omega
    have s3 : w2.heap.size + 2 ≤ w3.heap.size := by have := HK3.out.size; simp at this; omega
    have s4 := HK4.out.size
    have a1 : Keep noBlk w2 w3 := (((Keep.refl noBlk w2).alloc _).alloc _).trans' HK3.out (fun _ _ h => h) (fun i hi e => by omega)
    have a2 : Keep noBlk w2 w4 := a1.trans' HK4.out (fun _ _ h => h) (fun i hi e => by omega)
    have a3 : Keep noBlk w2 w5 := (a2.alloc _).trans' HK5.out (fun _ _ h => h) (fun i hi e => by omega)
    have a5 : Keep (fun k => k = w4.heap.size) w4 w5 := ((Keep.refl (fun k => k = w4.heap.size) w4).alloc _).trans HK5.out
    have e3 := HB3.out
    have e4 := HB4.out
    have e5 := HB5.out
    rw [spl_whole _ _ (by rw [hkl]; simp), ← HKS.out] at e3
    rw [spl_whole _ _ (by rw [hdl]; simp), ← HDS.out] at e4
    rw [spl_whole _ _ (by rw [hlen]; simp), ← HV.out] at e5
    exact Lib.hid ⟨a3.blk (HK2.out.blk (by rw [HV.out]; exact HA1.out) id) id, a3.blk (HK2.out.blk HA2.out id) id, a5.blk (HK4.out.blk e3 (fun e => by omega)) (fun e => by omega), a5.blk e4 (fun e => by omega), e5,
      (HA0.out.trans HK2.out).trans a3, by omega, by omega, by omega⟩
  clear HB3 HK3 HB7 HB4 HK4 HB1 HB5 HK5 HDS HK2 HKS HK1 hko hkl hdl hdo hz
  have HQ := Lib.hid (rfl : byt bs = byt bs)
  generalize hq : byt bs = q at *
  generalize w2.heap.size = b6 at *
  generalize w4.heap.size = b8 at *
  go_loopw [9] (fun i wr => ∃ k : Nat, k ≤ 64 ∧ i = .int .i64 k ∧ Hid (RT w wr q s (rnds q s k) b6 (b6 + 1) b8)) (fun i _ => 64 - (intOf i).toNat)
  case atStart => exact ⟨0, by omega, rfl, R0⟩
  case round =>
    clear R0
    obtain ⟨k, hk, rfl, hR⟩ := hrel
    by_cases hlt : k < 64
    · obtain ⟨x, hx⟩ : ∃ x, x = rnds q s k := ⟨_, rfl⟩
      rw [← hx] at hR
      have HX := Lib.hid hx; clear hx
      obtain ⟨c0, c1, c2, c3, c4, c5, c6, c7, ck, cw⟩ := hR.out.cells hlt
      obtain ⟨kk, hkk⟩ : ∃ kk, kk = keyL.getD k 0 := ⟨_, rfl⟩
      rw [← hkk] at ck
      obtain ⟨ww, hww⟩ : ∃ ww, ww = wrd q k := ⟨_, rfl⟩
      rw [← hww] at cw
      have HKK := Lib.hid hkk; have HWW := Lib.hid hww; clear hkk hww
      have hk1 : (0 : Int) ≤ (k : Int) := by omega
      have hk2 : (k : Int) < 64 := by omega
      go_wp2_with fail
      go_quiet (fail)
      obtain ⟨wa, hwa, hR1⟩ : ∃ wa, wr.drewN nq = wa ∧ Hid (RT w wa q s x b6 (b6 + 1) b8) := ⟨_, rfl, Lib.hid (hR.out.same ((Keep.refl _ _).drewN _))⟩
      rw [hwa]
      clear hwa hR c0 c1 c2 c3 c4 c5 c6 c7 ck cw
      obtain ⟨c0, c1, c2, c3, c4, c5, c6, c7, ck, cw⟩ := hR1.out.cells hlt
      rw [← HKK.out] at ck
      rw [← HWW.out] at cw
      go_wp2_with fail
      go_quiet (first | (go_at_call 131; refine Calls.quiet_of (rright_int _ _ (by omega) (by omega) _)))
      obtain ⟨wc, hwc, hR2⟩ : ∃ wc, wa.drewN nq = wc ∧ Hid (RT w wc q s x b6 (b6 + 1) b8) := ⟨_, rfl, Lib.hid (hR1.out.same ((Keep.refl _ _).drewN _))⟩
      rw [hwc]
      clear hwc hR1 c0 c1 c2 c3 c4 c5 c6 c7 ck cw
      obtain ⟨t, ht⟩ : ∃ t, tmp1 x kk ww = t := ⟨_, rfl⟩
      have hE : (((x.h + bits .xor .u32 (bits .xor .u32 (rot x.e 6) (rot x.e 11)) (rot x.e 25) + bits .xor .u32 (bits .and .u32 x.e x.f) (bits .and .u32 (bits .xor .u32 (if IntKind.u32.signed = true then -1 else IntKind.u32.max) x.e) x.g) + kk) % 4294967296 + ww) % 4294967296 : Int) = t := by
        rw [← ht, if_neg (by decide)]
        unfold tmp1 add32 xor32 and32 not32
        simp only [IntKind.wrap_u32]
        generalize bits .xor .u32 (bits .xor .u32 (rot x.e 6) (rot x.e 11)) (rot x.e 25) = z1
        generalize bits .xor .u32 (bits .and .u32 x.e x.f) (bits .and .u32 (bits .xor .u32 IntKind.u32.max x.e) x.g) = z2
        omega
      simp only [hE]
      have HT := Lib.hid ht; clear ht hE
      obtain ⟨c0, c1, c2, c3, c4, c5, c6, c7, ck, cw⟩ := hR2.out.cells hlt
      go_wp2_with (first
        | (go_at_call 131; refine (rright_int _ _ (by omega) (by omega) _).mono ?_; rintro e w' ⟨rfl, m, rfl⟩)
        | ((with_reducible show wpList _ _ _ (⟨none, .store 125 (.tmp 8) (.tmp 104), _, _, _, _⟩ :: _) _ _); refine Hlt2.intro ?_))
      unfold Hlt2
      obtain ⟨u, hu⟩ : ∃ u, tmp2 x = u := ⟨_, rfl⟩
      have hu' := hu
      unfold tmp2 add32 xor32 and32 at hu'
      simp only [IntKind.wrap_u32] at hu'
      simp only [hu']
      have HU := Lib.hid hu; clear hu hu'
      have hR3 : ∀ n, RT w (wc.drewN n) q s x b6 (b6 + 1) b8 := fun n => hR2.out.same ((Keep.refl _ _).drewN n)
      refine wpList_store_agg rfl 125 (.tmp 8) (.tmp 104) rfl b8 0 ((⟨add32 t u, x.a, x.b, x.c, add32 x.d t, x.e, x.f, x.g⟩ : St).l.map vW) rfl ?hy _ _ (hR3 _).st (by simp [St.l]) (by simp [St.l, size8]) (oneCell_vW _) ?_
      case hy =>
        have h2 := HU.out
        unfold tmp2 add32 xor32 and32 at h2
        simp only [IntKind.wrap_u32] at h2
        simp [Act.eval, St.l, vW, add32, IntKind.wrap_u32, ← h2]
      intro w6 hb6 hk6
      have hR4 := RT.turn (hR3 _) hb6 hk6
      clear hb6 hk6 hR3 hR2 c0 c1 c2 c3 c4 c5 c6 c7 ck cw
      refine wpList_nil ?_
      go_wp2_with fail
      go_roundw
      case rel => exact ⟨k + 1, by omega, by go_num, by have h := hR4.out; rw [← HT.out, ← HU.out, HKK.out, HWW.out, HX.out] at h; exact Lib.hid h⟩
      case measure => simp [intOf]; omega
    · obtain rfl : k = 64 := by omega
      rw [show (Value.int .i64 ((64 : Nat) : Int)) = Value.int .i64 64 from rfl]
      go_wp2_with fail
      have S0 := RS.of hR.out
      clear hR
      obtain ⟨wo, rfl⟩ : ∃ wo : World, wo = wr := ⟨_, rfl⟩
      go_loopw [18] (fun i wr => ∃ j : Nat, j ≤ 8 ∧ i = .int .i64 j ∧ Hid (RS w wr s b8 (sums (rnds q s 64) s j))) (fun i _ => 8 - (intOf i).toNat)
      case atStart => exact ⟨0, by omega, rfl, S0⟩
      case round =>
        clear S0
        obtain ⟨j, hj, rfl, hS⟩ := hrel
        by_cases hjl : j < 8
        · obtain ⟨x, hx⟩ : ∃ x, rnds q s 64 = x := ⟨_, rfl⟩
          rw [hx] at hS ⊢
          obtain ⟨cx, cs, fx⟩ := hS.out.cells hjl
          have hj0 : (0 : Int) ≤ (j : Int) := by omega
          have hj8 : (j : Int) < 8 := by omega
          go_wp2_with fail
          go_still_tail 8, (by kernel_rfl)
          go_wp2_with fail
          go_roundw
          case rel => exact ⟨j + 1, by omega, by go_num, hS.out.step _ rfl⟩
          case measure => simp [intOf]; omega
        · obtain rfl : j = 8 := by omega
          obtain ⟨ts, hts⟩ : ∃ ts, (turn q s).l.map vW = ts := ⟨_, rfl⟩
          have htl : ts.length = 8 := by rw [← hts]; rfl
          have hto : ∀ u ∈ ts, u.oneCell' = true := by rw [← hts]; exact oneCell_vW _
          have hst := hS.out.st
          rw [sums_all, hts] at hst
          have HST := Lib.hid hst; have HTS := Lib.hid hts
          clear hst hts
          go_wp2_with (first
            | ((with_reducible show wpList _ _ _ (⟨some 118, .load 125 (.tmp 8), _, _, _, _⟩ :: _) _ _); refine wpList_load_mid rfl 125 (.tmp 8) rfl b8 0 rfl ts _ (rangeAt_whole HST.out) Tryz.underlying125 rfl (by rw [htl]; exact size8) ?_)
            | ((with_reducible show wpList _ _ _ (⟨none, .store 125 (.tmp 4) (.tmp 118), _, _, _, _⟩ :: _) _ _); refine wpList_store_agg rfl 125 (.tmp 4) (.tmp 118) rfl (w.heap.size + 1) 0 ts rfl rfl _ _ hS.out.res (by rw [htl]; simp) (by rw [htl]; exact size8) hto ?_; intro w5 hb5 hk5; have HB5 := Lib.hid hb5; have HK5 := Lib.hid hk5; clear hb5 hk5))
          refine bodyPost_ret (results_cell_row_tmp rfl _ _ (w.heap.size + 1) _ _ _ _ rfl HB5.out Tryz.underlying125 rfl (by rw [spl_size]; simp [size8])) rfl ⟨?_, ?_⟩
          · rw [spl_whole _ _ (by rw [htl]; simp), HTS.out]; rfl
          · exact hS.out.keep.trans' HK5.out (fun _ _ h => h) (fun i hi e => by have := hS.out.keep.size; omega)
end Go.Proofs.YtaiicjhnhbkgmaaGreatDoor
