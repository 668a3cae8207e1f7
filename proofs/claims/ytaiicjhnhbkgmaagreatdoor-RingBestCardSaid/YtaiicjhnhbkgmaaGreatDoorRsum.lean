/-
  The digest: the reference's Sum.
  Conditions: the bounds on sizes that each theorem names.
-/
import Derived.Test.YtaiicjhnhbkgmaaGreatDoorFill
import Derived.Test.YtaiicjhnhbkgmaaGreatDoorRwords
import Derived.Test.YtaiicjhnhbkgmaaGreatDoorGate
import Derived.Test.YtaiicjhnhbkgmaaGreatDoorPtrH
import Derived.Test.YtaiicjhnhbkgmaaGreatDoorPtrN
import Derived.Test.YtaiicjhnhbkgmaaGreatDoorPtrE
import Derived.Test.YtaiicjhnhbkgmaaGreatDoorRef01
namespace Go.Proofs.YtaiicjhnhbkgmaaGreatDoor
open Go.RowKit
set_option maxRecDepth 100000

set_option maxHeartbeats 4000000 in
theorem rsum_any (bv : Value) (bs : List UInt8) (w : World) (hr : Rd w 1 bv bs.length (bs.map vb)) (hb : bs.length ≤ 140737488350208) :
    Calls Tryz.prog 97 #[bv] w (SumPost w bs) := by
  obtain ⟨a, c, rfl, -, -⟩ := hr.form
  have HR := Lib.hid hr; clear hr
  go_enter Tryz.func97, Tryz.ntmps97
  go_wp2_with (first
    | (refine wpList_alloc_at rfl 32 rfl zero32 zeroID (Array.replicate 32 (.int .u8 0)) rfl ?_))
  refine (rstart_any _).mono ?_
  rintro e w1 ⟨rfl, hk1⟩
  have hvs : ∃ vs, startL.map vW = vs ∧ vs.length = 8 := ⟨_, rfl, rfl⟩
  obtain ⟨vs, hvs, hlen⟩ := hvs
  rw [hvs]
  have hone : ∀ u ∈ vs, u.oneCell' = true := by rw [← hvs]; exact oneCell_vW _
  have HVS := Lib.hid hvs; have HK1 := Lib.hid hk1
  clear hvs hk1
  have hlt : w.heap.size < w1.heap.size := by have := HK1.out.size; simp at this; omega
  go_wp2_with (first
    | (refine wpList_alloc_at rfl 125 rfl zero8 zeroS8 (Array.replicate 8 (.int .u32 0)) rfl ?_)
    | ((with_reducible show wpList _ _ _ (⟨none, .store 125 (.tmp 3) (.tmp 8), _, _, _, _⟩ :: _) _ _); refine wpList_store_agg rfl 125 (.tmp 3) (.tmp 8) rfl w1.heap.size 0 vs rfl rfl _ _ (heap_alloc_new _ _) (by rw [hlen]; decide) (by rw [hlen]; exact size8) hone ?_; intro w2 hb2 hk2; have HB2 := Lib.hid hb2; have HK2 := Lib.hid hk2; clear hb2 hk2))
  have hkw : Keep noBlk w w2 := (((Keep.refl noBlk w).alloc _).trans HK1.out |>.alloc _).trans' HK2.out (fun _ _ h => h) (fun i hi e => by omega)
  have HKW := Lib.hid hkw; clear hkw
  refine (rfill_any _ bs w2 (HR.out.keep HKW.out fun _ _ => id) hb).mono ?_
  rintro e w3 ⟨v, ps, rfl, hown, hpcs, hk3⟩
  have R0 : Hid (SR 125 w w3 bs v ps w2.heap.size w1.heap.size 0) := by
    refine Lib.hid ⟨?_, hk3.blk (HK2.out.blk (((HK1.out.alloc _).blk (heap_alloc_new _ _) id)) (by omega)) id, hown, hpcs, HKW.out.trans hk3, hlt, by decide⟩
    have := HB2.out
    rw [spl_whole _ _ (by rw [hlen]; rfl), ← HVS.out] at this
    exact hk3.blk this id
  obtain ⟨av, cv, rfl, -, -⟩ := (Rd.of_owns hown).form
  clear hown hpcs hk3 HB2 HK2 HKW HK1 HVS
  have hm := many_eq bs.length
  have hp := padN_lt bs.length
  obtain ⟨M, hM⟩ : ∃ M, M = many bs.length := ⟨_, rfl⟩
  rw [← hM] at hm R0 ⊢
  have HM := Lib.hid hM; clear hM
  go_wp2_with fail
  go_loopw [5] (fun i wr => ∃ k : Nat, k ≤ M ∧ i = .int .i64 k ∧ Hid (SR 125 w wr bs (.slice av M cv) ps w2.heap.size w1.heap.size k)) (fun i _ => M - (intOf i).toNat)
  case atStart => exact ⟨0, by omega, rfl, R0⟩
  case round =>
    clear R0
    obtain ⟨k, hk, rfl, hR⟩ := hrel
    by_cases hk2 : k < M
    · obtain ⟨ap, cp, g, cap, hv, c0, hrd⟩ := hR.out.piece (by rw [← HM.out]; exact hk2)
      rw [← HM.out] at hv
      cases hv
      have hb0 : (0 : Int) ≤ (k : Int) := by omega
      have hb1 : (k : Int) < (M : Int) := by omega
      have HP := Lib.hid hrd; clear hrd
      obtain ⟨us, hus⟩ : ∃ us, (sumS bs k).l.map vW = us := ⟨_, rfl⟩
      have hul : us.length = 8 := by rw [← hus]; rfl
      have HUS := Lib.hid hus; clear hus
      go_wp2_with fail
      refine wp_region_any (by kernel_rfl) ?_
      obtain ⟨wd, hwd, hRd⟩ : ∃ wd, ({ wr with drawn := wr.drawn + 1 } : World) = wd ∧ Hid (SR 125 w wd bs (.slice (some ⟨g, 0, none⟩) M cv) ps w2.heap.size w1.heap.size k) := ⟨_, rfl, Lib.hid (hR.out.same (Keep.refl noBlk wr).drew)⟩
      rw [hwd]
      have HPd : Hid (Rd wd 1 (.slice ap 64 cp) 64 ((piece bs k).map vb)) := Lib.hid (by rw [← hwd]; exact HP.out.keep (Keep.refl noBlk wr).drew fun _ _ => id)
      have c0d : wd.cell? ⟨g, k, none⟩ = some (.slice ap 64 cp) := by rw [← hwd]; exact c0
      clear hwd hR HP c0
      refine wpAny_take (i := 1) (v := .slice (some ⟨g, 0, none⟩) M cv) rfl (by kernel_rfl) (by kernel_rfl) (by kernel_rfl) (fun _ _ _ h => h) (.inl ⟨by rfl, fun _ => rfl⟩) ?_
      refine wpAny_take (i := 2) (v := .int .i64 k) rfl (by kernel_rfl) (by kernel_rfl) (by kernel_rfl) (fun _ _ _ h => h) (.inl ⟨by rfl, fun _ => rfl⟩) ?_
      refine wpAny_take (i := 3) (v := .pointer (some ⟨g, k, none⟩)) rfl (by kernel_rfl) (by kernel_rfl) (by kernel_rfl) (fun _ _ _ h => h) (.inl ⟨by rfl, fun w' => ?_⟩) ?_
      · go_simp
      obtain ⟨S, hS⟩ : ∃ S : World → Prop, S = fun w' => w'.heap[w1.heap.size]? = some (.cells us.toArray 125 (0, 0)) := ⟨_, rfl⟩
      have hSd : S wd := by rw [hS]; show wd.heap[w1.heap.size]? = _; rw [← HUS.out]; exact hRd.out.st
      refine wpAnyU_begin (i := 0) (X := 5) (S := S) (v := .agg us.toArray) (by kernel_rfl) (by decide) (by kernel_rfl) rfl (by kernel_rfl) (by kernel_rfl) (by kernel_rfl) (fun _ _ _ h => h)
        (yieldsIf_load_mid (by rfl) 125 (.tmp 3) rfl w1.heap.size 0 rfl us _ (fun w' h => rangeAt_whole (by rw [hS] at h; exact h)) Tryz.underlying125 rfl (by rw [hul]; exact size8)) hSd ?_
      refine wpAnyU_one (k := 4) rfl (by kernel_rfl) ?_
      go_wp2_with fail
      refine ⟨fun _ _ => hSd, ?_⟩
      refine wpAnyU_one (k := 5) rfl (by kernel_rfl) ?_
      go_wp2_with fail
      rw [← HUS.out]
      refine (rturn_any (sumS bs k) _ (piece bs k) wd (piece_length bs k (by rw [← HM.out]; exact hk2)) HPd.out).mono ?_
      rintro e w4 ⟨rfl, hk4⟩
      obtain ⟨ts, hts⟩ : ∃ ts, (turn (byt (piece bs k)) (sumS bs k)).l.map vW = ts := ⟨_, rfl⟩
      have htl : ts.length = 8 := by rw [← hts]; rfl
      have hto : ∀ u ∈ ts, u.oneCell' = true := by rw [← hts]; exact oneCell_vW _
      rw [hts]
      have HTS := Lib.hid hts; have HK4 := Lib.hid hk4
      clear hts hk4
      go_wp2_with fail
      have hSd4 : S w4 := by rw [hS] at hSd ⊢; exact HK4.out.blk hSd id
      have hvoid : ∀ b : Bool, b = true → b = false → S w4 := fun b h1 h2 => by rw [h1] at h2; cases h2
      refine ⟨fun _ _ => hSd4, ?_⟩
      refine wpAnyU_one (k := 6) rfl (by kernel_rfl) ?_
      go_wp2_with fail
      refine ⟨fun _ _ => hSd4, ?_⟩
      refine wpAnyU_two (k := 7) (l := 8) rfl rfl (by kernel_rfl) ?_ ?_
      · go_wp2_with fail
        refine ⟨fun _ _ => hSd4, ?_⟩
        refine wpAnyU_two (k := 8) (l := 9) rfl rfl (by kernel_rfl) ?_ ?_
        · go_wp2_with fail
          refine ⟨fun _ _ => hSd4, ?_⟩
          refine wpAnyU_one (k := 9) rfl (by kernel_rfl) ?_
          refine wpList_store_agg rfl 125 (.tmp 3) (.tmp 24) rfl w1.heap.size 0 ts rfl rfl _ _ (hRd.out.same HK4.out).st (by rw [htl]; simp [St.l]) (by rw [htl]; exact size8) hto ?_
          intro w5 hb5 hk5
          rw [← HTS.out] at hb5
          have hR2 := hRd.out.turn HK4.out hb5 hk5
          refine wpList_nil ⟨fun h => absurd h (by rw [show Region.waitsFor _ _ _ _ = true from by kernel_rfl]; simp), ?_⟩
          refine wpAnyU_done (by kernel_rfl) ?_ _
          clear hvoid hSd4 hSd hRd HK4 HPd c0d hb5 hk5
          go_wp2_with fail
          go_roundw
          case rel => exact ⟨k + 1, by omega, by go_num, hR2⟩
          case measure => simp [intOf]; omega
        · skip
          refine wpList_store_agg rfl 125 (.tmp 3) (.tmp 24) rfl w1.heap.size 0 ts rfl rfl _ _ (hRd.out.same HK4.out).st (by rw [htl]; simp [St.l]) (by rw [htl]; exact size8) hto ?_
          intro w5 hb5 hk5
          rw [← HTS.out] at hb5
          have hR2 := hRd.out.turn HK4.out hb5 hk5
          refine wpList_nil ⟨fun h => absurd h (by rw [show Region.waitsFor _ _ _ _ = true from by kernel_rfl]; simp), ?_⟩
          refine wpAnyU_one (k := 8) rfl (by kernel_rfl) ?_
          go_wp2_with fail
          refine ⟨fun _ h => absurd (show true = false from h) (by simp), ?_⟩
          refine wpAnyU_done (by kernel_rfl) ?_ _
          clear hvoid hSd4 hSd hRd HK4 HPd c0d hb5 hk5
          go_wp2_with fail
          go_roundw
          case rel => exact ⟨k + 1, by omega, by go_num, hR2⟩
          case measure => simp [intOf]; omega
      · go_wp2_with fail
        refine ⟨fun _ _ => hSd4, ?_⟩
        refine wpAnyU_one (k := 7) rfl (by kernel_rfl) ?_
        go_wp2_with fail
        refine ⟨fun _ _ => hSd4, ?_⟩
        refine wpAnyU_one (k := 9) rfl (by kernel_rfl) ?_
        · skip
          refine wpList_store_agg rfl 125 (.tmp 3) (.tmp 24) rfl w1.heap.size 0 ts rfl rfl _ _ (hRd.out.same HK4.out).st (by rw [htl]; simp [St.l]) (by rw [htl]; exact size8) hto ?_
          intro w5 hb5 hk5
          rw [← HTS.out] at hb5
          have hR2 := hRd.out.turn HK4.out hb5 hk5
          refine wpList_nil ⟨fun h => absurd h (by rw [show Region.waitsFor _ _ _ _ = true from by kernel_rfl]; simp), ?_⟩
          refine wpAnyU_done (by kernel_rfl) ?_ _
          clear hvoid hSd4 hSd hRd HK4 HPd c0d hb5 hk5
          go_wp2_with fail
          go_roundw
          case rel => exact ⟨k + 1, by omega, by go_num, hR2⟩
          case measure => simp [intOf]; omega
    · obtain rfl : k = M := by omega
      obtain ⟨S, hS⟩ : ∃ S, sumS bs k = S := ⟨_, rfl⟩
      have D0 : Hid (DR 125 w (wr.alloc (.cells (Array.replicate 32 (.int .u8 0)) 32)) S w1.heap.size wr.heap.size 0) := by
        have h := hR.out
        have K : Keep noBlk wr (wr.alloc (.cells (Array.replicate 32 (.int .u8 0)) 32)) := (Keep.refl _ _).alloc _
        exact Lib.hid ⟨by rw [← hS]; exact K.blk h.st id, K.blk h.res id, heap_alloc_new _ _, h.keep.trans K, h.lt, lt_of_block h.st⟩
      have HSd := Lib.hid hS
      clear hS hR
      go_wp2_with (first
        | (refine wpList_alloc_at rfl 32 rfl zero32 zeroID (Array.replicate 32 (.int .u8 0)) rfl ?_))
      generalize wr.alloc (.cells (Array.replicate 32 (.int .u8 0)) 32) = w0 at *
      generalize wr.heap.size = b6 at *
      go_loopw [7] (fun i wr => ∃ n : Nat, n ≤ 32 ∧ i = .int .i64 n ∧ Hid (DR 125 w wr S w1.heap.size b6 n)) (fun i _ => 32 - (intOf i).toNat)
      case atStart => exact ⟨0, by omega, rfl, D0⟩
      case round =>
        clear D0
        obtain ⟨n, hn, rfl, hD⟩ := hrel
        by_cases hn32 : n < 32
        · obtain ⟨j, q, hj, hq, hnj⟩ : ∃ j q : Nat, j < 8 ∧ q < 4 ∧ n = 4 * j + q := ⟨n / 4, n % 4, by omega, by omega, by omega⟩
          have hc : wr.cell? ⟨w1.heap.size, j, none⟩ = some (.int .u32 (S.at j)) := blk_cell hD.out.st (by simp [S.at_get j hj, vW])
          have e1 : (n : Int) / 4 = (j : Int) := by omega
          have e2 : (n : Int) % 4 = (q : Int) := by omega
          have hn0 : (0 : Int) ≤ (n : Int) := by omega
          have hn1 : (n : Int) < 32 := by omega
          have hj0 : (0 : Int) ≤ (j : Int) := by omega
          have hj1 : (j : Int) < 8 := by omega
          have hq0 : (0 : Int) ≤ (q : Int) := by omega
          have hq1 : (q : Int) < 4 := by omega
          have HV := Lib.hid (show (Value.int .u8 (S.at j / 2 ^ (24 - 8 * q) % 256)) = vb (dgB S n) by rw [vb_dgB, show n / 4 = j by omega, show n % 4 = q by omega])
          obtain ⟨⟨u, hcu⟩, hfu⟩ := hD.out.free (show n < 32 by omega)
          have hD2 := hD.out.step HV.out
          have HN := Lib.hid hnj; clear hnj
          generalize S.at j = x at *
          go_wp2_with fail
          go_roundw
          case rel => exact ⟨n + 1, by omega, by go_num, hD2⟩
          case measure => simp [intOf]; omega
        · obtain rfl : n = 32 := by omega
          obtain ⟨ds, hds⟩ : ∃ ds, (digest bs).map vb = ds := ⟨_, rfl⟩
          have hdl : ds.length = 32 := by rw [← hds]; simp [digest_length]
          have hdo : ∀ u ∈ ds, u.oneCell' = true := by rw [← hds]; exact oneCell_vb _
          have hout : wr.heap[b6]? = some (.cells ds.toArray 32 (0, 0)) := by
            have := hD.out.out
            rw [← hds, ← dgCells_all, ← HM.out, HSd.out]
            exact this
          have HDS := Lib.hid hds; have HOUT := Lib.hid hout
          clear hds hout
          go_wp2_with (first
            | ((with_reducible show wpList _ _ _ (⟨some 42, .load 32 (.tmp 6), _, _, _, _⟩ :: _) _ _); refine wpList_load_mid rfl 32 (.tmp 6) rfl b6 0 rfl ds _ (rangeAt_whole HOUT.out) Tryz.underlying32 rfl (by rw [hdl]; exact sizeID) ?_)
            | ((with_reducible show wpList _ _ _ (⟨none, .store 32 (.tmp 2) (.tmp 42), _, _, _, _⟩ :: _) _ _); refine wpList_store_agg rfl 32 (.tmp 2) (.tmp 42) rfl w.heap.size 0 ds rfl rfl _ _ hD.out.res (by rw [hdl]; simp) (by rw [hdl]; exact sizeID) hdo ?_; intro w5 hb5 hk5; have HB5 := Lib.hid hb5; have HK5 := Lib.hid hk5; clear hb5 hk5))
          refine bodyPost_ret (results_cell_row rfl _ _ w.heap.size _ _ _ _ rfl HB5.out Tryz.underlying32 rfl (by rw [spl_size]; simp [sizeID])) rfl ⟨?_, ?_⟩
          · rw [spl_whole _ _ (by rw [hdl]; simp), HDS.out]
          · exact hD.out.keep.trans' HK5.out (fun _ _ h => h) (fun i hi e => by omega)
end Go.Proofs.YtaiicjhnhbkgmaaGreatDoor

/-
  The document's Read of a pointer.
  Conditions: those told.
-/
namespace Go.Proofs.YtaiicjhnhbkgmaaGreatDoor
open Go.RowKit Go.Maps Go.ChangeMaps
set_option maxRecDepth 100000
set_option linter.unusedVariables false

/-- The i-th byte. -/
def byN (b : List UInt8) (i : Nat) : Nat := (b.getD i 0).toNat
theorem byN_lt (b : List UInt8) (i : Nat) : byN b i < 256 := (b.getD i 0).toNat_lt
theorem drop_by {b : List UInt8} {i : Nat} (h : i < b.length) : b.drop i = b.getD i 0 :: b.drop (i + 1) := by
  rw [List.drop_eq_getElem_cons h, List.getD_eq_getElem?_getD, List.getElem?_eq_getElem h]
  rfl
theorem by1 {b : List UInt8} {i : Nat} (h : i < b.length) : beN ((b.drop i).take 1) = byN b i := by
  rw [drop_by h]
  simp [beN, byN]
theorem by2 {b : List UInt8} {i : Nat} (h : i + 1 < b.length) : beN ((b.drop i).take 2) = byN b i * 256 + byN b (i + 1) := by
  rw [drop_by (show i < b.length by omega), drop_by h]
  simp [beN, byN]
theorem by4 {b : List UInt8} {i : Nat} (h : i + 3 < b.length) : beN ((b.drop i).take 4) = byN b i * 16777216 + byN b (i + 1) * 65536 + byN b (i + 2) * 256 + byN b (i + 3) := by
  have h2 := drop_by (b := b) (i := i + 2) (by omega)
  have h3 := drop_by (b := b) (i := i + 3) (by omega)
  rw [drop_by (show i < b.length by omega), drop_by (show i + 1 < b.length by omega), show i + 1 + 1 = i + 2 from rfl, h2, show i + 2 + 1 = i + 3 from rfl, h3]
  simp only [List.take_succ_cons, List.take_zero, beN, byN, List.foldl_cons, List.foldl_nil]
  omega
/-- The digest, so many bytes of it. -/
def mixS (b : List UInt8) (k : Nat) : List UInt8 := (b.drop 15).take k ++ List.replicate (32 - k) 0
theorem mixS_len {b : List UInt8} (h : b.length = 47) {k : Nat} (hk : k ≤ 32) : (mixS b k).length = 32 := by
  unfold mixS
  rw [List.length_append, List.length_take, List.length_drop, List.length_replicate]
  omega
theorem mixS_set {b : List UInt8} (h : b.length = 47) {k : Nat} (hk : k < 32) : (mixS b k).set k (b.getD (15 + k) 0) = mixS b (k + 1) := by
  apply List.ext_getElem?
  intro i
  have hl := mixS_len h (Nat.le_of_lt hk)
  rw [List.getElem?_set, hl]
  unfold mixS
  by_cases e : k = i
  · subst e
    rw [if_pos rfl, if_pos hk, List.getElem?_append_left (by rw [List.length_take, List.length_drop]; omega), List.getElem?_take, if_pos (by omega), List.getElem?_drop, List.getD_eq_getElem?_getD, List.getElem?_eq_getElem (by omega)]
    rfl
  · rw [if_neg e]
    by_cases hi : i < k
    · rw [List.getElem?_append_left (by rw [List.length_take, List.length_drop]; omega), List.getElem?_append_left (by rw [List.length_take, List.length_drop]; omega), List.getElem?_take, List.getElem?_take, if_pos hi, if_pos (by omega)]
    · rw [List.getElem?_append_right (by rw [List.length_take, List.length_drop]; omega), List.getElem?_append_right (by rw [List.length_take, List.length_drop]; omega), List.getElem?_replicate, List.getElem?_replicate, List.length_take, List.length_take, List.length_drop]
      by_cases hi2 : i < 32
      · rw [if_pos (by omega), if_pos (by omega)]
      · rw [if_neg (by omega), if_neg (by omega)]
theorem ptCs_setS (v : Value) (q : Pt) (k : Nat) (x : UInt8) : (ptCs v q).toArray.setIfInBounds (3 + k) (vb x) = (ptCs v ⟨q.addrs, q.birth, q.level, q.sum.set k x⟩).toArray := by
  rw [List.setIfInBounds_toArray]
  congr 1
  unfold ptCs
  rw [show 3 + k = k + 1 + 1 + 1 by omega, List.set_cons_succ, List.set_cons_succ, List.set_cons_succ, List.map_set]
theorem adsOf_over {b : List UInt8} {k : Nat} (hk : k ≤ 3) (h : ¬ (k < beN (b.take 1) ∧ k < 3)) : adsOf b k = adsOf b 3 := by
  unfold adsOf
  rw [show min (beN (b.take 1)) k = min (beN (b.take 1)) 3 by omega]
/-- What stands in memory while the document's Read reads. -/
structure RqW (w wr : World) (rb fb pb B n : Nat) (v : Value) (q : Pt) : Prop where
  res : wr.heap[rb]? = some (.cells (ptCs (.slice none 0 0) zPt).toArray 34 (0, 0))
  flt : wr.heap[fb]? = some (.cells #[.int .i64 0, .int .i64 0] 115 (0, 0))
  pt : wr.heap[pb]? = some (.cells (ptCs v q).toArray 34 (0, 0))
  row : wr.ownsRow B 70 2 v n (adCells q.addrs)
  keep : Keep noBlk w wr
  ord : w.heap.size ≤ rb ∧ rb < fb ∧ fb < pb ∧ pb < B
  sz : B ≤ wr.heap.size
theorem RqW.same {w wr w' : World} {rb fb pb B n : Nat} {v : Value} {q : Pt} (h : RqW w wr rb fb pb B n v q) (k : Keep noBlk wr w') : RqW w w' rb fb pb B n v q :=
  ⟨k.blk h.res id, k.blk h.flt id, k.blk h.pt id, k.owns h.row fun _ _ => id, h.keep.trans k, h.ord, Nat.le_trans h.sz k.size⟩
theorem RqW.put {w wr w' : World} {rb fb pb B n m : Nat} {v u : Value} {q r : Pt} (h : RqW w wr rb fb pb B n v q) (hp : w'.heap[pb]? = some (.cells (ptCs u r).toArray 34 (0, 0))) (hr : w'.ownsRow B 70 2 u m (adCells r.addrs)) (hk : Keep (fun i => i = pb ∨ v.ownBlock = some i) wr w') : RqW w w' rb fb pb B m u r := by
  obtain ⟨h1, h2, h3, h4⟩ := h.ord
  have hno : ∀ i, i < pb → ¬ (i = pb ∨ v.ownBlock = some i) := fun i hi e => by
    rcases e with e | e
    · omega
    · have := owns_base h.row e; omega
  exact ⟨hk.blk h.res (hno _ (by omega)), hk.blk h.flt (hno _ (by omega)), hp, hr, h.keep.trans' hk (U := noBlk) (fun _ _ h => h) (fun i hi e => hno i (by omega) e), h.ord, Nat.le_trans h.sz hk.size⟩

set_option maxHeartbeats 8000000 in
theorem rread_less (w : World) (bv : Value) (b : List UInt8) (hr : Rd w 1 bv b.length (b.map vb)) (hl : b.length < 47) : Calls Tryz.prog 79 #[bv] w (ReadFPost w b) := by
  obtain ⟨oa, ca, rfl, -, -⟩ := hr.form
  have hmx : b.length ≤ maxLen := by obtain ⟨_, a', c', h1, h2, h3, -⟩ := hr; omega
  unfold maxLen at hmx
  have hB : readB b = false := by unfold readB; rw [decide_eq_false (by omega)]; rfl
  obtain ⟨n, hn⟩ : ∃ n, b.length = n := ⟨_, rfl⟩
  have hre : readE b = (4, (n : Int)) := by unfold readE; rw [if_neg (by omega), hn]; congr 1; omega
  have HRE := Lib.hid hre; have HBF := Lib.hid hB
  rw [hn] at hmx hl ⊢
  have hli : (n : Int) < 47 := by omega
  have hbf := fun w => buildFault2 w 4 (n : Int)
  clear hr hB hn hre
  have hz := zeroPtV
  have hbz : ∀ w, (Instr.build 34 #[]).run Tryz.prog w = .ok (.agg (ptCs (.slice none 0 0) zPt).toArray) w := fun w => by kernel_rfl
  obtain ⟨zc, hzc⟩ : ∃ x, ptCs (.slice none 0 0) zPt = x := ⟨_, rfl⟩
  have hzl : zc.length = 35 := by rw [← hzc]; rfl
  have zco : ∀ u ∈ zc, u.oneCell' = true := by rw [← hzc]; exact oneCell_pt _
  have HZ := Lib.hid hzc
  have hzlit : [.slice none 0 0, .int .i64 0, .int .i64 0, .int .u8 0, .int .u8 0, .int .u8 0, .int .u8 0, .int .u8 0, .int .u8 0, .int .u8 0, .int .u8 0, .int .u8 0, .int .u8 0, .int .u8 0, .int .u8 0, .int .u8 0, .int .u8 0, .int .u8 0, .int .u8 0, .int .u8 0, .int .u8 0, .int .u8 0, .int .u8 0, .int .u8 0, .int .u8 0, .int .u8 0, .int .u8 0, .int .u8 0, .int .u8 0, .int .u8 0, .int .u8 0, .int .u8 0, .int .u8 0, .int .u8 0, .int .u8 0] = zc := by rw [← hzc]; rfl
  rw [hzc] at hz hbz
  obtain ⟨wa, hwa, ka, ha, sa⟩ := alloc_facts w zc.toArray 34
  obtain ⟨wb, hwb, kb, hb, sb⟩ := alloc_facts wa #[.int .i64 0, .int .i64 0] 115
  obtain ⟨rb, hrb⟩ : ∃ x, w.heap.size = x := ⟨_, rfl⟩
  obtain ⟨fb, hfb⟩ : ∃ x, wa.heap.size = x := ⟨_, rfl⟩
  have hrf : rb < fb := by omega
  rw [hrb] at ha
  rw [hfb] at hb
  have HRB := Lib.hid (kb.blk ha id); have HFB := Lib.hid hb; have HKB := Lib.hid (ka.trans kb)
  have HRBE := Lib.hid hrb
  have HSW : Hid (wb.heap.size = fb + 1) := Lib.hid (by omega)
  clear ka kb ha hb sa sb hzc hl
  go_enter Tryz.func79, Tryz.ntmps79
  go_wp2_with (first
    | ((with_reducible show wpList _ _ _ (⟨some 2, .alloc 34, _, _, _, _⟩ :: _) _ _); refine wpList_alloc_at rfl 34 rfl _ hz zc.toArray rfl ?_; rw [hwa, hrb])
    | ((with_reducible show wpList _ _ _ (⟨some 3, .alloc 115, _, _, _, _⟩ :: _) _ _); refine wpList_alloc_at rfl 115 rfl _ zeroFlt #[.int .i64 0, .int .i64 0] rfl ?_; rw [hwb, hfb])
    | ((with_reducible show wpList _ _ _ (⟨none, .store 34 (.tmp 2) (.tmp 12), _, _, _, _⟩ :: _) _ _); refine wpList_store_agg rfl 34 (.tmp 2) (.tmp 12) rfl rb 0 zc rfl rfl zc.toArray 34 HRB.out (by rw [hzl, List.size_toArray, hzl]; exact Nat.le_refl _) (sizePtL hzl) zco ?_; intro w5 hb5 hk5; rw [spl_whole _ _ (by rw [hzl, List.size_toArray, hzl])] at hb5; have HF5 := Lib.hid (hk5.blk HFB.out (by omega)); have HB5 := Lib.hid hb5; have HK5 := Lib.hid hk5; clear hb5 hk5)
    | ((with_reducible show wpList _ _ _ (⟨none, .store 115 (.tmp 3) (.tmp 15), _, _, _, _⟩ :: _) _ _); refine wpList_store_agg rfl 115 (.tmp 3) (.tmp 15) rfl fb 0 [.int .i64 (4), .int .i64 ((n : Int))] rfl rfl #[.int .i64 0, .int .i64 0] 115 HF5.out (Nat.le_refl _) sizeFault (by simp [Value.oneCell']) ?_; intro w6 hb6 hk6; rw [spl_whole _ _ (by rfl)] at hb6; have HB6 := Lib.hid (hk6.blk HB5.out (by omega)); have HF6 := Lib.hid hb6; have HK6 := Lib.hid hk6; clear hb6 hk6))
  refine bodyPost_ret (results_cells2 rfl _ _ rb fb _ _ _ _ _ _ _ _ rfl HB6.out ptUnder rfl (by rw [List.size_toArray, hzl]; exact sizePt) rfl HF6.out Tryz.underlying115 rfl sizeFault) rfl ?_
  refine ⟨(HKB.out.trans' HK5.out (U := noBlk) (fun _ _ h => h) (fun i hi e => by have := HRBE.out; omega)).trans' HK6.out (fun _ _ h => h) (fun i hi e => by have := HRBE.out; omega), ?_⟩
  rw [HBF.out, if_neg (by decide), HRE.out, HZ.out]

set_option maxHeartbeats 8000000 in
theorem rread_more (w : World) (bv : Value) (b : List UInt8) (hr : Rd w 1 bv b.length (b.map vb)) (hl : 47 < b.length) : Calls Tryz.prog 79 #[bv] w (ReadFPost w b) := by
  obtain ⟨oa, ca, rfl, -, -⟩ := hr.form
  have hmx : b.length ≤ maxLen := by obtain ⟨_, a', c', h1, h2, h3, -⟩ := hr; omega
  unfold maxLen at hmx
  have hB : readB b = false := by unfold readB; rw [decide_eq_false (by omega)]; rfl
  obtain ⟨n, hn⟩ : ∃ n, b.length = n := ⟨_, rfl⟩
  have hre : readE b = (4, 47) := by unfold readE; rw [if_neg (by omega), hn]; congr 1; omega
  have HRE := Lib.hid hre; have HBF := Lib.hid hB
  rw [hn] at hmx hl ⊢
  have hli : ¬ (n : Int) < 47 := by omega
  have hli2 : (47 : Int) < (n : Int) := by omega
  have hbf := fun w => buildFault2 w 4 47
  clear hr hB hn hre
  have hz := zeroPtV
  have hbz : ∀ w, (Instr.build 34 #[]).run Tryz.prog w = .ok (.agg (ptCs (.slice none 0 0) zPt).toArray) w := fun w => by kernel_rfl
  obtain ⟨zc, hzc⟩ : ∃ x, ptCs (.slice none 0 0) zPt = x := ⟨_, rfl⟩
  have hzl : zc.length = 35 := by rw [← hzc]; rfl
  have zco : ∀ u ∈ zc, u.oneCell' = true := by rw [← hzc]; exact oneCell_pt _
  have HZ := Lib.hid hzc
  have hzlit : [.slice none 0 0, .int .i64 0, .int .i64 0, .int .u8 0, .int .u8 0, .int .u8 0, .int .u8 0, .int .u8 0, .int .u8 0, .int .u8 0, .int .u8 0, .int .u8 0, .int .u8 0, .int .u8 0, .int .u8 0, .int .u8 0, .int .u8 0, .int .u8 0, .int .u8 0, .int .u8 0, .int .u8 0, .int .u8 0, .int .u8 0, .int .u8 0, .int .u8 0, .int .u8 0, .int .u8 0, .int .u8 0, .int .u8 0, .int .u8 0, .int .u8 0, .int .u8 0, .int .u8 0, .int .u8 0, .int .u8 0] = zc := by rw [← hzc]; rfl
  rw [hzc] at hz hbz
  obtain ⟨wa, hwa, ka, ha, sa⟩ := alloc_facts w zc.toArray 34
  obtain ⟨wb, hwb, kb, hb, sb⟩ := alloc_facts wa #[.int .i64 0, .int .i64 0] 115
  obtain ⟨rb, hrb⟩ : ∃ x, w.heap.size = x := ⟨_, rfl⟩
  obtain ⟨fb, hfb⟩ : ∃ x, wa.heap.size = x := ⟨_, rfl⟩
  have hrf : rb < fb := by omega
  rw [hrb] at ha
  rw [hfb] at hb
  have HRB := Lib.hid (kb.blk ha id); have HFB := Lib.hid hb; have HKB := Lib.hid (ka.trans kb)
  have HRBE := Lib.hid hrb
  have HSW : Hid (wb.heap.size = fb + 1) := Lib.hid (by omega)
  clear ka kb ha hb sa sb hzc hl
  go_enter Tryz.func79, Tryz.ntmps79
  go_wp2_with (first
    | ((with_reducible show wpList _ _ _ (⟨some 2, .alloc 34, _, _, _, _⟩ :: _) _ _); refine wpList_alloc_at rfl 34 rfl _ hz zc.toArray rfl ?_; rw [hwa, hrb])
    | ((with_reducible show wpList _ _ _ (⟨some 3, .alloc 115, _, _, _, _⟩ :: _) _ _); refine wpList_alloc_at rfl 115 rfl _ zeroFlt #[.int .i64 0, .int .i64 0] rfl ?_; rw [hwb, hfb])
    | ((with_reducible show wpList _ _ _ (⟨none, .store 34 (.tmp 2) (.tmp 19), _, _, _, _⟩ :: _) _ _); refine wpList_store_agg rfl 34 (.tmp 2) (.tmp 19) rfl rb 0 zc rfl rfl zc.toArray 34 HRB.out (by rw [hzl, List.size_toArray, hzl]; exact Nat.le_refl _) (sizePtL hzl) zco ?_; intro w5 hb5 hk5; rw [spl_whole _ _ (by rw [hzl, List.size_toArray, hzl])] at hb5; have HF5 := Lib.hid (hk5.blk HFB.out (by omega)); have HB5 := Lib.hid hb5; have HK5 := Lib.hid hk5; clear hb5 hk5)
    | ((with_reducible show wpList _ _ _ (⟨none, .store 115 (.tmp 3) (.tmp 20), _, _, _, _⟩ :: _) _ _); refine wpList_store_agg rfl 115 (.tmp 3) (.tmp 20) rfl fb 0 [.int .i64 (4), .int .i64 (47)] rfl rfl #[.int .i64 0, .int .i64 0] 115 HF5.out (Nat.le_refl _) sizeFault (by simp [Value.oneCell']) ?_; intro w6 hb6 hk6; rw [spl_whole _ _ (by rfl)] at hb6; have HB6 := Lib.hid (hk6.blk HB5.out (by omega)); have HF6 := Lib.hid hb6; have HK6 := Lib.hid hk6; clear hb6 hk6))
  refine bodyPost_ret (results_cells2 rfl _ _ rb fb _ _ _ _ _ _ _ _ rfl HB6.out ptUnder rfl (by rw [List.size_toArray, hzl]; exact sizePt) rfl HF6.out Tryz.underlying115 rfl sizeFault) rfl ?_
  refine ⟨(HKB.out.trans' HK5.out (U := noBlk) (fun _ _ h => h) (fun i hi e => by have := HRBE.out; omega)).trans' HK6.out (fun _ _ h => h) (fun i hi e => by have := HRBE.out; omega), ?_⟩
  rw [HBF.out, if_neg (by decide), HRE.out, HZ.out]

set_option maxHeartbeats 16000000 in
theorem rread_main (w : World) (bv : Value) (b : List UInt8) (hr : Rd w 1 bv b.length (b.map vb)) (hl : b.length = 47) : Calls Tryz.prog 79 #[bv] w (ReadFPost w b) := by
  obtain ⟨g, o, c, rfl, hcells⟩ : ∃ g o c, bv = .slice (some ⟨g, o, none⟩) 47 c ∧ ∀ i, i < 47 → w.cell? ⟨g, o + i, none⟩ = some (.int .u8 (byN b i : Int)) := by
    obtain ⟨h0, a, cap, rfl, h2, h3, h4, h5⟩ := hr
    obtain ⟨g, o, rfl, hc⟩ := h5 (by simp; omega)
    refine ⟨g, o, cap, by rw [hl], fun i hi => hc i _ ?_⟩
    rw [List.getElem?_map, List.getElem?_eq_getElem (by omega)]
    unfold byN vb
    rw [List.getD_eq_getElem?_getD, List.getElem?_eq_getElem (by omega)]
    rfl
  have HL := Lib.hid hl
  have HBY := Lib.hid (fun wx (k : Keep noBlk w wx) i (hi : i < 47) => k.cell (hcells i hi) id)
  have HRD := Lib.hid (fun wx (k : Keep noBlk w wx) => hr.keep k fun _ _ => id)
  rw [hl] at HRD
  have hz := zeroPtV
  have hbz : ∀ w, (Instr.build 34 #[]).run Tryz.prog w = .ok (.agg (ptCs (.slice none 0 0) zPt).toArray) w := fun w => by kernel_rfl
  obtain ⟨zc, hzc⟩ : ∃ x, ptCs (.slice none 0 0) zPt = x := ⟨_, rfl⟩
  have hzl : zc.length = 35 := by rw [← hzc]; rfl
  have zco : ∀ u ∈ zc, u.oneCell' = true := by rw [← hzc]; exact oneCell_pt _
  have HZ := Lib.hid hzc
  have hzlit : [.slice none 0 0, .int .i64 0, .int .i64 0, .int .u8 0, .int .u8 0, .int .u8 0, .int .u8 0, .int .u8 0, .int .u8 0, .int .u8 0, .int .u8 0, .int .u8 0, .int .u8 0, .int .u8 0, .int .u8 0, .int .u8 0, .int .u8 0, .int .u8 0, .int .u8 0, .int .u8 0, .int .u8 0, .int .u8 0, .int .u8 0, .int .u8 0, .int .u8 0, .int .u8 0, .int .u8 0, .int .u8 0, .int .u8 0, .int .u8 0, .int .u8 0, .int .u8 0, .int .u8 0, .int .u8 0, .int .u8 0] = zc := by rw [← hzc]; rfl
  rw [hzc] at hz hbz
  obtain ⟨wa, hwa, ka, ha, sa⟩ := alloc_facts w zc.toArray 34
  obtain ⟨wb, hwb, kb, hb, sb⟩ := alloc_facts wa #[.int .i64 0, .int .i64 0] 115
  obtain ⟨rb, hrb⟩ : ∃ x, w.heap.size = x := ⟨_, rfl⟩
  obtain ⟨fb, hfb⟩ : ∃ x, wa.heap.size = x := ⟨_, rfl⟩
  have hrf : rb < fb := by omega
  rw [hrb] at ha
  rw [hfb] at hb
  have HRB := Lib.hid (kb.blk ha id); have HFB := Lib.hid hb; have HKB := Lib.hid (ka.trans kb)
  have HRBE := Lib.hid hrb
  have HSW : Hid (wb.heap.size = fb + 1) := Lib.hid (by omega)
  obtain ⟨y10, hy10⟩ : ∃ x, byN b 10 = x := ⟨_, rfl⟩
  have hyb10 : y10 < 256 := by rw [← hy10]; exact byN_lt _ _
  obtain ⟨y11, hy11⟩ : ∃ x, byN b 11 = x := ⟨_, rfl⟩
  have hyb11 : y11 < 256 := by rw [← hy11]; exact byN_lt _ _
  obtain ⟨y12, hy12⟩ : ∃ x, byN b 12 = x := ⟨_, rfl⟩
  have hyb12 : y12 < 256 := by rw [← hy12]; exact byN_lt _ _
  obtain ⟨y13, hy13⟩ : ∃ x, byN b 13 = x := ⟨_, rfl⟩
  have hyb13 : y13 < 256 := by rw [← hy13]; exact byN_lt _ _
  obtain ⟨y14, hy14⟩ : ∃ x, byN b 14 = x := ⟨_, rfl⟩
  have hyb14 : y14 < 256 := by rw [← hy14]; exact byN_lt _ _
  obtain ⟨mn, hmn⟩ : ∃ x, byN b 0 = x := ⟨_, rfl⟩
  have hmnb : mn < 256 := by rw [← hmn]; exact byN_lt _ _
  obtain ⟨bi, hbi⟩ : ∃ x : Nat, y10 * 16777216 + y11 * 65536 + y12 * 256 + y13 = x := ⟨_, rfl⟩
  have hbii : (y10 : Int) * 16777216 + (y11 : Int) * 65536 + (y12 : Int) * 256 + (y13 : Int) = (bi : Int) := by omega
  have HMN : Hid (beN (b.take 1) = mn) := Lib.hid (by have := by1 (b := b) (i := 0) (by omega); rw [List.drop_zero] at this; rw [this, hmn])
  have HBI : Hid (beN ((b.drop 10).take 4) = bi) := Lib.hid (by rw [by4 (by omega), hy10, hy11, hy12, hy13, hbi])
  have HLE : Hid (beN ((b.drop 14).take 1) = y14) := Lib.hid (by rw [by1 (by omega), hy14])
  have HY10 := Lib.hid hy10
  have HY11 := Lib.hid hy11
  have HY12 := Lib.hid hy12
  have HY13 := Lib.hid hy13
  have HY14 := Lib.hid hy14
  have HMN0 := Lib.hid hmn
  have HBII := Lib.hid hbii
  clear hr hcells ka kb ha hb sa sb hzc hl hmn hbi hbii hy10 hy11 hy12 hy13 hy14
  go_enter Tryz.func79, Tryz.ntmps79
  go_wp2_with (first
    | ((with_reducible show wpList _ _ _ (⟨some 2, .alloc 34, _, _, _, _⟩ :: _) _ _); refine wpList_alloc_at rfl 34 rfl _ hz zc.toArray rfl ?_; rw [hwa, hrb])
    | ((with_reducible show wpList _ _ _ (⟨some 3, .alloc 115, _, _, _, _⟩ :: _) _ _); refine wpList_alloc_at rfl 115 rfl _ zeroFlt #[.int .i64 0, .int .i64 0] rfl ?_; rw [hwb, hfb]))
  clear hwa hwb hrb hfb
  obtain ⟨S, hS0⟩ : ∃ S : World → Prop, S = fun w' => Keep noBlk wb w' := ⟨_, rfl⟩
  have HSE := Lib.hid (show ∀ w', S w' → Keep noBlk wb w' from fun w' h => by rw [hS0] at h; exact h)
  have HSI := Lib.hid (show ∀ w', Keep noBlk wb w' → S w' from fun w' h => by rw [hS0]; exact h)
  have hS : S wb.drew := HSI.out _ (Keep.refl _ _).drew
  have HD10 := Lib.hid (fun w' (h : S w') => (show w'.cell? ⟨g, o + 10, none⟩ = some (.int .u8 (y10 : Int)) by have c := HBY.out w' (HKB.out.trans (HSE.out w' h)) 10 (by omega); rw [HY10.out] at c; exact c))
  have HD11 := Lib.hid (fun w' (h : S w') => (show w'.cell? ⟨g, o + 11, none⟩ = some (.int .u8 (y11 : Int)) by have c := HBY.out w' (HKB.out.trans (HSE.out w' h)) 11 (by omega); rw [HY11.out] at c; exact c))
  have HD12 := Lib.hid (fun w' (h : S w') => (show w'.cell? ⟨g, o + 12, none⟩ = some (.int .u8 (y12 : Int)) by have c := HBY.out w' (HKB.out.trans (HSE.out w' h)) 12 (by omega); rw [HY12.out] at c; exact c))
  have HD13 := Lib.hid (fun w' (h : S w') => (show w'.cell? ⟨g, o + 13, none⟩ = some (.int .u8 (y13 : Int)) by have c := HBY.out w' (HKB.out.trans (HSE.out w' h)) 13 (by omega); rw [HY13.out] at c; exact c))
  have HD14 := Lib.hid (fun w' (h : S w') => (show w'.cell? ⟨g, o + 14, none⟩ = some (.int .u8 (y14 : Int)) by have c := HBY.out w' (HKB.out.trans (HSE.out w' h)) 14 (by omega); rw [HY14.out] at c; exact c))
  clear hS0
  refine wp_region_held (S := S) (by kernel_rfl) ?_
  change wpAnyH _ _ _ _ _ _ _ _ wb.drew
  generalize wb.drew = w5 at hS ⊢
  refine tka 0 (.slice (some ⟨g, o, none⟩) 47 c) rfl hS ?_
  simp only [Act.put, List.setIfInBounds_toArray, List.set_cons_zero, List.set_cons_succ, List.getElem_toArray, List.getElem_cons_zero]
  refine tkb 1 (.pointer (some ⟨g, o + 10, none⟩)) rfl hS ?_
  simp only [Act.put, List.setIfInBounds_toArray, List.set_cons_zero, List.set_cons_succ, List.getElem_toArray, List.getElem_cons_succ, List.getElem_cons_zero]
  refine tkd 2 (.int .u8 (y10 : Int)) rfl (.inl ⟨by rfl, fun w' hw' => by have c := HD10.out w' hw'; go_simp⟩) hS ?_
  simp only [Act.put, List.setIfInBounds_toArray, List.set_cons_zero, List.set_cons_succ, List.getElem_toArray, List.getElem_cons_succ, List.getElem_cons_zero]
  refine tkd 3 (.int .i64 (y10 : Int)) rfl (.inl ⟨by rfl, fun _ _ => by go_simp; first | done | rw [IntWalk.i64_in _ (by omega)]⟩) hS ?_
  simp only [Act.put, List.setIfInBounds_toArray, List.set_cons_zero, List.set_cons_succ, List.getElem_toArray, List.getElem_cons_succ, List.getElem_cons_zero]
  refine tkd 4 (.int .i64 ((y10 : Int) * 16777216)) rfl (.inl ⟨by rfl, fun _ _ => by go_simp; first | done | rw [IntWalk.i64_in _ (by omega)]⟩) hS ?_
  simp only [Act.put, List.setIfInBounds_toArray, List.set_cons_zero, List.set_cons_succ, List.getElem_toArray, List.getElem_cons_succ, List.getElem_cons_zero]
  refine tka 5 (.slice (some ⟨g, o, none⟩) 47 c) rfl hS ?_
  simp only [Act.put, List.setIfInBounds_toArray, List.set_cons_zero, List.set_cons_succ, List.getElem_toArray, List.getElem_cons_succ, List.getElem_cons_zero]
  refine tkb 6 (.pointer (some ⟨g, o + 11, none⟩)) rfl hS ?_
  simp only [Act.put, List.setIfInBounds_toArray, List.set_cons_zero, List.set_cons_succ, List.getElem_toArray, List.getElem_cons_succ, List.getElem_cons_zero]
  refine tkd 7 (.int .u8 (y11 : Int)) rfl (.inl ⟨by rfl, fun w' hw' => by have c := HD11.out w' hw'; go_simp⟩) hS ?_
  simp only [Act.put, List.setIfInBounds_toArray, List.set_cons_zero, List.set_cons_succ, List.getElem_toArray, List.getElem_cons_succ, List.getElem_cons_zero]
  refine tkd 8 (.int .i64 (y11 : Int)) rfl (.inl ⟨by rfl, fun _ _ => by go_simp; first | done | rw [IntWalk.i64_in _ (by omega)]⟩) hS ?_
  simp only [Act.put, List.setIfInBounds_toArray, List.set_cons_zero, List.set_cons_succ, List.getElem_toArray, List.getElem_cons_succ, List.getElem_cons_zero]
  refine tkd 9 (.int .i64 ((y11 : Int) * 65536)) rfl (.inl ⟨by rfl, fun _ _ => by go_simp; first | done | rw [IntWalk.i64_in _ (by omega)]⟩) hS ?_
  simp only [Act.put, List.setIfInBounds_toArray, List.set_cons_zero, List.set_cons_succ, List.getElem_toArray, List.getElem_cons_succ, List.getElem_cons_zero]
  refine tkd 10 (.int .i64 ((y10 : Int) * 16777216 + (y11 : Int) * 65536)) rfl (.inl ⟨by rfl, fun _ _ => by go_simp; first | done | rw [IntWalk.i64_in _ (by omega)]⟩) hS ?_
  simp only [Act.put, List.setIfInBounds_toArray, List.set_cons_zero, List.set_cons_succ, List.getElem_toArray, List.getElem_cons_succ, List.getElem_cons_zero]
  refine tka 11 (.slice (some ⟨g, o, none⟩) 47 c) rfl hS ?_
  simp only [Act.put, List.setIfInBounds_toArray, List.set_cons_zero, List.set_cons_succ, List.getElem_toArray, List.getElem_cons_succ, List.getElem_cons_zero]
  refine tkb 12 (.pointer (some ⟨g, o + 12, none⟩)) rfl hS ?_
  simp only [Act.put, List.setIfInBounds_toArray, List.set_cons_zero, List.set_cons_succ, List.getElem_toArray, List.getElem_cons_succ, List.getElem_cons_zero]
  refine tkd 13 (.int .u8 (y12 : Int)) rfl (.inl ⟨by rfl, fun w' hw' => by have c := HD12.out w' hw'; go_simp⟩) hS ?_
  simp only [Act.put, List.setIfInBounds_toArray, List.set_cons_zero, List.set_cons_succ, List.getElem_toArray, List.getElem_cons_succ, List.getElem_cons_zero]
  refine tkd 14 (.int .i64 (y12 : Int)) rfl (.inl ⟨by rfl, fun _ _ => by go_simp; first | done | rw [IntWalk.i64_in _ (by omega)]⟩) hS ?_
  simp only [Act.put, List.setIfInBounds_toArray, List.set_cons_zero, List.set_cons_succ, List.getElem_toArray, List.getElem_cons_succ, List.getElem_cons_zero]
  refine tkd 15 (.int .i64 ((y12 : Int) * 256)) rfl (.inl ⟨by rfl, fun _ _ => by go_simp; first | done | rw [IntWalk.i64_in _ (by omega)]⟩) hS ?_
  simp only [Act.put, List.setIfInBounds_toArray, List.set_cons_zero, List.set_cons_succ, List.getElem_toArray, List.getElem_cons_succ, List.getElem_cons_zero]
  refine tkd 16 (.int .i64 ((y10 : Int) * 16777216 + (y11 : Int) * 65536 + (y12 : Int) * 256)) rfl (.inl ⟨by rfl, fun _ _ => by go_simp; first | done | rw [IntWalk.i64_in _ (by omega)]⟩) hS ?_
  simp only [Act.put, List.setIfInBounds_toArray, List.set_cons_zero, List.set_cons_succ, List.getElem_toArray, List.getElem_cons_succ, List.getElem_cons_zero]
  refine tka 17 (.slice (some ⟨g, o, none⟩) 47 c) rfl hS ?_
  simp only [Act.put, List.setIfInBounds_toArray, List.set_cons_zero, List.set_cons_succ, List.getElem_toArray, List.getElem_cons_succ, List.getElem_cons_zero]
  refine tkb 18 (.pointer (some ⟨g, o + 13, none⟩)) rfl hS ?_
  simp only [Act.put, List.setIfInBounds_toArray, List.set_cons_zero, List.set_cons_succ, List.getElem_toArray, List.getElem_cons_succ, List.getElem_cons_zero]
  refine tkd 19 (.int .u8 (y13 : Int)) rfl (.inl ⟨by rfl, fun w' hw' => by have c := HD13.out w' hw'; go_simp⟩) hS ?_
  simp only [Act.put, List.setIfInBounds_toArray, List.set_cons_zero, List.set_cons_succ, List.getElem_toArray, List.getElem_cons_succ, List.getElem_cons_zero]
  refine tkd 20 (.int .i64 (y13 : Int)) rfl (.inl ⟨by rfl, fun _ _ => by go_simp; first | done | rw [IntWalk.i64_in _ (by omega)]⟩) hS ?_
  simp only [Act.put, List.setIfInBounds_toArray, List.set_cons_zero, List.set_cons_succ, List.getElem_toArray, List.getElem_cons_succ, List.getElem_cons_zero]
  refine tkd 21 (.int .i64 ((y10 : Int) * 16777216 + (y11 : Int) * 65536 + (y12 : Int) * 256 + (y13 : Int))) rfl (.inl ⟨by rfl, fun _ _ => by go_simp; first | done | rw [IntWalk.i64_in _ (by omega)]⟩) hS ?_
  simp only [Act.put, List.setIfInBounds_toArray, List.set_cons_zero, List.set_cons_succ, List.getElem_toArray, List.getElem_cons_succ, List.getElem_cons_zero]
  refine tka 22 (.slice (some ⟨g, o, none⟩) 47 c) rfl hS ?_
  simp only [Act.put, List.setIfInBounds_toArray, List.set_cons_zero, List.set_cons_succ, List.getElem_toArray, List.getElem_cons_succ, List.getElem_cons_zero]
  refine tkb 23 (.pointer (some ⟨g, o + 14, none⟩)) rfl hS ?_
  simp only [Act.put, List.setIfInBounds_toArray, List.set_cons_zero, List.set_cons_succ, List.getElem_toArray, List.getElem_cons_succ, List.getElem_cons_zero]
  refine tkd 24 (.int .u8 (y14 : Int)) rfl (.inl ⟨by rfl, fun w' hw' => by have c := HD14.out w' hw'; go_simp⟩) hS ?_
  simp only [Act.put, List.setIfInBounds_toArray, List.set_cons_zero, List.set_cons_succ, List.getElem_toArray, List.getElem_cons_succ, List.getElem_cons_zero]
  refine tkd 25 (.int .i64 (y14 : Int)) rfl (.inl ⟨by rfl, fun _ _ => by go_simp; first | done | rw [IntWalk.i64_in _ (by omega)]⟩) hS ?_
  simp only [Act.put, List.setIfInBounds_toArray, List.set_cons_zero, List.set_cons_succ, List.getElem_toArray, List.getElem_cons_succ, List.getElem_cons_zero]
  rw [HBII.out]
  refine tkd 26 (.agg #[.slice none 0 0, .int .i64 (bi : Int), .int .i64 (y14 : Int), .int .u8 0, .int .u8 0, .int .u8 0, .int .u8 0, .int .u8 0, .int .u8 0, .int .u8 0, .int .u8 0, .int .u8 0, .int .u8 0, .int .u8 0, .int .u8 0, .int .u8 0, .int .u8 0, .int .u8 0, .int .u8 0, .int .u8 0, .int .u8 0, .int .u8 0, .int .u8 0, .int .u8 0, .int .u8 0, .int .u8 0, .int .u8 0, .int .u8 0, .int .u8 0, .int .u8 0, .int .u8 0, .int .u8 0, .int .u8 0, .int .u8 0, .int .u8 0]) rfl (.inl ⟨by rfl, fun _ _ => by go_simp; rw [← hzlit]; rfl⟩) hS ?_
  simp only [Act.put, List.setIfInBounds_toArray, List.set_cons_zero, List.set_cons_succ, List.getElem_toArray, List.getElem_cons_succ, List.getElem_cons_zero]
  obtain ⟨q0, hq0⟩ : ∃ q : List Value, [.slice none 0 0, .int .i64 (bi : Int), .int .i64 (y14 : Int), .int .u8 0, .int .u8 0, .int .u8 0, .int .u8 0, .int .u8 0, .int .u8 0, .int .u8 0, .int .u8 0, .int .u8 0, .int .u8 0, .int .u8 0, .int .u8 0, .int .u8 0, .int .u8 0, .int .u8 0, .int .u8 0, .int .u8 0, .int .u8 0, .int .u8 0, .int .u8 0, .int .u8 0, .int .u8 0, .int .u8 0, .int .u8 0, .int .u8 0, .int .u8 0, .int .u8 0, .int .u8 0, .int .u8 0, .int .u8 0, .int .u8 0, .int .u8 0] = q := ⟨_, rfl⟩
  have hql : q0.length = 35 := by rw [← hq0]; rfl
  have hqe : q0 = ptCs (.slice none 0 0) ⟨[], (bi : Int), (y14 : Int), zeros32⟩ := by rw [← hq0]; rfl
  have hqo : ∀ u ∈ q0, u.oneCell' = true := by rw [hqe]; exact oneCell_pt _
  rw [show (#[.slice none 0 0, .int .i64 (bi : Int), .int .i64 (y14 : Int), .int .u8 0, .int .u8 0, .int .u8 0, .int .u8 0, .int .u8 0, .int .u8 0, .int .u8 0, .int .u8 0, .int .u8 0, .int .u8 0, .int .u8 0, .int .u8 0, .int .u8 0, .int .u8 0, .int .u8 0, .int .u8 0, .int .u8 0, .int .u8 0, .int .u8 0, .int .u8 0, .int .u8 0, .int .u8 0, .int .u8 0, .int .u8 0, .int .u8 0, .int .u8 0, .int .u8 0, .int .u8 0, .int .u8 0, .int .u8 0, .int .u8 0, .int .u8 0] : Array Value) = q0.toArray by rw [← hq0]]
  obtain ⟨w6, hw6, hk6, hb6, hs6⟩ := alloc_facts w5 zc.toArray 34
  obtain ⟨pb, hpb⟩ : ∃ x, w5.heap.size = x := ⟨_, rfl⟩
  have HPBW : Hid (fb < pb) := Lib.hid (by have := HSW.out; have := (HSE.out _ hS).size; omega)
  rw [hpb] at hb6
  refine wpAnyH_one (k := 27) rfl (by kernel_rfl) ?_
  refine wpList_alloc_at rfl 34 rfl _ hz zc.toArray rfl ?_
  rw [hw6, hpb]
  have hS6 : S w6 := HSI.out _ ((HSE.out _ hS).trans hk6)
  obtain ⟨B, hB⟩ : ∃ x, w6.heap.size = x := ⟨_, rfl⟩
  have hpB : pb < B := by omega
  have hwbp : wb.heap.size ≤ pb := by rw [← hpb]; exact (HSE.out _ hS).size
  clear hS hk6 hs6 hpb hw6 hq0
  refine wpList_nil ?_
  refine ⟨hS6, ?_⟩
  refine wpAnyH_one (k := 28) rfl (by kernel_rfl) ?_
  refine wpList_store_agg rfl 34 (.tmp 4) (.tmp 47) rfl pb 0 q0 rfl rfl zc.toArray 34 hb6 (by rw [hql, List.size_toArray, hzl]; exact Nat.le_refl _) (sizePtL hql) hqo ?_
  intro w7 hb7 hk7
  rw [spl_whole _ _ (by rw [hql, List.size_toArray, hzl]), hqe] at hb7
  have hS7 : S w7 := HSI.out _ ((HSE.out _ hS6).trans' hk7 (U := noBlk) (fun _ _ h => h) (fun i hi e => by omega))
  have HW7 : Hid (RqW w w7 rb fb pb B 0 (.slice none 0 0) ⟨[], (bi : Int), (y14 : Int), zeros32⟩) := Lib.hid (by
    have hk := HSE.out _ hS7
    exact ⟨by rw [HZ.out]; exact hk.blk HRB.out id, hk.blk HFB.out id, hb7, World.ownsRow_nil _ _ _ _, HKB.out.trans hk, by have := HRBE.out; have := HPBW.out; omega, by have := hk7.size; omega⟩)
  clear hS6 hb6 hb7 hk7 hqe
  refine wpList_nil ?_
  refine ⟨hS7, ?_⟩
  refine wpAnyH_done (by kernel_rfl) ?_ _
  clear hS7 HSE HSI HD10 HD11 HD12 HD13 HD14 HPBW hB
  go_wp2_with fail
  go_loopw [5] (fun i wr => ∃ (k ql : Nat) (pa : Option Addr) (pc : Nat), k ≤ 3 ∧ ql ≤ k ∧ i = .int .i64 k ∧ Hid ((adsOf b k).length = ql) ∧ Hid (RqW w wr rb fb pb B ql (.slice pa ql pc) ⟨adsOf b k, (bi : Int), (y14 : Int), zeros32⟩)) (fun i _ => 3 - (intOf i).toNat)
  case atStart => exact ⟨0, 0, none, 0, by omega, by omega, rfl, Lib.hid (by simp [adsOf]), Lib.hid (by
    have e : adsOf b 0 = [] := by simp [adsOf]
    rw [e]
    exact HW7.out)⟩
  case round =>
  clear HW7
  obtain ⟨k, ql, pa, pcp, hk, hqk, rfl, HQL, HW⟩ := hrel
  have hc00 := HBY.out wr HW.out.keep 0 (by omega)
  rw [HMN0.out, Nat.add_zero] at hc00
  have a0 : wr.cell? ⟨pb, 0, none⟩ = some (.slice pa ql pcp) := blk_cell HW.out.pt rfl
  by_cases hgo : k < mn ∧ k < 3
  · obtain ⟨hkm, hk3⟩ := hgo
    have hki : (k : Int) < 3 := by omega
    have hk0 : (0 : Int) ≤ (k : Int) := by omega
    have hmi : (k : Int) < (mn : Int) := by omega
    have hmd : decide ((k : Int) < (mn : Int)) = true := decide_eq_true hmi
    have hkd : decide ((k : Int) < 3) = true := decide_eq_true hki
    obtain ⟨p1, hp1⟩ : ∃ x, 1 + 3 * k = x := ⟨_, rfl⟩
    have hp47 : p1 + 2 < 47 := by omega
    have hpi0 : (0 : Int) ≤ (p1 : Int) := by omega
    have hpi1 : (p1 : Int) < 47 := by omega
    have hpi2 : (p1 : Int) + 1 < 47 := by omega
    have hpi3 : (p1 : Int) + 2 < 47 := by omega
    have hpe1 : 1 + 3 * (k : Int) = (p1 : Int) := by omega
    have hpe2 : 2 + 3 * (k : Int) = ((p1 + 1 : Nat) : Int) := by omega
    have hpe3 : 3 + 3 * (k : Int) = ((p1 + 2 : Nat) : Int) := by omega
    obtain ⟨d, hd⟩ : ∃ x, byN b p1 = x := ⟨_, rfl⟩
    obtain ⟨s1, hs1⟩ : ∃ x, byN b (p1 + 1) = x := ⟨_, rfl⟩
    obtain ⟨s2, hs2⟩ : ∃ x, byN b (p1 + 2) = x := ⟨_, rfl⟩
    have hdb : d < 256 := by rw [← hd]; exact byN_lt _ _
    have hs1b : s1 < 256 := by rw [← hs1]; exact byN_lt _ _
    have hs2b : s2 < 256 := by rw [← hs2]; exact byN_lt _ _
    obtain ⟨s, hs⟩ : ∃ x : Nat, s1 * 256 + s2 = x := ⟨_, rfl⟩
    have hse : 256 * (s1 : Int) + (s2 : Int) = (s : Int) := by omega
    have hsb : s < 65536 := by omega
    have HAD : Hid (adOf b k = ⟨(d : Int), (s : Int)⟩) := Lib.hid (by
      unfold adOf
      rw [hp1, by1 (by rw [HL.out]; omega), by2 (by rw [HL.out]; omega), hd, hs1, show p1 + 1 + 1 = p1 + 2 from rfl, hs2, hs])
    have HD0 := Lib.hid hd; have HS1 := Lib.hid hs1; have HS2 := Lib.hid hs2
    have hbe := buildAd (d : Int) (s : Int)
    have HSE' := Lib.hid hse; have HP1 := Lib.hid hpe1; have HP2 := Lib.hid hpe2; have HP3 := Lib.hid hpe3
    clear hd hs1 hs2 hs hp1 hse
    go_wp2_with fail
    obtain ⟨S, hS0⟩ : ∃ S : World → Prop, S = fun w' => Keep noBlk w w' := ⟨_, rfl⟩
    have HSE := Lib.hid (show ∀ w', S w' → Keep noBlk w w' from fun w' h => by rw [hS0] at h; exact h)
    have HSI := Lib.hid (show ∀ w', Keep noBlk w w' → S w' from fun w' h => by rw [hS0]; exact h)
    have hS : S wr.drew := HSI.out _ HW.out.keep.drew
    have HW := Lib.hid (HW.out.same (Keep.refl noBlk wr).drew)
    have HB1 := Lib.hid (fun w' (h : S w') => (show w'.cell? ⟨g, o + p1, none⟩ = some (.int .u8 (d : Int)) by have c := HBY.out w' (HSE.out w' h) p1 (by omega); rw [HD0.out] at c; exact c))
    have HB2 := Lib.hid (fun w' (h : S w') => (show w'.cell? ⟨g, o + (p1 + 1), none⟩ = some (.int .u8 (s1 : Int)) by have c := HBY.out w' (HSE.out w' h) (p1 + 1) (by omega); rw [HS1.out] at c; exact c))
    have HB3 := Lib.hid (fun w' (h : S w') => (show w'.cell? ⟨g, o + (p1 + 2), none⟩ = some (.int .u8 (s2 : Int)) by have c := HBY.out w' (HSE.out w' h) (p1 + 2) (by omega); rw [HS2.out] at c; exact c))
    clear hS0 a0 hc00
    refine wp_region_held (S := S) (by kernel_rfl) ?_
    change wpAnyH _ _ _ _ _ _ _ _ wr.drew
    generalize wr.drew = w10 at hS HW ⊢
    refine tkb 0 (.pointer (some ⟨pb, 0, none⟩)) rfl hS ?_
    simp only [Act.put, List.setIfInBounds_toArray, List.set_cons_zero, List.set_cons_succ, List.getElem_toArray, List.getElem_cons_zero]
    refine tka 2 (.slice (some ⟨g, o, none⟩) 47 c) rfl hS ?_
    simp only [Act.put, List.setIfInBounds_toArray, List.set_cons_zero, List.set_cons_succ, List.getElem_toArray, List.getElem_cons_succ, List.getElem_cons_zero]
    refine tka 3 (.int .i64 (k : Int)) rfl hS ?_
    simp only [Act.put, List.setIfInBounds_toArray, List.set_cons_zero, List.set_cons_succ, List.getElem_toArray, List.getElem_cons_succ, List.getElem_cons_zero]
    refine tkd 4 (.int .i64 (3 * (k : Int))) rfl (.inl ⟨by rfl, fun _ _ => by go_simp; first | done | rw [IntWalk.i64_in _ (by omega)]⟩) hS ?_
    simp only [Act.put, List.setIfInBounds_toArray, List.set_cons_zero, List.set_cons_succ, List.getElem_toArray, List.getElem_cons_succ, List.getElem_cons_zero]
    refine tkd 5 (.int .i64 (p1 : Int)) rfl (.inl ⟨by rfl, fun _ _ => by have e := HP1.out; go_simp; first | done | (rw [IntWalk.i64_in _ (by omega)]; first | done | omega) | omega⟩) hS ?_
    simp only [Act.put, List.setIfInBounds_toArray, List.set_cons_zero, List.set_cons_succ, List.getElem_toArray, List.getElem_cons_succ, List.getElem_cons_zero]
    refine tkb 6 (.pointer (some ⟨g, o + p1, none⟩)) rfl hS ?_
    simp only [Act.put, List.setIfInBounds_toArray, List.set_cons_zero, List.set_cons_succ, List.getElem_toArray, List.getElem_cons_succ, List.getElem_cons_zero]
    refine tkd 7 (.int .u8 (d : Int)) rfl (.inl ⟨by rfl, fun w' hw' => by have c := HB1.out w' hw'; go_simp⟩) hS ?_
    simp only [Act.put, List.setIfInBounds_toArray, List.set_cons_zero, List.set_cons_succ, List.getElem_toArray, List.getElem_cons_succ, List.getElem_cons_zero]
    refine tkd 8 (.int .i64 (d : Int)) rfl (.inl ⟨by rfl, fun _ _ => by go_simp; first | done | rw [IntWalk.i64_in _ (by omega)]⟩) hS ?_
    simp only [Act.put, List.setIfInBounds_toArray, List.set_cons_zero, List.set_cons_succ, List.getElem_toArray, List.getElem_cons_succ, List.getElem_cons_zero]
    refine tka 9 (.slice (some ⟨g, o, none⟩) 47 c) rfl hS ?_
    simp only [Act.put, List.setIfInBounds_toArray, List.set_cons_zero, List.set_cons_succ, List.getElem_toArray, List.getElem_cons_succ, List.getElem_cons_zero]
    refine tka 10 (.int .i64 (k : Int)) rfl hS ?_
    simp only [Act.put, List.setIfInBounds_toArray, List.set_cons_zero, List.set_cons_succ, List.getElem_toArray, List.getElem_cons_succ, List.getElem_cons_zero]
    refine tkd 11 (.int .i64 (3 * (k : Int))) rfl (.inl ⟨by rfl, fun _ _ => by go_simp; first | done | rw [IntWalk.i64_in _ (by omega)]⟩) hS ?_
    simp only [Act.put, List.setIfInBounds_toArray, List.set_cons_zero, List.set_cons_succ, List.getElem_toArray, List.getElem_cons_succ, List.getElem_cons_zero]
    refine tkd 12 (.int .i64 ((p1 + 1 : Nat) : Int)) rfl (.inl ⟨by rfl, fun _ _ => by have e := HP2.out; go_simp; first | done | (rw [IntWalk.i64_in _ (by omega)]; first | done | omega) | omega⟩) hS ?_
    simp only [Act.put, List.setIfInBounds_toArray, List.set_cons_zero, List.set_cons_succ, List.getElem_toArray, List.getElem_cons_succ, List.getElem_cons_zero]
    refine tkd 13 (.pointer (some ⟨g, o + (p1 + 1), none⟩)) rfl (.inl ⟨by rfl, fun _ _ => by go_simp; first | done | rfl | omega⟩) hS ?_
    simp only [Act.put, List.setIfInBounds_toArray, List.set_cons_zero, List.set_cons_succ, List.getElem_toArray, List.getElem_cons_succ, List.getElem_cons_zero]
    refine tkd 14 (.int .u8 (s1 : Int)) rfl (.inl ⟨by rfl, fun w' hw' => by have c := HB2.out w' hw'; go_simp⟩) hS ?_
    simp only [Act.put, List.setIfInBounds_toArray, List.set_cons_zero, List.set_cons_succ, List.getElem_toArray, List.getElem_cons_succ, List.getElem_cons_zero]
    refine tkd 15 (.int .i64 (s1 : Int)) rfl (.inl ⟨by rfl, fun _ _ => by go_simp; first | done | rw [IntWalk.i64_in _ (by omega)]⟩) hS ?_
    simp only [Act.put, List.setIfInBounds_toArray, List.set_cons_zero, List.set_cons_succ, List.getElem_toArray, List.getElem_cons_succ, List.getElem_cons_zero]
    refine tkd 16 (.int .i64 (256 * (s1 : Int))) rfl (.inl ⟨by rfl, fun _ _ => by go_simp; first | done | rw [IntWalk.i64_in _ (by omega)]⟩) hS ?_
    simp only [Act.put, List.setIfInBounds_toArray, List.set_cons_zero, List.set_cons_succ, List.getElem_toArray, List.getElem_cons_succ, List.getElem_cons_zero]
    refine tka 17 (.slice (some ⟨g, o, none⟩) 47 c) rfl hS ?_
    simp only [Act.put, List.setIfInBounds_toArray, List.set_cons_zero, List.set_cons_succ, List.getElem_toArray, List.getElem_cons_succ, List.getElem_cons_zero]
    refine tka 18 (.int .i64 (k : Int)) rfl hS ?_
    simp only [Act.put, List.setIfInBounds_toArray, List.set_cons_zero, List.set_cons_succ, List.getElem_toArray, List.getElem_cons_succ, List.getElem_cons_zero]
    refine tkd 19 (.int .i64 (3 * (k : Int))) rfl (.inl ⟨by rfl, fun _ _ => by go_simp; first | done | rw [IntWalk.i64_in _ (by omega)]⟩) hS ?_
    simp only [Act.put, List.setIfInBounds_toArray, List.set_cons_zero, List.set_cons_succ, List.getElem_toArray, List.getElem_cons_succ, List.getElem_cons_zero]
    refine tkd 20 (.int .i64 ((p1 + 2 : Nat) : Int)) rfl (.inl ⟨by rfl, fun _ _ => by have e := HP3.out; go_simp; first | done | (rw [IntWalk.i64_in _ (by omega)]; first | done | omega) | omega⟩) hS ?_
    simp only [Act.put, List.setIfInBounds_toArray, List.set_cons_zero, List.set_cons_succ, List.getElem_toArray, List.getElem_cons_succ, List.getElem_cons_zero]
    refine tkd 21 (.pointer (some ⟨g, o + (p1 + 2), none⟩)) rfl (.inl ⟨by rfl, fun _ _ => by go_simp; first | done | rfl | omega⟩) hS ?_
    simp only [Act.put, List.setIfInBounds_toArray, List.set_cons_zero, List.set_cons_succ, List.getElem_toArray, List.getElem_cons_succ, List.getElem_cons_zero]
    refine tkd 22 (.int .u8 (s2 : Int)) rfl (.inl ⟨by rfl, fun w' hw' => by have c := HB3.out w' hw'; go_simp⟩) hS ?_
    simp only [Act.put, List.setIfInBounds_toArray, List.set_cons_zero, List.set_cons_succ, List.getElem_toArray, List.getElem_cons_succ, List.getElem_cons_zero]
    refine tkd 23 (.int .i64 (s2 : Int)) rfl (.inl ⟨by rfl, fun _ _ => by go_simp; first | done | rw [IntWalk.i64_in _ (by omega)]⟩) hS ?_
    simp only [Act.put, List.setIfInBounds_toArray, List.set_cons_zero, List.set_cons_succ, List.getElem_toArray, List.getElem_cons_succ, List.getElem_cons_zero]
    refine tkd 24 (.int .i64 (s : Int)) rfl (.inl ⟨by rfl, fun _ _ => by have e := HSE'.out; go_simp; first | done | rw [IntWalk.i64_in _ (by omega)]⟩) hS ?_
    simp only [Act.put, List.setIfInBounds_toArray, List.set_cons_zero, List.set_cons_succ, List.getElem_toArray, List.getElem_cons_succ, List.getElem_cons_zero]
    refine tkd 25 (.agg (adCs ⟨(d : Int), (s : Int)⟩).toArray) rfl (.inl ⟨by rfl, fun w' _ => by have hb := hbe w'; go_simp; rfl⟩) hS ?_
    simp only [Act.put, List.setIfInBounds_toArray, List.set_cons_zero, List.set_cons_succ, List.getElem_toArray, List.getElem_cons_succ, List.getElem_cons_zero]
    obtain ⟨w11, hw11, hk11, hb11, hs11⟩ := alloc_facts w10 (adCs ⟨(d : Int), (s : Int)⟩).toArray 70
    obtain ⟨bx, hbx⟩ : ∃ x, w10.heap.size = x := ⟨_, rfl⟩
    rw [hbx] at hb11
    have HRN : Hid (Rd w11 2 (.slice (some ⟨bx, 0, none⟩) 1 1) 1 (adCs ⟨(d : Int), (s : Int)⟩)) := Lib.hid (rd_blk (n := 1) (size := 2) (vs := adCs ⟨(d : Int), (s : Int)⟩) hb11 rfl (by unfold maxLen; omega))
    have HW11 := Lib.hid (HW.out.same hk11)
    have hS11 : S w11 := HSI.out _ ((HSE.out _ hS).trans hk11)
    have a10 : w10.cell? ⟨pb, 0, none⟩ = some (.slice pa ql pcp) := blk_cell HW.out.pt rfl
    have a11 : w11.cell? ⟨pb, 0, none⟩ = some (.slice pa ql pcp) := blk_cell HW11.out.pt rfl
    have HA10 := Lib.hid a10; have HA11 := Lib.hid a11
    clear hk11 hb11 hs11 HB1 HB2 HB3 HD0 HS1 HS2 a10 a11
    refine wpAnyH_two (k := 1) (l := 26) rfl rfl (by kernel_rfl) ?_ ?_
    · have c := HA10.out
      go_wp2_with fail
      refine ⟨hS, ?_⟩
      refine wpAnyH_one (k := 26) rfl (by kernel_rfl) ?_
      refine wpList_build_one rfl 30 70 (.tmp 85) rfl Tryz.underlying30 infoAd (by decide) (adCs ⟨(d : Int), (s : Int)⟩) rfl (by decide) rfl ?_
      rw [hw11, hbx]
      clear hw11 hbx hS
      refine wpList_nil ?_
      refine ⟨hS11, ?_⟩
      refine wpAnyH_one (k := 27) rfl (by kernel_rfl) ?_
      refine wpList_append_rd rfl (.tmp 61) (.tmp 86) 30 rfl B 70 zeroAd 2 16 Tryz.underlying30 infoAd rfl (by decide) (.slice pa ql pcp) ql (adCells (adsOf b k)) rfl HW11.out.row (.slice (some ⟨bx, 0, none⟩) 1 1) 1 (adCs ⟨(d : Int), (s : Int)⟩) rfl HRN.out (oneCell_ad _) (by unfold maxLen; omega) (by omega) HW11.out.sz ?_
      intro v' w12 ho5 hk5 hn5 hb5
      obtain ⟨va, vc, rfl, -, -⟩ := (Rd.of_owns ho5).form
      have hp12 := hk5.blk HW11.out.pt (fun e => by have := owns_base HW11.out.row e; have := HW11.out.ord; omega)
      have hS12 : S w12 := HSI.out _ ((HSE.out _ hS11).trans' hk5 (U := noBlk) (fun _ _ h => h) (fun i hi e => by have := owns_base HW11.out.row e; have := HW11.out.ord; omega))
      have HP12 := Lib.hid hp12; have HK12 := Lib.hid hk5
      have HO12 : Hid (w12.ownsRow B 70 2 (.slice va (ql + 1) vc) (ql + 1) (adCells (adsOf b (k + 1)))) := Lib.hid (by
        rw [adsOf_succ, if_pos (by rw [HMN.out]; exact hkm), HAD.out, adCells_append, adCells_one]
        exact ho5)
      clear ho5 hk5 hn5 hb5 hp12 hS11 HA10 HA11
      refine wpList_nil ?_
      refine ⟨hS12, ?_⟩
      refine tkb 28 (.pointer (some ⟨pb, 0, none⟩)) rfl hS12 ?_
      simp only [Act.put, List.setIfInBounds_toArray, List.set_cons_zero, List.set_cons_succ, List.getElem_toArray, List.getElem_cons_succ, List.getElem_cons_zero]
      refine wpAnyH_one (k := 29) rfl (by kernel_rfl) ?_
      have hcc7 : w12.cell? ⟨pb, 0, none⟩ = some (.slice pa ql pcp) := blk_cell HP12.out rfl
      have hcf7 := blk_free HP12.out 0
      go_wp2_with fail
      have hkk : Keep (fun i => i = pb) w12 (w12.setCell ⟨pb, 0, none⟩ (.slice va (ql + 1) vc)) := (Keep.refl (fun i => i = pb) w12).setCell (p := ⟨pb, 0, none⟩) (fun _ => rfl) _
      have HW13 : Hid (RqW w (w12.setCell ⟨pb, 0, none⟩ (.slice va (ql + 1) vc)) rb fb pb B (ql + 1) (.slice va (ql + 1) vc) ⟨adsOf b (k + 1), (bi : Int), (y14 : Int), zeros32⟩) := Lib.hid (by
        refine HW11.out.put ?_ (hkk.owns HO12.out (fun i hi e => by have := owns_base HO12.out hi; have := HW11.out.ord; omega)) ((HK12.out.mono (fun _ _ h => .inr h)).trans' hkk (fun _ _ h => h) (fun i hi e => .inl e))
        rw [set_blk HP12.out, ptCs_set0 _ _ _ (adsOf b (k + 1))])
      have HQ8 : Hid ((adsOf b (k + 1)).length = ql + 1) := Lib.hid (by rw [adsOf_succ, if_pos (by rw [HMN.out]; exact hkm), List.length_append, HQL.out]; rfl)
      refine ⟨HSI.out _ HW13.out.keep, ?_⟩
      refine wpAnyH_done (by kernel_rfl) ?_ _
      clear hcc7 hcf7 hkk hS12 HP12 HK12 HO12 HSE HSI
      go_wp2_with fail
      go_roundw
      case rel => exact ⟨k + 1, ql + 1, va, vc, by omega, by omega, by go_num, HQ8, HW13⟩
      case measure => simp [intOf]; omega
    · refine wpList_build_one rfl 30 70 (.tmp 85) rfl Tryz.underlying30 infoAd (by decide) (adCs ⟨(d : Int), (s : Int)⟩) rfl (by decide) rfl ?_
      rw [hw11, hbx]
      clear hw11 hbx hS
      refine wpList_nil ?_
      refine ⟨hS11, ?_⟩
      refine wpAnyH_one (k := 1) rfl (by kernel_rfl) ?_
      have c := HA11.out
      go_wp2_with fail
      refine ⟨hS11, ?_⟩
      refine wpAnyH_one (k := 27) rfl (by kernel_rfl) ?_
      refine wpList_append_rd rfl (.tmp 61) (.tmp 86) 30 rfl B 70 zeroAd 2 16 Tryz.underlying30 infoAd rfl (by decide) (.slice pa ql pcp) ql (adCells (adsOf b k)) rfl HW11.out.row (.slice (some ⟨bx, 0, none⟩) 1 1) 1 (adCs ⟨(d : Int), (s : Int)⟩) rfl HRN.out (oneCell_ad _) (by unfold maxLen; omega) (by omega) HW11.out.sz ?_
      intro v' w12 ho5 hk5 hn5 hb5
      obtain ⟨va, vc, rfl, -, -⟩ := (Rd.of_owns ho5).form
      have hp12 := hk5.blk HW11.out.pt (fun e => by have := owns_base HW11.out.row e; have := HW11.out.ord; omega)
      have hS12 : S w12 := HSI.out _ ((HSE.out _ hS11).trans' hk5 (U := noBlk) (fun _ _ h => h) (fun i hi e => by have := owns_base HW11.out.row e; have := HW11.out.ord; omega))
      have HP12 := Lib.hid hp12; have HK12 := Lib.hid hk5
      have HO12 : Hid (w12.ownsRow B 70 2 (.slice va (ql + 1) vc) (ql + 1) (adCells (adsOf b (k + 1)))) := Lib.hid (by
        rw [adsOf_succ, if_pos (by rw [HMN.out]; exact hkm), HAD.out, adCells_append, adCells_one]
        exact ho5)
      clear ho5 hk5 hn5 hb5 hp12 hS11 HA10 HA11
      refine wpList_nil ?_
      refine ⟨hS12, ?_⟩
      refine tkb 28 (.pointer (some ⟨pb, 0, none⟩)) rfl hS12 ?_
      simp only [Act.put, List.setIfInBounds_toArray, List.set_cons_zero, List.set_cons_succ, List.getElem_toArray, List.getElem_cons_succ, List.getElem_cons_zero]
      refine wpAnyH_one (k := 29) rfl (by kernel_rfl) ?_
      have hcc7 : w12.cell? ⟨pb, 0, none⟩ = some (.slice pa ql pcp) := blk_cell HP12.out rfl
      have hcf7 := blk_free HP12.out 0
      go_wp2_with fail
      have hkk : Keep (fun i => i = pb) w12 (w12.setCell ⟨pb, 0, none⟩ (.slice va (ql + 1) vc)) := (Keep.refl (fun i => i = pb) w12).setCell (p := ⟨pb, 0, none⟩) (fun _ => rfl) _
      have HW13 : Hid (RqW w (w12.setCell ⟨pb, 0, none⟩ (.slice va (ql + 1) vc)) rb fb pb B (ql + 1) (.slice va (ql + 1) vc) ⟨adsOf b (k + 1), (bi : Int), (y14 : Int), zeros32⟩) := Lib.hid (by
        refine HW11.out.put ?_ (hkk.owns HO12.out (fun i hi e => by have := owns_base HO12.out hi; have := HW11.out.ord; omega)) ((HK12.out.mono (fun _ _ h => .inr h)).trans' hkk (fun _ _ h => h) (fun i hi e => .inl e))
        rw [set_blk HP12.out, ptCs_set0 _ _ _ (adsOf b (k + 1))])
      have HQ8 : Hid ((adsOf b (k + 1)).length = ql + 1) := Lib.hid (by rw [adsOf_succ, if_pos (by rw [HMN.out]; exact hkm), List.length_append, HQL.out]; rfl)
      refine ⟨HSI.out _ HW13.out.keep, ?_⟩
      refine wpAnyH_done (by kernel_rfl) ?_ _
      clear hcc7 hcf7 hkk hS12 HP12 HK12 HO12 HSE HSI
      go_wp2_with fail
      go_roundw
      case rel => exact ⟨k + 1, ql + 1, va, vc, by omega, by omega, by go_num, HQ8, HW13⟩
      case measure => simp [intOf]; omega
  · by_cases hkm : k < mn
    · have hk3 : ¬ (k : Int) < 3 := by omega
      have hmi : (k : Int) < (mn : Int) := by omega
      have hmd : decide ((k : Int) < (mn : Int)) = true := decide_eq_true hmi
      have hkd : decide ((k : Int) < 3) = false := decide_eq_false hk3
      go_wp2_with fail
      have HW0 : Hid (RqW w wr rb fb pb B ql (.slice pa ql pcp) ⟨adsOf b 3, (bi : Int), (y14 : Int), mixS b 0⟩) := Lib.hid (by
        have e : mixS b 0 = zeros32 := by simp [mixS, zeros32]
        have e2 : adsOf b k = adsOf b 3 := adsOf_over hk (by rw [HMN.out]; exact hgo)
        rw [e, ← e2]
        exact HW.out)
      have HQ3 : Hid ((adsOf b 3).length = ql) := Lib.hid (by rw [← adsOf_over hk (by rw [HMN.out]; exact hgo)]; exact HQL.out)
      clear a0 hc00 HW HQL
      go_loopw [6] (fun i wr => ∃ j : Nat, j ≤ 32 ∧ i = .int .i64 j ∧ Hid (RqW w wr rb fb pb B ql (.slice pa ql pcp) ⟨adsOf b 3, (bi : Int), (y14 : Int), mixS b j⟩)) (fun i _ => 32 - (intOf i).toNat)
      case atStart => exact ⟨0, by omega, rfl, HW0⟩
      case round =>
      clear HW0
      obtain ⟨j, hj, rfl, HW⟩ := hrel
      by_cases hj32 : j < 32
      · have hji : (j : Int) < 32 := by omega
        have hj0 : (0 : Int) ≤ (j : Int) := by omega
        obtain ⟨p2, hp2⟩ : ∃ x, 15 + j = x := ⟨_, rfl⟩
        have hpe : 15 + (j : Int) = (p2 : Int) := by omega
        have hpi : (p2 : Int) < 47 := by omega
        have hpi0 : (0 : Int) ≤ (p2 : Int) := by omega
        obtain ⟨y, hy⟩ : ∃ x, byN b p2 = x := ⟨_, rfl⟩
        have cy := HBY.out wr HW.out.keep p2 (by omega)
        rw [hy] at cy
        have HYB : Hid (Value.int .u8 (y : Int) = vb (b.getD (15 + j) 0)) := Lib.hid (by rw [hp2, ← hy]; rfl)
        have hkc : ∃ u, (ptCs (.slice pa ql pcp) ⟨adsOf b 3, (bi : Int), (y14 : Int), mixS b j⟩).toArray[3 + j]? = some u := by
          rw [List.getElem?_toArray]
          exact ⟨_, List.getElem?_eq_getElem (i := 3 + j) (by rw [ptCs_len (p := ⟨adsOf b 3, (bi : Int), (y14 : Int), mixS b j⟩) (mixS_len HL.out hj)]; omega)⟩
        obtain ⟨u, hku⟩ := hkc
        have k0 := blk_cell HW.out.pt hku
        have kf := blk_free HW.out.pt (3 + j)
        have HW2 : Hid (RqW w (wr.setCell ⟨pb, 3 + j, none⟩ (.int .u8 (y : Int))) rb fb pb B ql (.slice pa ql pcp) ⟨adsOf b 3, (bi : Int), (y14 : Int), mixS b (j + 1)⟩) := Lib.hid (by
          have hkk : Keep (fun i => i = pb) wr (wr.setCell ⟨pb, 3 + j, none⟩ (.int .u8 (y : Int))) := (Keep.refl (fun i => i = pb) wr).setCell (p := ⟨pb, 3 + j, none⟩) (fun _ => rfl) _
          refine HW.out.put ?_ (hkk.owns HW.out.row (fun i hi e => by have := owns_base HW.out.row hi; have := HW.out.ord; omega)) (hkk.mono (fun _ _ h => .inl h))
          rw [set_blk HW.out.pt, HYB.out, ptCs_setS, mixS_set HL.out hj32])
        clear hp2 hy hku
        go_wp2_with fail
        go_roundw
        case rel => exact ⟨j + 1, by omega, by go_num, HW2⟩
        case measure => simp [intOf]; omega
      · obtain rfl : j = 32 := by omega
        have HSB : Hid ((b.drop 15).length = 32) := Lib.hid (by rw [List.length_drop, HL.out])
        have HW7 : Hid (RqW w wr rb fb pb B ql (.slice pa ql pcp) (ptOf b)) := Lib.hid (by
          have e : mixS b 32 = b.drop 15 := by
            unfold mixS
            rw [List.take_of_length_le (by rw [HSB.out]; exact Nat.le_refl _)]
            simp
          have e2 : ptOf b = ⟨adsOf b 3, (bi : Int), (y14 : Int), b.drop 15⟩ := by unfold ptOf; rw [HBI.out, HLE.out]
          rw [e2, ← e]
          exact HW.out)
        have HPV : Hid (PtV wr (.slice pa ql pcp) (ptOf b)) := Lib.hid ⟨by
          have h := Rd.of_owns HW7.out.row
          have e : (ptOf b).addrs.length = ql := HQ3.out
          rw [e]
          exact h, adsOf_ok b 3, HSB.out⟩
        have HRO := Lib.hid (rangeAt_whole HW7.out.pt)
        obtain ⟨pc, hpc⟩ : ∃ x, ptCs (.slice pa ql pcp) (ptOf b) = x := ⟨_, rfl⟩
        have hpl : pc.length = 35 := by rw [← hpc]; exact ptCs_len HSB.out
        have pco : ∀ u ∈ pc, u.oneCell' = true := by rw [← hpc]; exact oneCell_pt _
        have HPC := Lib.hid hpc
        have HBT := Lib.hid (rbytes_any wr _ _ HPV.out)
        rw [hpc] at HRO HBT
        obtain ⟨t, ht⟩ : ∃ t, (ptOf b).may = t := ⟨_, rfl⟩
        have HT := Lib.hid ht
        clear hpc ht HW
        go_wp2_with (first
          | ((with_reducible show wpList _ _ _ (⟨_, .load 34 (.tmp 4), _, _, _, _⟩ :: _) _ _); refine wpList_load_mid rfl 34 (.tmp 4) rfl (pb) 0 rfl pc _ HRO.out ptUnder rfl (sizePtL hpl) ?_))
        refine HBT.out.mono ?_
        rintro e w8 ⟨v8, rfl, ho8, hk8⟩
        have HW8 := Lib.hid (HW7.out.same hk8)
        have hrx := Rd.of_owns ho8
        have hk1 := conv_rd hrx
        have hk2 := conv_rd (show Rd w8 1 (.slice (some ⟨g, o, none⟩) 47 c) b.length (b.map vb) by rw [HL.out]; exact HRD.out w8 HW8.out.keep)
        obtain ⟨xa, xc, rfl, -, -⟩ := hrx.form
        have HRO := Lib.hid (rangeAt_whole HW8.out.pt)
        rw [HPC.out] at HRO
        rw [HT.out]
        have hrs := HW8.out.res
        rw [HZ.out] at hrs
        have HRS := Lib.hid hrs; have HFS := Lib.hid HW8.out.flt
        clear ho8 hk8 hrx HBT HW7 hrs
        have hbf2 := fun w => buildFault0 w 2
        have herr : ∀ w6 w5, Keep (fun i => i = rb) w8 w5 → Keep (fun i => i = fb) w5 w6 → readB b = false → ReadFPost w b (.returned (.tuple #[.agg (ptCs (.slice none 0 0) zPt).toArray, .agg #[.int .i64 2, .int .i64 0]])) w6 := fun w6 w5 h1 h2 h3 =>
          ⟨(HW8.out.keep.trans' h1 (U := noBlk) (fun _ _ h => h) (fun i hi e => by have := HW8.out.ord; omega)).trans' h2 (fun _ _ h => h) (fun i hi e => by have := HW8.out.ord; omega), by
            rw [h3, if_neg (by decide)]
            unfold readE
            rw [if_pos HL.out]⟩
        have HERR := Lib.hid herr
        clear herr
        cases t
        · have HF : Hid (readB b = false) := Lib.hid (by unfold readB; rw [HT.out]; simp)
          go_wp2_with (first
            | ((with_reducible show wpList _ _ _ (⟨none, .store 34 (.tmp 2) (.tmp 115), _, _, _, _⟩ :: _) _ _); refine wpList_store_agg rfl 34 (.tmp 2) (.tmp 115) rfl rb 0 zc rfl rfl zc.toArray 34 HRS.out (by rw [hzl, List.size_toArray, hzl]; exact Nat.le_refl _) (sizePtL hzl) zco ?_; intro w9 hb5 hk5; rw [spl_whole _ _ (by rw [hzl, List.size_toArray, hzl])] at hb5; have HF5 := Lib.hid (hk5.blk HFS.out (by omega)); have HB5 := Lib.hid hb5; have HK5 := Lib.hid hk5; clear hb5 hk5)
            | ((with_reducible show wpList _ _ _ (⟨none, .store 115 (.tmp 3) (.tmp 116), _, _, _, _⟩ :: _) _ _); refine wpList_store_agg rfl 115 (.tmp 3) (.tmp 116) rfl fb 0 [.int .i64 (2), .int .i64 (0)] rfl rfl #[.int .i64 0, .int .i64 0] 115 HF5.out (Nat.le_refl _) sizeFault (by simp [Value.oneCell']) ?_; intro w12 hb6 hk6; rw [spl_whole _ _ (by rfl)] at hb6; have HB6 := Lib.hid (hk6.blk HB5.out (by omega)); have HF6 := Lib.hid hb6; have HK6 := Lib.hid hk6; clear hb6 hk6))
          refine bodyPost_ret (results_cells2 rfl _ _ rb fb _ _ _ _ _ _ _ _ rfl HB6.out ptUnder rfl (by rw [List.size_toArray, hzl]; exact sizePt) rfl HF6.out Tryz.underlying115 rfl sizeFault) rfl ?_
          have h := HERR.out _ _ HK5.out HK6.out HF.out
          rw [HZ.out] at h
          exact h
        · obtain ⟨u, hu⟩ : ∃ u, decide (ptB (ptOf b) = b) = u := ⟨_, rfl⟩
          have HU := Lib.hid hu
          have hcmp : ((strB (ptB (ptOf b))).toList == (strB b).toList) = u := by rw [strB_eq]; exact hu
          have hcmp2 : ((strB (ptB (ptOf b))).toList != (strB b).toList) = !u := by simp only [bne, hcmp]
          clear hu
          cases u
          · have HF : Hid (readB b = false) := Lib.hid (by unfold readB; rw [HU.out]; simp)
            go_wp2_with (first
              | ((with_reducible show wpList _ _ _ (⟨none, .store 34 (.tmp 2) (.tmp 115), _, _, _, _⟩ :: _) _ _); refine wpList_store_agg rfl 34 (.tmp 2) (.tmp 115) rfl rb 0 zc rfl rfl zc.toArray 34 HRS.out (by rw [hzl, List.size_toArray, hzl]; exact Nat.le_refl _) (sizePtL hzl) zco ?_; intro w9 hb5 hk5; rw [spl_whole _ _ (by rw [hzl, List.size_toArray, hzl])] at hb5; have HF5 := Lib.hid (hk5.blk HFS.out (by omega)); have HB5 := Lib.hid hb5; have HK5 := Lib.hid hk5; clear hb5 hk5)
              | ((with_reducible show wpList _ _ _ (⟨none, .store 115 (.tmp 3) (.tmp 116), _, _, _, _⟩ :: _) _ _); refine wpList_store_agg rfl 115 (.tmp 3) (.tmp 116) rfl fb 0 [.int .i64 (2), .int .i64 (0)] rfl rfl #[.int .i64 0, .int .i64 0] 115 HF5.out (Nat.le_refl _) sizeFault (by simp [Value.oneCell']) ?_; intro w12 hb6 hk6; rw [spl_whole _ _ (by rfl)] at hb6; have HB6 := Lib.hid (hk6.blk HB5.out (by omega)); have HF6 := Lib.hid hb6; have HK6 := Lib.hid hk6; clear hb6 hk6))
            refine bodyPost_ret (results_cells2 rfl _ _ rb fb _ _ _ _ _ _ _ _ rfl HB6.out ptUnder rfl (by rw [List.size_toArray, hzl]; exact sizePt) rfl HF6.out Tryz.underlying115 rfl sizeFault) rfl ?_
            have h := HERR.out _ _ HK5.out HK6.out HF.out
            rw [HZ.out] at h
            exact h
          · go_wp2_with (first
              | ((with_reducible show wpList _ _ _ (⟨_, .load 34 (.tmp 4), _, _, _, _⟩ :: _) _ _); refine wpList_load_mid rfl 34 (.tmp 4) rfl (pb) 0 rfl pc _ HRO.out ptUnder rfl (sizePtL hpl) ?_)
              | ((with_reducible show wpList _ _ _ (⟨none, .store 34 (.tmp 2) (.tmp 117), _, _, _, _⟩ :: _) _ _); refine wpList_store_agg rfl 34 (.tmp 2) (.tmp 117) rfl rb 0 pc rfl rfl zc.toArray 34 HRS.out (by rw [hpl, List.size_toArray, hzl]; exact Nat.le_refl _) (sizePtL hpl) pco ?_; intro w9 hb5 hk5; rw [spl_whole _ _ (by rw [hpl, List.size_toArray, hzl])] at hb5; have HF5 := Lib.hid (hk5.blk HFS.out (by omega)); have HB5 := Lib.hid hb5; have HK5 := Lib.hid hk5; clear hb5 hk5)
              | ((with_reducible show wpList _ _ _ (⟨none, .store 115 (.tmp 3) (.tmp 118), _, _, _, _⟩ :: _) _ _); refine wpList_store_agg rfl 115 (.tmp 3) (.tmp 118) rfl fb 0 [.int .i64 (0), .int .i64 (0)] rfl rfl #[.int .i64 0, .int .i64 0] 115 HF5.out (Nat.le_refl _) sizeFault (by simp [Value.oneCell']) ?_; intro w12 hb6 hk6; rw [spl_whole _ _ (by rfl)] at hb6; have HB6 := Lib.hid (hk6.blk HB5.out (by omega)); have HF6 := Lib.hid hb6; have HK6 := Lib.hid hk6; clear hb6 hk6))
            refine bodyPost_ret (results_cells2 rfl _ _ rb fb _ _ _ _ _ _ _ _ rfl HB6.out ptUnder rfl (by rw [List.size_toArray, hpl]; exact sizePt) rfl HF6.out Tryz.underlying115 rfl sizeFault) rfl ?_
            refine ⟨(HW8.out.keep.trans' HK5.out (U := noBlk) (fun _ _ h => h) (fun i hi e => by have := HW8.out.ord; omega)).trans' HK6.out (fun _ _ h => h) (fun i hi e => by have := HW8.out.ord; omega), ?_⟩
            rw [if_pos (by unfold readB; rw [HL.out, HT.out, HU.out]; rfl)]
            refine ⟨_, by rw [HPC.out], ?_⟩
            have e : (ptOf b).addrs.length = ql := HQ3.out
            rw [e]
            have h5 := HK5.out.owns HW8.out.row (fun i hi e => by have := owns_base HW8.out.row hi; have := HW8.out.ord; omega)
            exact ownsRow_mono (HK6.out.owns h5 (fun i hi e => by have := owns_base HW8.out.row hi; have := HW8.out.ord; omega)) (by have := HW8.out.ord; omega)
    · have hmi : ¬ (k : Int) < (mn : Int) := by omega
      have hmd : decide ((k : Int) < (mn : Int)) = false := decide_eq_false hmi
      go_wp2_with fail
      have HW0 : Hid (RqW w wr rb fb pb B ql (.slice pa ql pcp) ⟨adsOf b 3, (bi : Int), (y14 : Int), mixS b 0⟩) := Lib.hid (by
        have e : mixS b 0 = zeros32 := by simp [mixS, zeros32]
        have e2 : adsOf b k = adsOf b 3 := adsOf_over hk (by rw [HMN.out]; exact hgo)
        rw [e, ← e2]
        exact HW.out)
      have HQ3 : Hid ((adsOf b 3).length = ql) := Lib.hid (by rw [← adsOf_over hk (by rw [HMN.out]; exact hgo)]; exact HQL.out)
      clear a0 hc00 HW HQL
      go_loopw [6] (fun i wr => ∃ j : Nat, j ≤ 32 ∧ i = .int .i64 j ∧ Hid (RqW w wr rb fb pb B ql (.slice pa ql pcp) ⟨adsOf b 3, (bi : Int), (y14 : Int), mixS b j⟩)) (fun i _ => 32 - (intOf i).toNat)
      case atStart => exact ⟨0, by omega, rfl, HW0⟩
      case round =>
      clear HW0
      obtain ⟨j, hj, rfl, HW⟩ := hrel
      by_cases hj32 : j < 32
      · have hji : (j : Int) < 32 := by omega
        have hj0 : (0 : Int) ≤ (j : Int) := by omega
        obtain ⟨p2, hp2⟩ : ∃ x, 15 + j = x := ⟨_, rfl⟩
        have hpe : 15 + (j : Int) = (p2 : Int) := by omega
        have hpi : (p2 : Int) < 47 := by omega
        have hpi0 : (0 : Int) ≤ (p2 : Int) := by omega
        obtain ⟨y, hy⟩ : ∃ x, byN b p2 = x := ⟨_, rfl⟩
        have cy := HBY.out wr HW.out.keep p2 (by omega)
        rw [hy] at cy
        have HYB : Hid (Value.int .u8 (y : Int) = vb (b.getD (15 + j) 0)) := Lib.hid (by rw [hp2, ← hy]; rfl)
        have hkc : ∃ u, (ptCs (.slice pa ql pcp) ⟨adsOf b 3, (bi : Int), (y14 : Int), mixS b j⟩).toArray[3 + j]? = some u := by
          rw [List.getElem?_toArray]
          exact ⟨_, List.getElem?_eq_getElem (i := 3 + j) (by rw [ptCs_len (p := ⟨adsOf b 3, (bi : Int), (y14 : Int), mixS b j⟩) (mixS_len HL.out hj)]; omega)⟩
        obtain ⟨u, hku⟩ := hkc
        have k0 := blk_cell HW.out.pt hku
        have kf := blk_free HW.out.pt (3 + j)
        have HW2 : Hid (RqW w (wr.setCell ⟨pb, 3 + j, none⟩ (.int .u8 (y : Int))) rb fb pb B ql (.slice pa ql pcp) ⟨adsOf b 3, (bi : Int), (y14 : Int), mixS b (j + 1)⟩) := Lib.hid (by
          have hkk : Keep (fun i => i = pb) wr (wr.setCell ⟨pb, 3 + j, none⟩ (.int .u8 (y : Int))) := (Keep.refl (fun i => i = pb) wr).setCell (p := ⟨pb, 3 + j, none⟩) (fun _ => rfl) _
          refine HW.out.put ?_ (hkk.owns HW.out.row (fun i hi e => by have := owns_base HW.out.row hi; have := HW.out.ord; omega)) (hkk.mono (fun _ _ h => .inl h))
          rw [set_blk HW.out.pt, HYB.out, ptCs_setS, mixS_set HL.out hj32])
        clear hp2 hy hku
        go_wp2_with fail
        go_roundw
        case rel => exact ⟨j + 1, by omega, by go_num, HW2⟩
        case measure => simp [intOf]; omega
      · obtain rfl : j = 32 := by omega
        have HSB : Hid ((b.drop 15).length = 32) := Lib.hid (by rw [List.length_drop, HL.out])
        have HW7 : Hid (RqW w wr rb fb pb B ql (.slice pa ql pcp) (ptOf b)) := Lib.hid (by
          have e : mixS b 32 = b.drop 15 := by
            unfold mixS
            rw [List.take_of_length_le (by rw [HSB.out]; exact Nat.le_refl _)]
            simp
          have e2 : ptOf b = ⟨adsOf b 3, (bi : Int), (y14 : Int), b.drop 15⟩ := by unfold ptOf; rw [HBI.out, HLE.out]
          rw [e2, ← e]
          exact HW.out)
        have HPV : Hid (PtV wr (.slice pa ql pcp) (ptOf b)) := Lib.hid ⟨by
          have h := Rd.of_owns HW7.out.row
          have e : (ptOf b).addrs.length = ql := HQ3.out
          rw [e]
          exact h, adsOf_ok b 3, HSB.out⟩
        have HRO := Lib.hid (rangeAt_whole HW7.out.pt)
        obtain ⟨pc, hpc⟩ : ∃ x, ptCs (.slice pa ql pcp) (ptOf b) = x := ⟨_, rfl⟩
        have hpl : pc.length = 35 := by rw [← hpc]; exact ptCs_len HSB.out
        have pco : ∀ u ∈ pc, u.oneCell' = true := by rw [← hpc]; exact oneCell_pt _
        have HPC := Lib.hid hpc
        have HBT := Lib.hid (rbytes_any wr _ _ HPV.out)
        rw [hpc] at HRO HBT
        obtain ⟨t, ht⟩ : ∃ t, (ptOf b).may = t := ⟨_, rfl⟩
        have HT := Lib.hid ht
        clear hpc ht HW
        go_wp2_with (first
          | ((with_reducible show wpList _ _ _ (⟨_, .load 34 (.tmp 4), _, _, _, _⟩ :: _) _ _); refine wpList_load_mid rfl 34 (.tmp 4) rfl (pb) 0 rfl pc _ HRO.out ptUnder rfl (sizePtL hpl) ?_))
        refine HBT.out.mono ?_
        rintro e w8 ⟨v8, rfl, ho8, hk8⟩
        have HW8 := Lib.hid (HW7.out.same hk8)
        have hrx := Rd.of_owns ho8
        have hk1 := conv_rd hrx
        have hk2 := conv_rd (show Rd w8 1 (.slice (some ⟨g, o, none⟩) 47 c) b.length (b.map vb) by rw [HL.out]; exact HRD.out w8 HW8.out.keep)
        obtain ⟨xa, xc, rfl, -, -⟩ := hrx.form
        have HRO := Lib.hid (rangeAt_whole HW8.out.pt)
        rw [HPC.out] at HRO
        rw [HT.out]
        have hrs := HW8.out.res
        rw [HZ.out] at hrs
        have HRS := Lib.hid hrs; have HFS := Lib.hid HW8.out.flt
        clear ho8 hk8 hrx HBT HW7 hrs
        have hbf2 := fun w => buildFault0 w 2
        have herr : ∀ w6 w5, Keep (fun i => i = rb) w8 w5 → Keep (fun i => i = fb) w5 w6 → readB b = false → ReadFPost w b (.returned (.tuple #[.agg (ptCs (.slice none 0 0) zPt).toArray, .agg #[.int .i64 2, .int .i64 0]])) w6 := fun w6 w5 h1 h2 h3 =>
          ⟨(HW8.out.keep.trans' h1 (U := noBlk) (fun _ _ h => h) (fun i hi e => by have := HW8.out.ord; omega)).trans' h2 (fun _ _ h => h) (fun i hi e => by have := HW8.out.ord; omega), by
            rw [h3, if_neg (by decide)]
            unfold readE
            rw [if_pos HL.out]⟩
        have HERR := Lib.hid herr
        clear herr
        cases t
        · have HF : Hid (readB b = false) := Lib.hid (by unfold readB; rw [HT.out]; simp)
          go_wp2_with (first
            | ((with_reducible show wpList _ _ _ (⟨none, .store 34 (.tmp 2) (.tmp 115), _, _, _, _⟩ :: _) _ _); refine wpList_store_agg rfl 34 (.tmp 2) (.tmp 115) rfl rb 0 zc rfl rfl zc.toArray 34 HRS.out (by rw [hzl, List.size_toArray, hzl]; exact Nat.le_refl _) (sizePtL hzl) zco ?_; intro w9 hb5 hk5; rw [spl_whole _ _ (by rw [hzl, List.size_toArray, hzl])] at hb5; have HF5 := Lib.hid (hk5.blk HFS.out (by omega)); have HB5 := Lib.hid hb5; have HK5 := Lib.hid hk5; clear hb5 hk5)
            | ((with_reducible show wpList _ _ _ (⟨none, .store 115 (.tmp 3) (.tmp 116), _, _, _, _⟩ :: _) _ _); refine wpList_store_agg rfl 115 (.tmp 3) (.tmp 116) rfl fb 0 [.int .i64 (2), .int .i64 (0)] rfl rfl #[.int .i64 0, .int .i64 0] 115 HF5.out (Nat.le_refl _) sizeFault (by simp [Value.oneCell']) ?_; intro w12 hb6 hk6; rw [spl_whole _ _ (by rfl)] at hb6; have HB6 := Lib.hid (hk6.blk HB5.out (by omega)); have HF6 := Lib.hid hb6; have HK6 := Lib.hid hk6; clear hb6 hk6))
          refine bodyPost_ret (results_cells2 rfl _ _ rb fb _ _ _ _ _ _ _ _ rfl HB6.out ptUnder rfl (by rw [List.size_toArray, hzl]; exact sizePt) rfl HF6.out Tryz.underlying115 rfl sizeFault) rfl ?_
          have h := HERR.out _ _ HK5.out HK6.out HF.out
          rw [HZ.out] at h
          exact h
        · obtain ⟨u, hu⟩ : ∃ u, decide (ptB (ptOf b) = b) = u := ⟨_, rfl⟩
          have HU := Lib.hid hu
          have hcmp : ((strB (ptB (ptOf b))).toList == (strB b).toList) = u := by rw [strB_eq]; exact hu
          have hcmp2 : ((strB (ptB (ptOf b))).toList != (strB b).toList) = !u := by simp only [bne, hcmp]
          clear hu
          cases u
          · have HF : Hid (readB b = false) := Lib.hid (by unfold readB; rw [HU.out]; simp)
            go_wp2_with (first
              | ((with_reducible show wpList _ _ _ (⟨none, .store 34 (.tmp 2) (.tmp 115), _, _, _, _⟩ :: _) _ _); refine wpList_store_agg rfl 34 (.tmp 2) (.tmp 115) rfl rb 0 zc rfl rfl zc.toArray 34 HRS.out (by rw [hzl, List.size_toArray, hzl]; exact Nat.le_refl _) (sizePtL hzl) zco ?_; intro w9 hb5 hk5; rw [spl_whole _ _ (by rw [hzl, List.size_toArray, hzl])] at hb5; have HF5 := Lib.hid (hk5.blk HFS.out (by omega)); have HB5 := Lib.hid hb5; have HK5 := Lib.hid hk5; clear hb5 hk5)
              | ((with_reducible show wpList _ _ _ (⟨none, .store 115 (.tmp 3) (.tmp 116), _, _, _, _⟩ :: _) _ _); refine wpList_store_agg rfl 115 (.tmp 3) (.tmp 116) rfl fb 0 [.int .i64 (2), .int .i64 (0)] rfl rfl #[.int .i64 0, .int .i64 0] 115 HF5.out (Nat.le_refl _) sizeFault (by simp [Value.oneCell']) ?_; intro w12 hb6 hk6; rw [spl_whole _ _ (by rfl)] at hb6; have HB6 := Lib.hid (hk6.blk HB5.out (by omega)); have HF6 := Lib.hid hb6; have HK6 := Lib.hid hk6; clear hb6 hk6))
            refine bodyPost_ret (results_cells2 rfl _ _ rb fb _ _ _ _ _ _ _ _ rfl HB6.out ptUnder rfl (by rw [List.size_toArray, hzl]; exact sizePt) rfl HF6.out Tryz.underlying115 rfl sizeFault) rfl ?_
            have h := HERR.out _ _ HK5.out HK6.out HF.out
            rw [HZ.out] at h
            exact h
          · go_wp2_with (first
              | ((with_reducible show wpList _ _ _ (⟨_, .load 34 (.tmp 4), _, _, _, _⟩ :: _) _ _); refine wpList_load_mid rfl 34 (.tmp 4) rfl (pb) 0 rfl pc _ HRO.out ptUnder rfl (sizePtL hpl) ?_)
              | ((with_reducible show wpList _ _ _ (⟨none, .store 34 (.tmp 2) (.tmp 117), _, _, _, _⟩ :: _) _ _); refine wpList_store_agg rfl 34 (.tmp 2) (.tmp 117) rfl rb 0 pc rfl rfl zc.toArray 34 HRS.out (by rw [hpl, List.size_toArray, hzl]; exact Nat.le_refl _) (sizePtL hpl) pco ?_; intro w9 hb5 hk5; rw [spl_whole _ _ (by rw [hpl, List.size_toArray, hzl])] at hb5; have HF5 := Lib.hid (hk5.blk HFS.out (by omega)); have HB5 := Lib.hid hb5; have HK5 := Lib.hid hk5; clear hb5 hk5)
              | ((with_reducible show wpList _ _ _ (⟨none, .store 115 (.tmp 3) (.tmp 118), _, _, _, _⟩ :: _) _ _); refine wpList_store_agg rfl 115 (.tmp 3) (.tmp 118) rfl fb 0 [.int .i64 (0), .int .i64 (0)] rfl rfl #[.int .i64 0, .int .i64 0] 115 HF5.out (Nat.le_refl _) sizeFault (by simp [Value.oneCell']) ?_; intro w12 hb6 hk6; rw [spl_whole _ _ (by rfl)] at hb6; have HB6 := Lib.hid (hk6.blk HB5.out (by omega)); have HF6 := Lib.hid hb6; have HK6 := Lib.hid hk6; clear hb6 hk6))
            refine bodyPost_ret (results_cells2 rfl _ _ rb fb _ _ _ _ _ _ _ _ rfl HB6.out ptUnder rfl (by rw [List.size_toArray, hpl]; exact sizePt) rfl HF6.out Tryz.underlying115 rfl sizeFault) rfl ?_
            refine ⟨(HW8.out.keep.trans' HK5.out (U := noBlk) (fun _ _ h => h) (fun i hi e => by have := HW8.out.ord; omega)).trans' HK6.out (fun _ _ h => h) (fun i hi e => by have := HW8.out.ord; omega), ?_⟩
            rw [if_pos (by unfold readB; rw [HL.out, HT.out, HU.out]; rfl)]
            refine ⟨_, by rw [HPC.out], ?_⟩
            have e : (ptOf b).addrs.length = ql := HQ3.out
            rw [e]
            have h5 := HK5.out.owns HW8.out.row (fun i hi e => by have := owns_base HW8.out.row hi; have := HW8.out.ord; omega)
            exact ownsRow_mono (HK6.out.owns h5 (fun i hi e => by have := owns_base HW8.out.row hi; have := HW8.out.ord; omega)) (by have := HW8.out.ord; omega)

theorem rread_any (w : World) (bv : Value) (b : List UInt8) (hr : Rd w 1 bv b.length (b.map vb)) : Calls Tryz.prog 79 #[bv] w (ReadFPost w b) := by
  rcases Nat.lt_trichotomy b.length 47 with h | h | h
  · exact rread_less w bv b hr h
  · exact rread_main w bv b hr h
  · exact rread_more w bv b hr h

end Go.Proofs.YtaiicjhnhbkgmaaGreatDoor

/-
  caulkerref09.Pack.
  Conditions: those told.
-/
namespace Go.Proofs.YtaiicjhnhbkgmaaGreatDoor
open Go.RowKit Go.Maps Go.ChangeMaps
set_option maxRecDepth 100000
set_option linter.unusedVariables false

/-- What a write keeps of what is no writer's and no bytes. -/
theorem rw_keepU {w w' : World} {p : Nat} {v : Value} {l : List UInt8} {er : Int} (hv : RW w p p v l er) (hk : Keep (fun k => k = p ∨ v.ownBlock = some k) w w') (i : Nat) (hi : i < p) : ¬ (i = p ∨ v.ownBlock = some i) := by
  rintro (rfl | h3)
  · omega
  · have := owns_ge hv.own h3; omega
/-- The uberblock, the pointer's bytes and the document's writer, behind k writes. -/
structure RkU (w wr : World) (u : Ub) (uv pv : Value) (p k : Nat) : Prop where
  blk : wr.heap[w.heap.size]? = some (.cells (ubCs uv u).toArray 36 (0, 0))
  wrt : ∃ v, RW wr p p v (ubS u k) 0
  rd : Rd wr 1 pv (ptBytes u.root).length ((ptBytes u.root).map vb)
  pl : ∀ i, pv.ownBlock = some i → i < p
  keep : Keep noBlk w wr
  le : w.heap.size < p
theorem RkU.same {w wr w' : World} {u : Ub} {uv pv : Value} {p k : Nat} (h : RkU w wr u uv pv p k) (hk : Keep noBlk wr w') : RkU w w' u uv pv p k :=
  ⟨hk.blk h.blk id, by obtain ⟨v, hv⟩ := h.wrt; exact ⟨v, hv.keep hk id (fun _ _ => id)⟩, h.rd.keep hk (fun _ _ => id), h.pl, h.keep.trans hk, h.le⟩
theorem RkU.next {w wr w2 : World} {u : Ub} {uv pv v : Value} {p k : Nat} {e : Ending} (h : RkU w wr u uv pv p k) (hv : RW wr p p v (ubS u k) 0) (hp : RPost wr p p v (ubS u (k + 1), 0) e w2) : RkU w w2 u uv pv p (k + 1) := by
  obtain ⟨-, v', hw', hk, -⟩ := hp
  have hne := rw_keepU hv hk
  exact ⟨hk.blk h.blk (hne _ h.le), ⟨v', hw'⟩, h.rd.keep hk (fun i hi => hne i (h.pl i hi)), h.pl, h.keep.trans' hk (fun _ _ h => h) (fun i hi h3 => hne i (by have := h.le; omega) h3), h.le⟩
theorem rubytes_any {w : World} {v : Value} {u : Ub} (h : PtV w v u.root) (hm : u.root.may = true) (wx : World) (k : Keep noBlk w wx) : Calls Tryz.prog 93 #[.agg (ptCs v u.root).toArray] wx fun e w' =>
    ∃ x, e = .returned (.tuple #[x, .int .i64 0]) ∧ w'.ownsRow wx.heap.size 5 1 x (ptBytes u.root).length ((ptBytes u.root).map vb) ∧ Keep noBlk wx w' := by
  refine (rbytes_any wx v u.root (h.keep k fun _ _ => id)).mono ?_
  rintro e w' ⟨x, rfl, ho, hk⟩
  unfold ptB at ho
  rw [hm, if_pos rfl] at ho
  exact ⟨x, by rw [hm]; rfl, ho, hk⟩
set_option maxHeartbeats 1000000 in
theorem rupack_no (w : World) (v : Value) (u : Ub) (h0 : UbV w v u) (hm : u.may = false) : Calls Tryz.prog 60 #[.agg (ubCs v u).toArray] w (UPackPost w u) := by
  obtain ⟨oa, ca, hv, -, -⟩ := h0.root.rd.form
  subst hv
  obtain ⟨n, hn⟩ : ∃ x, u.root.addrs.length = x := ⟨_, rfl⟩
  rw [hn] at h0 ⊢
  have HP := Lib.hid h0.pool; have HSU := Lib.hid h0.root.sum; have HM := Lib.hid hm
  obtain ⟨w1, hw1, hk1, hb_0, hs1⟩ := alloc_facts w (ubCs (.slice oa n ca) u).toArray 36
  have HC := Lib.hid (rcheckU_any w1 (.slice oa n ca) u (h0.keep hk1 fun _ _ => id))
  unfold OkPost at HC
  rw [hm] at HC
  have HB0 := Lib.hid hb_0
  have HUB := Lib.hid (rangeAt_whole hb_0)
  obtain ⟨-, r0, -, -⟩ := ub_mem h0.root.sum (rangeAt_whole hb_0)
  have HR0 := Lib.hid r0
  have hl0 : (ptCs (.slice oa n ca) u.root).length = 35 := ptCs_len h0.root.sum
  have hul : (ubCs (.slice oa n ca) u).length = 69 := ubCs_len h0.root.sum h0.pool
  obtain ⟨uc, huc⟩ : ∃ x, ubCs (.slice oa n ca) u = x := ⟨_, rfl⟩
  have HUC := Lib.hid huc
  have HK := Lib.hid hk1
  have hs1' : w1.heap.size = w.heap.size + 1 := hs1
  rw [huc] at hw1 HUB HC hul ⊢
  clear h0 hm huc hb_0 HB0 r0 hk1 hs1 hs1' HR0 hl0
  go_enter Tryz.func60, Tryz.ntmps60
  go_wp2_with (first
    | ((with_reducible show wpList _ _ _ (⟨_, .load 36 (.tmp 1), _, _, _, _⟩ :: _) _ _); refine wpList_load_g (by rfl) 36 (.tmp 1) rfl (w.heap.size) 0 rfl uc _ HUB.out ubUnder rfl (sizeUbL hul) ?_))
  refine HC.out.mono ?_
  rintro e w2 ⟨rfl, hk2⟩
  have HK2 := Lib.hid (HK.out.trans hk2)
  clear hk2 HC
  go_wp2_with fail
  go_ret2
  refine ⟨_, by rw [HM.out]; rfl, ?_, HK2.out⟩
  rw [show packU u = [] by unfold packU; rw [HM.out]; rfl]
  exact World.ownsRow_nil _ _ _ _
set_option maxHeartbeats 4000000 in
theorem rupack_yes (w : World) (v : Value) (u : Ub) (h0 : UbV w v u) (hm : u.may = true) : Calls Tryz.prog 60 #[.agg (ubCs v u).toArray] w (UPackPost w u) := by
  obtain ⟨oa, ca, hv, -, -⟩ := h0.root.rd.form
  subst hv
  obtain ⟨n, hn⟩ : ∃ x, u.root.addrs.length = x := ⟨_, rfl⟩
  rw [hn] at h0 ⊢
  have HP := Lib.hid h0.pool; have HSU := Lib.hid h0.root.sum; have HM := Lib.hid hm
  obtain ⟨w1, hw1, hk1, hb_0, hs1⟩ := alloc_facts w (ubCs (.slice oa n ca) u).toArray 36
  have HC := Lib.hid (rcheckU_any w1 (.slice oa n ca) u (h0.keep hk1 fun _ _ => id))
  unfold OkPost at HC
  rw [hm] at HC
  have HB0 := Lib.hid hb_0
  have HUB := Lib.hid (rangeAt_whole hb_0)
  obtain ⟨-, r0, -, -⟩ := ub_mem h0.root.sum (rangeAt_whole hb_0)
  have HR0 := Lib.hid r0
  have hl0 : (ptCs (.slice oa n ca) u.root).length = 35 := ptCs_len h0.root.sum
  have hul : (ubCs (.slice oa n ca) u).length = 69 := ubCs_len h0.root.sum h0.pool
  obtain ⟨uc, huc⟩ : ∃ x, ubCs (.slice oa n ca) u = x := ⟨_, rfl⟩
  have HUC := Lib.hid huc
  have HK := Lib.hid hk1
  have hs1' : w1.heap.size = w.heap.size + 1 := hs1
  have HBY := Lib.hid (rubytes_any (u := u) h0.root (ub_bounds hm).2.2.2.2)
  have hpl := ptBytes_len h0.root.sum
  obtain ⟨pc, hpc⟩ : ∃ x, ptCs (.slice oa n ca) u.root = x := ⟨_, rfl⟩
  have HPL := Lib.hid hpl
  have kc := fun (w : World) (C : Array Value) (n c : Nat) => Lib.run_convert_bytes_const (P := Tryz.prog) w 51 5 C n c Tryz.underlying51 Tryz.underlying5
  have kd := fun (w : World) (C : Array Value) (n c g : Nat) (h : g = w.heap.size) => bytes_const_atU (P := Tryz.prog) w 51 5 C n c g h Tryz.underlying51 Tryz.underlying5
  rw [huc] at hw1 HUB HC hul ⊢
  rw [hpc] at HR0 hl0 HBY
  clear h0 hm huc hpc hb_0 r0 hk1 hs1 hpl
  go_enter Tryz.func60, Tryz.ntmps60
  go_wp2_with (first
    | ((with_reducible show wpList _ _ _ (⟨_, .load 36 (.tmp 1), _, _, _, _⟩ :: _) _ _); refine wpList_load_g (by rfl) 36 (.tmp 1) rfl (w.heap.size) 0 rfl uc _ HUB.out ubUnder rfl (sizeUbL hul) ?_))
  refine HC.out.mono ?_
  rintro e w2 ⟨rfl, hk2⟩
  have HK2 := Lib.hid (HK.out.trans hk2)
  have HR0 := Lib.hid (hk2.rangeAt HR0.out)
  have HB2 := Lib.hid (hk2.blk HB0.out id)
  have hs2 : w1.heap.size ≤ w2.heap.size := hk2.size
  clear hk2 HC HB0
  go_wp2_with (first
    | ((with_reducible show wpList _ _ _ (⟨_, .load 34 (.tmp 12), _, _, _, _⟩ :: _) _ _); refine wpList_load_g (by rfl) 34 (.tmp 12) rfl (w.heap.size) 1 rfl pc _ HR0.out ptUnder rfl (sizePtL hl0) ?_))
  refine (HBY.out _ HK2.out).mono ?_
  rintro e w3 ⟨pv, rfl, ho3, hk3⟩
  obtain ⟨ap, cp, rfl, -, -⟩ := (Rd.of_owns ho3).form
  have HB3 := Lib.hid (hk3.blk HB2.out id)
  have HO3 := Lib.hid ho3; have HK3 := Lib.hid (HK2.out.trans hk3)
  have hs3 : w2.heap.size ≤ w3.heap.size := hk3.size
  clear hk3 ho3 HBY HB2
  go_wp2_with fail
  have kw : Keep noBlk w3 (w3.alloc (.cells #[.slice none 0 0, .int .i64 0] 133)) := (Keep.refl _ _).alloc _
  have U0 : Hid (RkU w (w3.alloc (.cells #[.slice none 0 0, .int .i64 0] 133)) u (.slice oa n ca) (.slice ap (ptBytes u.root).length cp) w3.heap.size 0) := Lib.hid ⟨kw.blk HB3.out id, ⟨.slice none 0 0, heap_alloc_new _ _, World.ownsRow_nil _ _ _ _, by simp [Value.ownBlock], Nat.le_refl _⟩, (Rd.of_owns HO3.out).keep kw (fun _ _ => id), fun i hi => by obtain ⟨cur, hc⟩ := owns_block HO3.out hi; exact lt_of_block hc, HK3.out.trans kw, by omega⟩
  have HS := Lib.hid (show w.heap.size ≤ w3.heap.size by omega)
  have hrd0 := rd_litU (w3.alloc (.cells #[.slice none 0 0, .int .i64 0] 133)) ubHead 5 (8, 9) (by decide)
  rw [World.size_alloc] at hrd0
  clear HB3 HO3 HK3 hs1' hs2 hs3 kw
  have U0 := Lib.hid (U0.out.same (w' := (w3.alloc (.cells #[.slice none 0 0, .int .i64 0] 133)).alloc (.cells (ubHead.map vb).toArray 5 (8, 9))) ((Keep.refl _ _).alloc _))
  obtain ⟨v0, hv0⟩ := U0.out.wrt
  have HV0 := Lib.hid hv0
  clear hv0
  refine (rraw_any w3.heap.size _ _ w3.heap.size v0 _ ubHead 0 HV0.out hrd0 (Nat.le_trans (ubS_len HP.out HSU.out (k := 0) (by omega)) (by omega)) (by decide)).mono ?_
  rintro e w5 h1
  rw [show (ubHead, (0 : Int)) = (ubW u 0, 0) from rfl, ub_wst HP.out HSU.out (by omega)] at h1
  have U1 := Lib.hid (U0.out.next HV0.out h1)
  obtain rfl := h1.1
  clear h1 U0 HV0 kc kd hrd0
  have H2 := Lib.hid (show w3.heap.size + 1 ≤ w5.heap.size from by obtain ⟨v, hv⟩ := U1.out.wrt; have := lt_of_block hv.blk; omega)
  have RD := Lib.hid (ub_poolrd HP.out HSU.out (U1.out.same (w' := w5.alloc (.cells #[] 5)) ((Keep.refl _ _).alloc _)).blk)
  rw [HP.out] at RD
  go_wp2_with (at_builtin; refine wpList_append_rd rfl (.tmp 24) (.tmp 26) 51 rfl w5.heap.size 5 _ 1 1 Tryz.underlying51 infoU8 rfl (by omega) _ 0 [] rfl (World.ownsRow_made w5 #[] 0 (Nat.le_refl _) (by unfold maxLen; omega) (by simp)) _ 32 (u.pool.map vb) rfl RD.out (oneCell_vb _) (by unfold maxLen; omega) (by omega) (by simp) ?_; intro v' w6 hown6 hk6 hnil hat; obtain ⟨a6, c6, rfl, -, -⟩ := (Rd.of_owns hown6).form; have HR6 := Lib.hid (Rd.of_owns hown6); have HK6 := Lib.hid (hk6.new_any); clear hown6 hk6 hnil hat)
  have U1 := Lib.hid (U1.out.same HK6.out)
  have hr6 : Rd w6 1 (.slice a6 (0 + 32) c6) u.pool.length (u.pool.map vb) := by rw [HP.out]; simpa using HR6.out
  obtain ⟨v1, hv1⟩ := U1.out.wrt
  have HV1 := Lib.hid hv1
  clear hv1
  refine (rraw_any w3.heap.size w6 _ w3.heap.size v1 _ u.pool 0 HV1.out hr6 (Nat.le_trans (ubS_len HP.out HSU.out (k := 1) (by omega)) (by omega)) (by rw [HP.out]; omega)).mono ?_
  rintro e w7 h1
  rw [show (u.pool, (0 : Int)) = (ubW u 1, 0) from rfl, ub_wst HP.out HSU.out (by omega)] at h1
  have U2 := Lib.hid (U1.out.next HV1.out h1)
  obtain rfl := h1.1
  clear h1 U1 HV1 hr6 HR6 HK6 RD H2
  obtain ⟨v2, hv2⟩ := U2.out.wrt
  have HV2 := Lib.hid hv2
  clear hv2
  obtain ⟨c0, -, c2, -⟩ := ub_mem HSU.out (rangeAt_whole U2.out.blk)
  simp only [Nat.zero_add] at c0 c2
  go_wp2_with fail
  refine (rnum_any w3.heap.size u.txg 5 _ w3.heap.size v2 _ 0 HV2.out (Nat.le_trans (ubS_len HP.out HSU.out (k := 2) (by omega)) (by omega))).mono ?_
  rintro e w8 h1
  rw [ub_num5 HM.out, ub_wst HP.out HSU.out (by omega)] at h1
  have U3 := Lib.hid (U2.out.next HV2.out h1)
  obtain rfl := h1.1
  clear h1 U2 HV2 c0 c2
  obtain ⟨v3, hv3⟩ := U3.out.wrt
  have HV3 := Lib.hid hv3
  clear hv3
  obtain ⟨c0, -, c2, -⟩ := ub_mem HSU.out (rangeAt_whole U3.out.blk)
  simp only [Nat.zero_add] at c0 c2
  go_wp2_with fail
  refine (rnum_any w3.heap.size u.len 3 _ w3.heap.size v3 _ 0 HV3.out (Nat.le_trans (ubS_len HP.out HSU.out (k := 3) (by omega)) (by omega))).mono ?_
  rintro e w9 h1
  rw [ub_num3 HM.out, ub_wst HP.out HSU.out (by omega)] at h1
  have U4 := Lib.hid (U3.out.next HV3.out h1)
  obtain rfl := h1.1
  clear h1 U3 HV3 c0 c2
  obtain ⟨v4, hv4⟩ := U4.out.wrt
  have HV4 := Lib.hid hv4
  clear hv4
  go_wp2_with fail
  refine (rraw_any w3.heap.size _ _ w3.heap.size v4 _ (ptBytes u.root) 0 HV4.out U4.out.rd (Nat.le_trans (ubS_len HP.out HSU.out (k := 4) (by omega)) (by omega)) (by rw [HPL.out]; omega)).mono ?_
  rintro e w10 h1
  rw [show (ptBytes u.root, (0 : Int)) = (ubW u 4, 0) from rfl, ub_wst HP.out HSU.out (by omega)] at h1
  have U5 := Lib.hid (U4.out.next HV4.out h1)
  obtain rfl := h1.1
  clear h1 U4 HV4 
  obtain ⟨v5, hv5⟩ := U5.out.wrt
  have HV5 := Lib.hid hv5
  clear hv5
  go_wp2_with fail
  refine (rpad_any w3.heap.size 224 _ w3.heap.size v5 _ 0 HV5.out (Nat.le_trans (ubS_len HP.out HSU.out (k := 5) (by omega)) (by omega))).mono ?_
  rintro e w11 h1
  rw [ub_pad HP.out HSU.out, ub_wst HP.out HSU.out (by omega)] at h1
  have U6 := Lib.hid (U5.out.next HV5.out h1)
  obtain rfl := h1.1
  clear h1 U5 HV5 
  obtain ⟨v6, hv6⟩ := U6.out.wrt
  have hv6 : RW w11 w3.heap.size w3.heap.size v6 (ubBody u) 0 := hv6
  have HBL := Lib.hid (ubBody_len HP.out HSU.out)
  have hrd := Rd.of_owns hv6.own
  obtain ⟨a8, cp8, rfl, -, -⟩ := hrd.form
  obtain ⟨cp0, cp1, cpf⟩ := hv6.cells
  have HV8 := Lib.hid hv6; have HRD := Lib.hid hrd; clear hv6 hrd
  go_wp2_with fail
  refine (rsum_any _ (ubBody u) w11 HRD.out (by rw [HBL.out]; omega)).mono ?_
  rintro e w12 ⟨rfl, hk12⟩
  obtain ⟨ds, hds⟩ : ∃ ds, (digest (ubBody u)).map vb = ds := ⟨_, rfl⟩
  have hdl : ds.length = 32 := by rw [← hds]; simp [digest_length]
  have hdo : ∀ u ∈ ds, u.oneCell' = true := by rw [← hds]; exact oneCell_vb _
  rw [hds]
  have HDS := Lib.hid hds; have HK12 := Lib.hid hk12
  clear hds hk12 cp0 cp1 cpf
  go_wp2_with (first
    | (refine wpList_alloc_at rfl 32 rfl zero32 zeroID (Array.replicate 32 (.int .u8 0)) rfl ?_)
    | ((with_reducible show wpList _ _ _ (⟨none, .store 32 (.tmp 7) (.tmp 46), _, _, _, _⟩ :: _) _ _); refine wpList_store_agg rfl 32 (.tmp 7) (.tmp 46) rfl w12.heap.size 0 ds rfl rfl _ _ (heap_alloc_new _ _) (by rw [hdl]; simp) (by rw [hdl]; exact sizeID) hdo ?_; intro w13 hb13 hk13; have HAP := Lib.hid (dig_appU HV8.out.own HK12.out hb13 hk13 hdl); have HRD2 := Lib.hid (HAP.out.2.1.keep ((Keep.refl noBlk w13).alloc (.cells #[] 5)) fun _ _ => id); clear hb13 hk13)
    | (at_builtin; refine wpList_append_rd rfl (.tmp 48) (.tmp 49) 51 rfl w13.heap.size 5 _ 1 1 Tryz.underlying51 infoU8 rfl (by omega) _ 0 [] rfl (World.ownsRow_made w13 #[] 0 (Nat.le_refl _) (by unfold maxLen; omega) (by simp)) _ 32 ds rfl HRD2.out hdo (by unfold maxLen; omega) (by omega) (by simp) ?_; intro v' w14 hown14 hk14 hnil hat; obtain ⟨a14, c14, rfl, -, -⟩ := (Rd.of_owns hown14).form; have HR14 := Lib.hid (Rd.of_owns hown14); have HK14 := Lib.hid (hk14.new_any); clear hown14 hk14 hnil hat))
  have K14 : Keep noBlk w11 w14 := HAP.out.2.2.trans HK14.out
  have hv14 := HV8.out.keep K14 id (fun _ _ => id)
  have hr14 : Rd w14 1 (.slice a14 (0 + 32) c14) (digest (ubBody u)).length ((digest (ubBody u)).map vb) := by rw [digest_length, HDS.out]; simpa using HR14.out
  refine (rraw_any w3.heap.size w14 _ w3.heap.size _ _ (digest (ubBody u)) 0 hv14 hr14 (by rw [HBL.out]; omega) (by rw [digest_length]; omega)).mono ?_
  rintro e w15 h1
  rw [wst_ok _ _ (by rw [HBL.out, digest_length]; omega)] at h1
  obtain ⟨v15, hv15, hk15, -⟩ := h1.2
  have hkeep := (U6.out.keep.trans K14).trans' hk15 (fun _ _ h => h) (fun i hi h3 => rw_keepU hv14 hk15 i (by have := U6.out.le; omega) h3)
  obtain rfl := h1.1
  have HV15 := Lib.hid hv15; have HKE := Lib.hid hkeep
  clear K14 hv14 hr14 hv15 hk15 hkeep HR14 HK14 HAP HRD2 HV8 HRD U6 HK12
  go_wp2_with fail
  refine (rout_any w3.heap.size w15 w3.heap.size v15 _ 0 HV15.out (by simp only [List.length_append]; rw [HBL.out, digest_length]; omega)).mono ?_
  rintro e w16 ⟨v16, rfl, hown, hk16⟩
  rw [if_pos rfl] at hown
  obtain ⟨a16, c16, rfl, -, -⟩ := (Rd.of_owns hown).form
  have HO := Lib.hid hown; have HK16 := Lib.hid hk16
  clear hown hk16
  go_wp2_with fail
  go_ret2
  have hpk : packU u = ubBody u ++ digest (ubBody u) := by unfold packU; rw [HM.out]; rfl
  refine ⟨_, by rw [HM.out]; rfl, ?_, HKE.out.trans HK16.out⟩
  have ho := ownsRow_mono HO.out HKE.out.size
  rw [hpk]
  rw [List.length_append] at ho ⊢
  exact ho
theorem rupack_any (w : World) (v : Value) (u : Ub) (h0 : UbV w v u) : Calls Tryz.prog 60 #[.agg (ubCs v u).toArray] w (UPackPost w u) := by
  rcases hm : u.may with _ | _
  · exact rupack_no w v u h0 hm
  · exact rupack_yes w v u h0 hm

end Go.Proofs.YtaiicjhnhbkgmaaGreatDoor
