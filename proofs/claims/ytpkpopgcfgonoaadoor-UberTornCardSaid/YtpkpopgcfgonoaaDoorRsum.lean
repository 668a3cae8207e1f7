/-
  The digest: the reference's Sum.
  Conditions: the bounds on sizes that each theorem names.
-/
import Derived.Test.YtpkpopgcfgonoaaDoorFill
import Derived.Test.YtpkpopgcfgonoaaDoorRwords
import Derived.Test.YtpkpopgcfgonoaaDoorGate
namespace Go.Proofs.YtpkpopgcfgonoaaDoor
open Go.RowKit
set_option maxRecDepth 100000

set_option maxHeartbeats 4000000 in
theorem rsum_any (bv : Value) (bs : List UInt8) (w : World) (hr : Rd w 1 bv bs.length (bs.map vb)) (hb : bs.length ≤ 140737488350208) :
    Calls Tryd.prog 15 #[bv] w (SumPost w bs) := by
  obtain ⟨a, c, rfl, -, -⟩ := hr.form
  have HR := Lib.hid hr; clear hr
  go_enter Tryd.func15, Tryd.ntmps15
  go_wp2_with (first
    | (refine wpList_alloc_at rfl 24 rfl zero32 zeroID (Array.replicate 32 (.int .u8 0)) rfl ?_))
  refine (rstart_any _).mono ?_
  rintro e w1 ⟨rfl, hk1⟩
  have hvs : ∃ vs, startL.map vW = vs ∧ vs.length = 8 := ⟨_, rfl, rfl⟩
  obtain ⟨vs, hvs, hlen⟩ := hvs
  rw [hvs]
  have hone : ∀ u ∈ vs, u.oneCell' = true := by rw [← hvs]; exact oneCell_vW _
  have HVS := Lib.hid hvs; have HK1 := Lib.hid hk1
  clear hvs hk1
  have hlt : w.heap.size < w1.heap.size := by have := HK1.out.size; simp at this; omega
  go_wp2_with (first
    | (refine wpList_alloc_at rfl 66 rfl zero8 zeroS8 (Array.replicate 8 (.int .u32 0)) rfl ?_)
    | ((with_reducible show wpList _ _ _ (⟨none, .store 66 (.tmp 3) (.tmp 8), _, _, _, _⟩ :: _) _ _); refine wpList_store_agg rfl 66 (.tmp 3) (.tmp 8) rfl w1.heap.size 0 vs rfl rfl _ _ (heap_alloc_new _ _) (by rw [hlen]; decide) (by rw [hlen]; exact size8) hone ?_; intro w2 hb2 hk2; have HB2 := Lib.hid hb2; have HK2 := Lib.hid hk2; clear hb2 hk2))
  have hkw : Keep noBlk w w2 := (((Keep.refl noBlk w).alloc _).trans HK1.out |>.alloc _).trans' HK2.out (fun _ _ h => h) (fun i hi e => by omega)
  have HKW := Lib.hid hkw; clear hkw
  refine (rfill_any _ bs w2 (HR.out.keep HKW.out fun _ _ => id) hb).mono ?_
  rintro e w3 ⟨v, ps, rfl, hown, hpcs, hk3⟩
  have R0 : Hid (SR 66 w w3 bs v ps w2.heap.size w1.heap.size 0) := by
    refine Lib.hid ⟨?_, hk3.blk (HK2.out.blk (((HK1.out.alloc _).blk (heap_alloc_new _ _) id)) (by omega)) id, hown, hpcs, HKW.out.trans hk3, hlt, by decide⟩
    have := HB2.out
    rw [spl_whole _ _ (by rw [hlen]; rfl), ← HVS.out] at this
    exact hk3.blk this id
  obtain ⟨av, cv, rfl, -, -⟩ := (Rd.of_owns hown).form
  clear hown hpcs hk3 HB2 HK2 HKW HK1 HVS
  have hm := many_eq bs.length
  have hp := padN_lt bs.length
  obtain ⟨M, hM⟩ : ∃ M, M = many bs.length := ⟨_, rfl⟩
  rw [← hM] at hm R0 ⊢
  have HM := Lib.hid hM; clear hM
  go_wp2_with fail
  go_loopw [5] (fun i wr => ∃ k : Nat, k ≤ M ∧ i = .int .i64 k ∧ Hid (SR 66 w wr bs (.slice av M cv) ps w2.heap.size w1.heap.size k)) (fun i _ => M - (intOf i).toNat)
  case atStart => exact ⟨0, by omega, rfl, R0⟩
  case round =>
    clear R0
    obtain ⟨k, hk, rfl, hR⟩ := hrel
    by_cases hk2 : k < M
    · obtain ⟨ap, cp, g, cap, hv, c0, hrd⟩ := hR.out.piece (by rw [← HM.out]; exact hk2)
      rw [← HM.out] at hv
      cases hv
      have hb0 : (0 : Int) ≤ (k : Int) := by omega
      have hb1 : (k : Int) < (M : Int) := by omega
      have HP := Lib.hid hrd; clear hrd
      obtain ⟨us, hus⟩ : ∃ us, (sumS bs k).l.map vW = us := ⟨_, rfl⟩
      have hul : us.length = 8 := by rw [← hus]; rfl
      have HUS := Lib.hid hus; clear hus
      go_wp2_with fail
      refine wp_region_any (by kernel_rfl) ?_
      obtain ⟨wd, hwd, hRd⟩ : ∃ wd, ({ wr with drawn := wr.drawn + 1 } : World) = wd ∧ Hid (SR 66 w wd bs (.slice (some ⟨g, 0, none⟩) M cv) ps w2.heap.size w1.heap.size k) := ⟨_, rfl, Lib.hid (hR.out.same (Keep.refl noBlk wr).drew)⟩
      rw [hwd]
      have HPd : Hid (Rd wd 1 (.slice ap 64 cp) 64 ((piece bs k).map vb)) := Lib.hid (by rw [← hwd]; exact HP.out.keep (Keep.refl noBlk wr).drew fun _ _ => id)
      have c0d : wd.cell? ⟨g, k, none⟩ = some (.slice ap 64 cp) := by rw [← hwd]; exact c0
      clear hwd hR HP c0
      refine wpAny_take (i := 1) (v := .slice (some ⟨g, 0, none⟩) M cv) rfl (by kernel_rfl) (by kernel_rfl) (by kernel_rfl) (fun _ _ _ h => h) (.inl ⟨by rfl, fun _ => rfl⟩) ?_
      refine wpAny_take (i := 2) (v := .int .i64 k) rfl (by kernel_rfl) (by kernel_rfl) (by kernel_rfl) (fun _ _ _ h => h) (.inl ⟨by rfl, fun _ => rfl⟩) ?_
      refine wpAny_take (i := 3) (v := .pointer (some ⟨g, k, none⟩)) rfl (by kernel_rfl) (by kernel_rfl) (by kernel_rfl) (fun _ _ _ h => h) (.inl ⟨by rfl, fun w' => ?_⟩) ?_
      · go_simp
      obtain ⟨S, hS⟩ : ∃ S : World → Prop, S = fun w' => w'.heap[w1.heap.size]? = some (.cells us.toArray 66 (0, 0)) := ⟨_, rfl⟩
      have hSd : S wd := by rw [hS]; show wd.heap[w1.heap.size]? = _; rw [← HUS.out]; exact hRd.out.st
      refine wpAnyU_begin (i := 0) (X := 5) (S := S) (v := .agg us.toArray) (by kernel_rfl) (by decide) (by kernel_rfl) rfl (by kernel_rfl) (by kernel_rfl) (by kernel_rfl) (fun _ _ _ h => h)
        (yieldsIf_load_mid (by rfl) 66 (.tmp 3) rfl w1.heap.size 0 rfl us _ (fun w' h => rangeAt_whole (by rw [hS] at h; exact h)) Tryd.underlying66 rfl (by rw [hul]; exact size8)) hSd ?_
      refine wpAnyU_one (k := 4) rfl (by kernel_rfl) ?_
      go_wp2_with fail
      refine ⟨fun _ _ => hSd, ?_⟩
      refine wpAnyU_one (k := 5) rfl (by kernel_rfl) ?_
      go_wp2_with fail
      rw [← HUS.out]
      refine (rturn_any (sumS bs k) _ (piece bs k) wd (piece_length bs k (by rw [← HM.out]; exact hk2)) HPd.out).mono ?_
      rintro e w4 ⟨rfl, hk4⟩
      obtain ⟨ts, hts⟩ : ∃ ts, (turn (byt (piece bs k)) (sumS bs k)).l.map vW = ts := ⟨_, rfl⟩
      have htl : ts.length = 8 := by rw [← hts]; rfl
      have hto : ∀ u ∈ ts, u.oneCell' = true := by rw [← hts]; exact oneCell_vW _
      rw [hts]
      have HTS := Lib.hid hts; have HK4 := Lib.hid hk4
      clear hts hk4
      go_wp2_with fail
      have hSd4 : S w4 := by rw [hS] at hSd ⊢; exact HK4.out.blk hSd id
      have hvoid : ∀ b : Bool, b = true → b = false → S w4 := fun b h1 h2 => by rw [h1] at h2; cases h2
      refine ⟨fun _ _ => hSd4, ?_⟩
      refine wpAnyU_one (k := 6) rfl (by kernel_rfl) ?_
      go_wp2_with fail
      refine ⟨fun _ _ => hSd4, ?_⟩
      refine wpAnyU_two (k := 7) (l := 8) rfl rfl (by kernel_rfl) ?_ ?_
      · go_wp2_with fail
        refine ⟨fun _ _ => hSd4, ?_⟩
        refine wpAnyU_two (k := 8) (l := 9) rfl rfl (by kernel_rfl) ?_ ?_
        · go_wp2_with fail
          refine ⟨fun _ _ => hSd4, ?_⟩
          refine wpAnyU_one (k := 9) rfl (by kernel_rfl) ?_
          refine wpList_store_agg rfl 66 (.tmp 3) (.tmp 24) rfl w1.heap.size 0 ts rfl rfl _ _ (hRd.out.same HK4.out).st (by rw [htl]; simp [St.l]) (by rw [htl]; exact size8) hto ?_
          intro w5 hb5 hk5
          rw [← HTS.out] at hb5
          have hR2 := hRd.out.turn HK4.out hb5 hk5
          refine wpList_nil ⟨fun h => absurd h (by rw [show Region.waitsFor _ _ _ _ = true from by kernel_rfl]; simp), ?_⟩
          refine wpAnyU_done (by kernel_rfl) ?_ _
          clear hvoid hSd4 hSd hRd HK4 HPd c0d hb5 hk5
          go_wp2_with fail
          go_roundw
          case rel => exact ⟨k + 1, by omega, by go_num, hR2⟩
          case measure => simp [intOf]; omega
        · skip
          refine wpList_store_agg rfl 66 (.tmp 3) (.tmp 24) rfl w1.heap.size 0 ts rfl rfl _ _ (hRd.out.same HK4.out).st (by rw [htl]; simp [St.l]) (by rw [htl]; exact size8) hto ?_
          intro w5 hb5 hk5
          rw [← HTS.out] at hb5
          have hR2 := hRd.out.turn HK4.out hb5 hk5
          refine wpList_nil ⟨fun h => absurd h (by rw [show Region.waitsFor _ _ _ _ = true from by kernel_rfl]; simp), ?_⟩
          refine wpAnyU_one (k := 8) rfl (by kernel_rfl) ?_
          go_wp2_with fail
          refine ⟨fun _ h => absurd (show true = false from h) (by simp), ?_⟩
          refine wpAnyU_done (by kernel_rfl) ?_ _
          clear hvoid hSd4 hSd hRd HK4 HPd c0d hb5 hk5
          go_wp2_with fail
          go_roundw
          case rel => exact ⟨k + 1, by omega, by go_num, hR2⟩
          case measure => simp [intOf]; omega
      · go_wp2_with fail
        refine ⟨fun _ _ => hSd4, ?_⟩
        refine wpAnyU_one (k := 7) rfl (by kernel_rfl) ?_
        go_wp2_with fail
        refine ⟨fun _ _ => hSd4, ?_⟩
        refine wpAnyU_one (k := 9) rfl (by kernel_rfl) ?_
        · skip
          refine wpList_store_agg rfl 66 (.tmp 3) (.tmp 24) rfl w1.heap.size 0 ts rfl rfl _ _ (hRd.out.same HK4.out).st (by rw [htl]; simp [St.l]) (by rw [htl]; exact size8) hto ?_
          intro w5 hb5 hk5
          rw [← HTS.out] at hb5
          have hR2 := hRd.out.turn HK4.out hb5 hk5
          refine wpList_nil ⟨fun h => absurd h (by rw [show Region.waitsFor _ _ _ _ = true from by kernel_rfl]; simp), ?_⟩
          refine wpAnyU_done (by kernel_rfl) ?_ _
          clear hvoid hSd4 hSd hRd HK4 HPd c0d hb5 hk5
          go_wp2_with fail
          go_roundw
          case rel => exact ⟨k + 1, by omega, by go_num, hR2⟩
          case measure => simp [intOf]; omega
    · obtain rfl : k = M := by omega
      obtain ⟨S, hS⟩ : ∃ S, sumS bs k = S := ⟨_, rfl⟩
      have D0 : Hid (DR 66 w (wr.alloc (.cells (Array.replicate 32 (.int .u8 0)) 24)) S w1.heap.size wr.heap.size 0) := by
        have h := hR.out
        have K : Keep noBlk wr (wr.alloc (.cells (Array.replicate 32 (.int .u8 0)) 24)) := (Keep.refl _ _).alloc _
        exact Lib.hid ⟨by rw [← hS]; exact K.blk h.st id, K.blk h.res id, heap_alloc_new _ _, h.keep.trans K, h.lt, lt_of_block h.st⟩
      have HSd := Lib.hid hS
      clear hS hR
      go_wp2_with (first
        | (refine wpList_alloc_at rfl 24 rfl zero32 zeroID (Array.replicate 32 (.int .u8 0)) rfl ?_))
      generalize wr.alloc (.cells (Array.replicate 32 (.int .u8 0)) 24) = w0 at *
      generalize wr.heap.size = b6 at *
      go_loopw [7] (fun i wr => ∃ n : Nat, n ≤ 32 ∧ i = .int .i64 n ∧ Hid (DR 66 w wr S w1.heap.size b6 n)) (fun i _ => 32 - (intOf i).toNat)
      case atStart => exact ⟨0, by omega, rfl, D0⟩
      case round =>
        clear D0
        obtain ⟨n, hn, rfl, hD⟩ := hrel
        by_cases hn32 : n < 32
        · obtain ⟨j, q, hj, hq, hnj⟩ : ∃ j q : Nat, j < 8 ∧ q < 4 ∧ n = 4 * j + q := ⟨n / 4, n % 4, by omega, by omega, by omega⟩
          have hc : wr.cell? ⟨w1.heap.size, j, none⟩ = some (.int .u32 (S.at j)) := blk_cell hD.out.st (by simp [S.at_get j hj, vW])
          have e1 : (n : Int) / 4 = (j : Int) := by omega
          have e2 : (n : Int) % 4 = (q : Int) := by omega
          have hn0 : (0 : Int) ≤ (n : Int) := by omega
          have hn1 : (n : Int) < 32 := by omega
          have hj0 : (0 : Int) ≤ (j : Int) := by omega
          have hj1 : (j : Int) < 8 := by omega
          have hq0 : (0 : Int) ≤ (q : Int) := by omega
          have hq1 : (q : Int) < 4 := by omega
          have HV := Lib.hid (show (Value.int .u8 (S.at j / 2 ^ (24 - 8 * q) % 256)) = vb (dgB S n) by rw [vb_dgB, show n / 4 = j by omega, show n % 4 = q by omega])
          obtain ⟨⟨u, hcu⟩, hfu⟩ := hD.out.free (show n < 32 by omega)
          have hD2 := hD.out.step HV.out
          have HN := Lib.hid hnj; clear hnj
          generalize S.at j = x at *
          go_wp2_with fail
          go_roundw
          case rel => exact ⟨n + 1, by omega, by go_num, hD2⟩
          case measure => simp [intOf]; omega
        · obtain rfl : n = 32 := by omega
          obtain ⟨ds, hds⟩ : ∃ ds, (digest bs).map vb = ds := ⟨_, rfl⟩
          have hdl : ds.length = 32 := by rw [← hds]; simp [digest_length]
          have hdo : ∀ u ∈ ds, u.oneCell' = true := by rw [← hds]; exact oneCell_vb _
          have hout : wr.heap[b6]? = some (.cells ds.toArray 24 (0, 0)) := by
            have := hD.out.out
            rw [← hds, ← dgCells_all, ← HM.out, HSd.out]
            exact this
          have HDS := Lib.hid hds; have HOUT := Lib.hid hout
          clear hds hout
          go_wp2_with (first
            | ((with_reducible show wpList _ _ _ (⟨some 42, .load 24 (.tmp 6), _, _, _, _⟩ :: _) _ _); refine wpList_load_mid rfl 24 (.tmp 6) rfl b6 0 rfl ds _ (rangeAt_whole HOUT.out) Tryd.underlying24 rfl (by rw [hdl]; exact sizeID) ?_)
            | ((with_reducible show wpList _ _ _ (⟨none, .store 24 (.tmp 2) (.tmp 42), _, _, _, _⟩ :: _) _ _); refine wpList_store_agg rfl 24 (.tmp 2) (.tmp 42) rfl w.heap.size 0 ds rfl rfl _ _ hD.out.res (by rw [hdl]; simp) (by rw [hdl]; exact sizeID) hdo ?_; intro w5 hb5 hk5; have HB5 := Lib.hid hb5; have HK5 := Lib.hid hk5; clear hb5 hk5))
          refine bodyPost_ret (results_cell_row rfl _ _ w.heap.size _ _ _ _ rfl HB5.out Tryd.underlying24 rfl (by rw [spl_size]; simp [sizeID])) rfl ⟨?_, ?_⟩
          · rw [spl_whole _ _ (by rw [hdl]; simp), HDS.out]
          · exact hD.out.keep.trans' HK5.out (fun _ _ h => h) (fun i hi e => by omega)
end Go.Proofs.YtpkpopgcfgonoaaDoor
