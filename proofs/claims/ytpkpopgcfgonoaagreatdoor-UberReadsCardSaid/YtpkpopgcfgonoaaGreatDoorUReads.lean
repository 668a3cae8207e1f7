/-
  UberReads: which uberblock a sector is, or why it is none
  Conditions: the two package variables hold errors.
-/
import Derived.Test.YtpkpopgcfgonoaaGreatDoorOneU
import Derived.Test.YtpkpopgcfgonoaaGreatDoorRunpackU
import Derived.Test.YtpkpopgcfgonoaaGreatDoorLent
namespace Go.Proofs.YtpkpopgcfgonoaaGreatDoor
open Go.RowKit Go.Maps Go.ChangeMaps
set_option maxRecDepth 100000
set_option linter.unusedVariables false

theorem eqB_refl (u : Ub) : u.eqB u = true := by unfold Ub.eqB Pt.eqB; simp

set_option maxHeartbeats 8000000 in
theorem uberReads_walk (w : World) (aF aR : Addr) (hg : ErrG w aF aR) (bv : Value) (b : List UInt8) (hr : Rd w 1 bv b.length (b.map vb)) : Calls Tryz.prog 4 #[bv] w (TherePost w true) := by
  obtain ⟨a, c, rfl, -, -⟩ := hr.form
  obtain ⟨n, hn⟩ : ∃ n, b.length = n := ⟨_, rfl⟩
  have hnm : n ≤ maxLen := by obtain ⟨a', c', h1, h2, h3⟩ := hr.form; omega
  unfold maxLen at hnm
  have HN := Lib.hid hn; have HR := Lib.hid hr; have HG := Lib.hid hg; have HK := Lib.hid (Keep.refl noBlk w)
  rw [hn] at HR ⊢
  have HR0 := HR; have HG0 := HG
  clear hr hn hg
  by_cases hlen : n ≤ 1000
  · obtain ⟨zc, hzc, hzl⟩ : ∃ zc, ubCs (.slice none 0 0) zUb = zc ∧ zc.length = 69 := ⟨_, rfl, rfl⟩
    have hzv : ∀ w, (zeroValue 28).run Tryz.prog w = .ok (.agg zc.toArray) w := by rw [← hzc]; exact zeroValUb
    have HZV := Lib.hid hzv; have HZC := Lib.hid hzc
    clear hzc hzv
    have HUW : Hid (True) := Lib.hid trivial
    go_enter Tryz.func4, Tryz.ntmps4
    go_wp2_with fail
    refine (lent_any w _ b (by rw [HN.out]; exact HR.out) (by rw [HN.out]; omega)).mono ?_
    rintro e w1 ⟨lg, rfl, hlent, hk, hlg⟩
    rw [HN.out]
    have HLE := Lib.hid hlent; have HLE0 := HLE
    have HR := Lib.hid (HR.out.keep hk fun _ _ => id)
    have HG := Lib.hid (HG.out.keep hk)
    have HK := Lib.hid (HK.out.trans hk)
    clear hk hlent hlg
    have HKA := Lib.hid (Keep.refl noBlk w1)
    have hwA : w.heap.size ≤ w1.heap.size := HK.out.size
    go_wp2_with fail
    refine ((uunpack_any w1 aF aR HG.out (.slice (some ⟨lg, 0, none⟩) n (n + 3)) b (by have h := HLE.out.rd (by rw [HN.out]; omega); rw [HN.out] at h ⊢; exact h) (by rw [HN.out]; omega)).mono fun e w' h => UUnpackPost.V h).mono ?_
    rintro e w2 ⟨v1, rfl, hu_, ho_, hk⟩
    have hsz1 := hk.size
    have HR := Lib.hid (HR.out.keep hk fun _ _ => id)
    have HG := Lib.hid (HG.out.keep hk)
    have HK := Lib.hid (HK.out.trans hk)
    have HLE := Lib.hid (HLE.out.keep hk id)
    have HKA := Lib.hid (HKA.out.trans hk)
    clear hk
    obtain ⟨a1, c1, hv_, -, -⟩ := hu_.root.rd.form
    have hv2_ : v1 = .slice a1 ((unpackU b).1).root.addrs.length c1 := hv_
    clear hv_
    subst hv2_
    have hl1 := ubCs_len (v := .slice a1 ((unpackU b).1).root.addrs.length c1) hu_.root.sum hu_.pool
    have HC1 := Lib.hid (oneCell_ub (oa := a1) (n := ((unpackU b).1).root.addrs.length) (ca := c1) ((unpackU b).1))
    have HU1 := Lib.hid hu_
    have HO1 := Lib.hid ho_
    obtain ⟨lc1, hlc1⟩ : ∃ x, ubCs (.slice a1 ((unpackU b).1).root.addrs.length c1) ((unpackU b).1) = x := ⟨_, rfl⟩
    rw [hlc1] at hl1 HC1
    try rw [hlc1]
    have HLC1 := Lib.hid hlc1
    clear hlc1
    clear hu_ ho_
    have HF1 := Lib.hid (HO1.out.lt)
    go_wp2_with (first
      | ((with_reducible show wpList _ _ _ (⟨_, .alloc 28, _, _, _, _⟩ :: _) _ _); refine wpList_alloc_at rfl 28 rfl _ HZV.out zc.toArray rfl ?_)
      | ((with_reducible show wpList _ _ _ (⟨none, .store 28 (.tmp 4) (.tmp 19), _, _, _, _⟩ :: _) _ _)
         refine wpList_store_agg rfl 28 (.tmp 4) (.tmp 19) rfl w2.heap.size 0 lc1 rfl rfl zc.toArray _ (heap_alloc_new _ _) (by rw [hl1, List.size_toArray, hzl]; exact Nat.le_refl _) (sizeUbL hl1) HC1.out ?_
         intro w3 hb5 hk5
         rw [spl_whole _ _ (by rw [hl1, List.size_toArray, hzl])] at hb5
         have hkb : Keep noBlk w2 w3 := ((Keep.refl noBlk w2).alloc _).trans' hk5 (fun _ _ h => h.elim) (fun i hi e => by omega)
         clear hk5
         obtain ⟨b1, hb_⟩ : ∃ b, w2.heap.size = b := ⟨_, rfl⟩
         rw [hb_] at hb5 ⊢
         have HBS1 := Lib.hid hb_; clear hb_
         have HB1 := Lib.hid hb5; clear hb5))
    have HR := Lib.hid (HR.out.keep hkb fun _ _ => id)
    have HG := Lib.hid (HG.out.keep hkb)
    have HK := Lib.hid (HK.out.trans hkb)
    have HLE := Lib.hid (HLE.out.keep hkb id)
    have HKA := Lib.hid (HKA.out.trans hkb)
    have HU1 := Lib.hid (HU1.out.keep hkb fun _ _ => id)
    have HO1 := Lib.hid (hkb.owns HO1.out fun _ _ => id)
    clear hkb
    have HKE := Lib.hid (Keep.refl noBlk w3)
    have hb1w : b1 < w3.heap.size := lt_of_block HB1.out
    go_wp2_with fail
    refine ((ruunpack_any w3 _ b (by rw [HN.out]; exact HR.out) (by rw [HN.out]; omega)).mono fun e w' h => UUnpackPost.V h).mono ?_
    rintro e w4 ⟨v2, rfl, hu_, ho_, hk⟩
    have hsz2 := hk.size
    have HR := Lib.hid (HR.out.keep hk fun _ _ => id)
    have HG := Lib.hid (HG.out.keep hk)
    have HK := Lib.hid (HK.out.trans hk)
    have HLE := Lib.hid (HLE.out.keep hk id)
    have HKA := Lib.hid (HKA.out.trans hk)
    have HU1 := Lib.hid (HU1.out.keep hk fun _ _ => id)
    have HO1 := Lib.hid (hk.owns HO1.out fun _ _ => id)
    have HB1 := Lib.hid (hk.blk HB1.out id)
    have HKE := Lib.hid (HKE.out.trans hk)
    clear hk
    obtain ⟨a2, c2, hv_, -, -⟩ := hu_.root.rd.form
    have hv2_ : v2 = .slice a2 ((unpackU b).1).root.addrs.length c2 := hv_
    clear hv_
    subst hv2_
    have hl2 := ubCs_len (v := .slice a2 ((unpackU b).1).root.addrs.length c2) hu_.root.sum hu_.pool
    have HC2 := Lib.hid (oneCell_ub (oa := a2) (n := ((unpackU b).1).root.addrs.length) (ca := c2) ((unpackU b).1))
    have HU2 := Lib.hid hu_
    have HO2 := Lib.hid ho_
    obtain ⟨lc2, hlc2⟩ : ∃ x, ubCs (.slice a2 ((unpackU b).1).root.addrs.length c2) ((unpackU b).1) = x := ⟨_, rfl⟩
    rw [hlc2] at hl2 HC2
    try rw [hlc2]
    have HLC2 := Lib.hid hlc2
    clear hlc2
    clear hu_ ho_
    have HF2 := Lib.hid (HO2.out.lt)
    go_wp2_with (first
      | ((with_reducible show wpList _ _ _ (⟨_, .alloc 28, _, _, _, _⟩ :: _) _ _); refine wpList_alloc_at rfl 28 rfl _ HZV.out zc.toArray rfl ?_)
      | ((with_reducible show wpList _ _ _ (⟨none, .store 28 (.tmp 6) (.tmp 24), _, _, _, _⟩ :: _) _ _)
         refine wpList_store_agg rfl 28 (.tmp 6) (.tmp 24) rfl w4.heap.size 0 lc2 rfl rfl zc.toArray _ (heap_alloc_new _ _) (by rw [hl2, List.size_toArray, hzl]; exact Nat.le_refl _) (sizeUbL hl2) HC2.out ?_
         intro w5 hb5 hk5
         rw [spl_whole _ _ (by rw [hl2, List.size_toArray, hzl])] at hb5
         have hkb : Keep noBlk w4 w5 := ((Keep.refl noBlk w4).alloc _).trans' hk5 (fun _ _ h => h.elim) (fun i hi e => by omega)
         clear hk5
         obtain ⟨b2, hb_⟩ : ∃ b, w4.heap.size = b := ⟨_, rfl⟩
         rw [hb_] at hb5 ⊢
         have HBS2 := Lib.hid hb_; clear hb_
         have HB2 := Lib.hid hb5; clear hb5)
      | ((with_reducible show wpList _ _ _ (⟨_, .load 28 (.tmp 4), _, _, _, _⟩ :: _) _ _); refine wpList_load_mid rfl 28 (.tmp 4) rfl b1 0 rfl lc1 _ (rangeAt_whole (hkb.blk HB1.out id)) ubUnder rfl (sizeUbL hl1) ?_)
      | ((with_reducible show wpList _ _ _ (⟨_, .load 28 (.tmp 6), _, _, _, _⟩ :: _) _ _); refine wpList_load_mid rfl 28 (.tmp 6) rfl b2 0 rfl lc2 _ (rangeAt_whole HB2.out) ubUnder rfl (sizeUbL hl2) ?_))
    have HR := Lib.hid (HR.out.keep hkb fun _ _ => id)
    have HG := Lib.hid (HG.out.keep hkb)
    have HK := Lib.hid (HK.out.trans hkb)
    have HLE := Lib.hid (HLE.out.keep hkb id)
    have HKA := Lib.hid (HKA.out.trans hkb)
    have HU1 := Lib.hid (HU1.out.keep hkb fun _ _ => id)
    have HO1 := Lib.hid (hkb.owns HO1.out fun _ _ => id)
    have HB1 := Lib.hid (hkb.blk HB1.out id)
    have HKE := Lib.hid (HKE.out.trans hkb)
    have HU2 := Lib.hid (HU2.out.keep hkb fun _ _ => id)
    have HO2 := Lib.hid (hkb.owns HO2.out fun _ _ => id)
    clear hkb
    have CS := kitU_any w5 _ _ _ _ HU1.out HU2.out
    rw [eqB_refl, HLC1.out, HLC2.out] at CS
    refine CS.mono ?_
    clear CS
    rintro e w6 ⟨rfl, hk⟩
    have HR := Lib.hid (HR.out.keep hk fun _ _ => id)
    have HG := Lib.hid (HG.out.keep hk)
    have HK := Lib.hid (HK.out.trans hk)
    have HLE := Lib.hid (HLE.out.keep hk id)
    have HKA := Lib.hid (HKA.out.trans hk)
    have HU1 := Lib.hid (HU1.out.keep hk fun _ _ => id)
    have HO1 := Lib.hid (hk.owns HO1.out fun _ _ => id)
    have HB1 := Lib.hid (hk.blk HB1.out id)
    have HKE := Lib.hid (HKE.out.trans hk)
    have HU2 := Lib.hid (HU2.out.keep hk fun _ _ => id)
    have HO2 := Lib.hid (hk.owns HO2.out fun _ _ => id)
    have HB2 := Lib.hid (hk.blk HB2.out id)
    clear hk
    obtain ⟨er, her⟩ : ∃ x, (unpackU b).2 = x := ⟨_, rfl⟩
    rw [her]
    clear her
    have hadr := blk_cell (i := 1) (v := .slice a1 (unpackU b).1.root.addrs.length c1) HB1.out (by rw [← HLC1.out]; rfl)
    go_wp2_with fail
    clear hadr
    refine (overAd_any w6 _ _ _ _ HO1.out).mono ?_
    rintro e w7 ⟨rfl, hk⟩
    have HK := Lib.hid (HK.out.trans' hk (U := noBlk) (fun _ _ h => h) (fun i hi e => by have := (HF1.out i e).1; omega))
    have HKA := Lib.hid (HKA.out.trans' hk (U := noBlk) (fun _ _ h => h) (fun i hi e => by have := (HF1.out i e).1; omega))
    have HR := Lib.hid (HR0.out.keep HK.out fun _ _ => id); have HG := Lib.hid (HG0.out.keep HK.out); have HLE := Lib.hid (HLE0.out.keep HKA.out id)
    have HB1 := Lib.hid (hk.blk HB1.out (fun e => by have := (HF1.out _ e).2; have := HBS1.out; omega))
    have HB2 := Lib.hid (hk.blk HB2.out (fun e => by have := (HF1.out _ e).2; have := HBS1.out; have := HBS2.out; omega))
    have HU2 := Lib.hid (HU2.out.keep hk (fun i hi e => by have := (HF1.out i e).2; have := HBS1.out; have := (HF2.out i hi).1; omega))
    clear hk HU1 HO1 HO2 HKE
    go_wp2_with fail
    refine ((uunpack_any w7 aF aR HG.out (.slice (some ⟨lg, 0, none⟩) n (n + 3)) b (by have h := HLE.out.rd (by rw [HN.out]; omega); rw [HN.out] at h ⊢; exact h) (by rw [HN.out]; omega)).mono fun e w' h => UUnpackPost.V h).mono ?_
    rintro e w8 ⟨v3, rfl, hu_, ho_, hk⟩
    have hsz3 := hk.size
    have HR := Lib.hid (HR.out.keep hk fun _ _ => id)
    have HG := Lib.hid (HG.out.keep hk)
    have HK := Lib.hid (HK.out.trans hk)
    have HLE := Lib.hid (HLE.out.keep hk id)
    have HKA := Lib.hid (HKA.out.trans hk)
    have HB1 := Lib.hid (hk.blk HB1.out id)
    have HU2 := Lib.hid (HU2.out.keep hk fun _ _ => id)
    have HB2 := Lib.hid (hk.blk HB2.out id)
    clear hk
    obtain ⟨a3, c3, hv_, -, -⟩ := hu_.root.rd.form
    have hv2_ : v3 = .slice a3 ((unpackU b).1).root.addrs.length c3 := hv_
    clear hv_
    subst hv2_
    have hl3 := ubCs_len (v := .slice a3 ((unpackU b).1).root.addrs.length c3) hu_.root.sum hu_.pool
    have HC3 := Lib.hid (oneCell_ub (oa := a3) (n := ((unpackU b).1).root.addrs.length) (ca := c3) ((unpackU b).1))
    have HU3 := Lib.hid hu_
    have HO3 := Lib.hid ho_
    obtain ⟨lc3, hlc3⟩ : ∃ x, ubCs (.slice a3 ((unpackU b).1).root.addrs.length c3) ((unpackU b).1) = x := ⟨_, rfl⟩
    rw [hlc3] at hl3 HC3
    try rw [hlc3]
    have HLC3 := Lib.hid hlc3
    clear hlc3
    clear hu_ ho_
    have HF3 := Lib.hid (HO3.out.lt)
    go_wp2_with (first
      | ((with_reducible show wpList _ _ _ (⟨_, .alloc 28, _, _, _, _⟩ :: _) _ _); refine wpList_alloc_at rfl 28 rfl _ HZV.out zc.toArray rfl ?_)
      | ((with_reducible show wpList _ _ _ (⟨none, .store 28 (.tmp 8) (.tmp 42), _, _, _, _⟩ :: _) _ _)
         refine wpList_store_agg rfl 28 (.tmp 8) (.tmp 42) rfl w8.heap.size 0 lc3 rfl rfl zc.toArray _ (heap_alloc_new _ _) (by rw [hl3, List.size_toArray, hzl]; exact Nat.le_refl _) (sizeUbL hl3) HC3.out ?_
         intro w9 hb5 hk5
         rw [spl_whole _ _ (by rw [hl3, List.size_toArray, hzl])] at hb5
         have hkb : Keep noBlk w8 w9 := ((Keep.refl noBlk w8).alloc _).trans' hk5 (fun _ _ h => h.elim) (fun i hi e => by omega)
         clear hk5
         obtain ⟨b3, hb_⟩ : ∃ b, w8.heap.size = b := ⟨_, rfl⟩
         rw [hb_] at hb5 ⊢
         have HBS3 := Lib.hid hb_; clear hb_
         have HB3 := Lib.hid hb5; clear hb5)
      | ((with_reducible show wpList _ _ _ (⟨_, .load 28 (.tmp 8), _, _, _, _⟩ :: _) _ _); refine wpList_load_mid rfl 28 (.tmp 8) rfl b3 0 rfl lc3 _ (rangeAt_whole HB3.out) ubUnder rfl (sizeUbL hl3) ?_)
      | ((with_reducible show wpList _ _ _ (⟨_, .load 28 (.tmp 6), _, _, _, _⟩ :: _) _ _); refine wpList_load_mid rfl 28 (.tmp 6) rfl b2 0 rfl lc2 _ (rangeAt_whole (hkb.blk HB2.out id)) ubUnder rfl (sizeUbL hl2) ?_))
    have HR := Lib.hid (HR.out.keep hkb fun _ _ => id)
    have HG := Lib.hid (HG.out.keep hkb)
    have HK := Lib.hid (HK.out.trans hkb)
    have HLE := Lib.hid (HLE.out.keep hkb id)
    have HKA := Lib.hid (HKA.out.trans hkb)
    have HB1 := Lib.hid (hkb.blk HB1.out id)
    have HU2 := Lib.hid (HU2.out.keep hkb fun _ _ => id)
    have HB2 := Lib.hid (hkb.blk HB2.out id)
    have HU3 := Lib.hid (HU3.out.keep hkb fun _ _ => id)
    have HO3 := Lib.hid (hkb.owns HO3.out fun _ _ => id)
    clear hkb
    have CS := kitU_any w9 _ _ _ _ HU3.out HU2.out
    rw [eqB_refl, HLC3.out, HLC2.out] at CS
    refine CS.mono ?_
    clear CS
    rintro e wa ⟨rfl, hk⟩
    have HR := Lib.hid (HR.out.keep hk fun _ _ => id)
    have HG := Lib.hid (HG.out.keep hk)
    have HK := Lib.hid (HK.out.trans hk)
    have HLE := Lib.hid (HLE.out.keep hk id)
    have HKA := Lib.hid (HKA.out.trans hk)
    have HB1 := Lib.hid (hk.blk HB1.out id)
    have HU2 := Lib.hid (HU2.out.keep hk fun _ _ => id)
    have HB2 := Lib.hid (hk.blk HB2.out id)
    have HU3 := Lib.hid (HU3.out.keep hk fun _ _ => id)
    have HO3 := Lib.hid (hk.owns HO3.out fun _ _ => id)
    have HB3 := Lib.hid (hk.blk HB3.out id)
    clear hk
    go_wp2_with fail
    have CK := kept_any wa _ b (by rw [HN.out]; exact HR.out) (by rw [HN.out]; omega) lg HLE.out
    rw [HN.out] at CK
    refine CK.mono ?_
    clear CK
    rintro e wb ⟨rfl, hk⟩
    have HR := Lib.hid (HR.out.keep hk fun _ _ => id)
    have HG := Lib.hid (HG.out.keep hk)
    have HK := Lib.hid (HK.out.trans hk)
    have HLE := Lib.hid (HLE.out.keep hk id)
    have HKA := Lib.hid (HKA.out.trans hk)
    have HB1 := Lib.hid (hk.blk HB1.out id)
    have HU2 := Lib.hid (HU2.out.keep hk fun _ _ => id)
    have HB2 := Lib.hid (hk.blk HB2.out id)
    have HU3 := Lib.hid (HU3.out.keep hk fun _ _ => id)
    have HO3 := Lib.hid (hk.owns HO3.out fun _ _ => id)
    have HB3 := Lib.hid (hk.blk HB3.out id)
    clear hk
    go_wp2_with fail
    refine (awakeB_any wb aF aR HG.out).mono ?_
    rintro e wc ⟨rfl, hk⟩
    have HR := Lib.hid (HR.out.keep hk fun _ _ => id)
    have HG := Lib.hid (HG.out.keep hk)
    have HK := Lib.hid (HK.out.trans hk)
    have HLE := Lib.hid (HLE.out.keep hk id)
    have HKA := Lib.hid (HKA.out.trans hk)
    have HB1 := Lib.hid (hk.blk HB1.out id)
    have HU2 := Lib.hid (HU2.out.keep hk fun _ _ => id)
    have HB2 := Lib.hid (hk.blk HB2.out id)
    have HU3 := Lib.hid (HU3.out.keep hk fun _ _ => id)
    have HO3 := Lib.hid (hk.owns HO3.out fun _ _ => id)
    have HB3 := Lib.hid (hk.blk HB3.out id)
    clear hk
    go_wp2_with fail
    go_ret
    exact ⟨rfl, HK.out⟩
  · have hlong : (1000 : Int) < (n : Int) := by omega
    go_enter Tryz.func4, Tryz.ntmps4
    go_wp2_with fail
    refine (awakeB_any w aF aR HG.out).mono ?_
    rintro e w1 ⟨rfl, hk⟩
    go_wp2_with fail
    go_ret
    exact ⟨rfl, hk⟩
end Go.Proofs.YtpkpopgcfgonoaaGreatDoor
