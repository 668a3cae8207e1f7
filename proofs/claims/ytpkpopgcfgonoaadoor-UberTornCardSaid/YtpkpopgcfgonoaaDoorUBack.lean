/-
  UberBack: an uberblock's sector is read as it, and back
  Conditions: the two package variables hold errors.
-/
import Derived.Test.YtpkpopgcfgonoaaDoorUKnown
import Derived.Test.YtpkpopgcfgonoaaDoorCopy
namespace Go.Proofs.YtpkpopgcfgonoaaDoor
open Go.RowKit Go.Maps Go.ChangeMaps
set_option maxRecDepth 100000
set_option linter.unusedVariables false

theorem zeroUbCells : Tryd.zeroCells28 = (ubCs (.slice none 0 0) zUb).toArray := by kernel_rfl

set_option maxHeartbeats 16000000 in
theorem uberBack_walk (w : World) (aF aR : Addr) (hg : ErrG w aF aR) (uv : Value) (U : Ub) (hu : UbV w uv U) (bv : Value) (b : List UInt8) (hr : Rd w 1 bv b.length (b.map vb)) :
    Calls Tryd.prog 4 #[.agg (ubCs uv U).toArray, bv] w (TherePost w true) := by
  obtain ⟨zc, hzc, hzl⟩ : ∃ zc, ubCs (.slice none 0 0) zUb = zc ∧ zc.length = 69 := ⟨_, rfl, rfl⟩
  have hzv : ∀ w, (zeroValue 28).run Tryd.prog w = .ok (.agg zc.toArray) w := by rw [← hzc]; exact zeroValUb
  have HZV := Lib.hid hzv; have HZC := Lib.hid hzc
  clear hzc hzv
  obtain ⟨au, cu, hv_, -, -⟩ := hu.root.rd.form
  have hv2_ : uv = .slice au (U).root.addrs.length cu := hv_
  clear hv_
  subst hv2_
  have hlu := ubCs_len (v := .slice au (U).root.addrs.length cu) hu.root.sum hu.pool
  have HCu := Lib.hid (oneCell_ub (oa := au) (n := (U).root.addrs.length) (ca := cu) (U))
  have HUu := Lib.hid hu
  obtain ⟨lcu, hlcu⟩ : ∃ x, ubCs (.slice au (U).root.addrs.length cu) (U) = x := ⟨_, rfl⟩
  rw [hlcu] at hlu HCu
  try rw [hlcu]
  have HLCu := Lib.hid hlcu
  clear hlcu
  clear hu
  obtain ⟨a, c, rfl, -, -⟩ := hr.form
  obtain ⟨n, hn⟩ : ∃ n, b.length = n := ⟨_, rfl⟩
  have hnm : n ≤ maxLen := by obtain ⟨a', c', h1, h2, h3⟩ := hr.form; omega
  unfold maxLen at hnm
  obtain ⟨nu, hnu⟩ : ∃ n, U.root.addrs.length = n := ⟨_, rfl⟩
  have hmu : nu ≤ maxLen := by obtain ⟨a', c', h1, h2, h3⟩ := HUu.out.root.rd.form; omega
  unfold maxLen at hmu
  obtain ⟨w1, hw1, k1, hb1, s1⟩ := alloc_facts w lcu.toArray 28
  have HNu := Lib.hid hnu; have HN := Lib.hid hn
  have HBu := Lib.hid hb1; have HK := Lib.hid k1; have HUu := Lib.hid (HUu.out.keep k1 fun _ _ => id); have HG := Lib.hid (hg.keep k1)
  have HR := Lib.hid (hr.keep k1 fun _ _ => id)
  rw [hn] at HR ⊢
  obtain ⟨bu, hbu⟩ : ∃ b, w.heap.size = b := ⟨_, rfl⟩
  rw [hbu] at HBu s1
  have HBN := Lib.hid hbu
  have hbz := buildUbZ
  rw [HZC.out] at hbz
  have HBZ := Lib.hid hbz
  clear k1 hb1 hg hr hn hnu hbz
  go_enter Tryd.func4, Tryd.ntmps4
  go_wp2_with fail
  clear hw1 s1 hbu
  refine (uberKnown_walk w1 aF aR HG.out).mono ?_
  rintro e w2 ⟨rfl, hk⟩
  have HBu := Lib.hid (hk.blk HBu.out id)
  have HK := Lib.hid (HK.out.trans hk)
  have HUu := Lib.hid (HUu.out.keep hk fun _ _ => id)
  have HG := Lib.hid (HG.out.keep hk)
  have HR := Lib.hid (HR.out.keep hk fun _ _ => id)
  clear hk
  have hcu := blk_cell (i := 1) (v := .slice au U.root.addrs.length cu) HBu.out (by rw [← HLCu.out]; rfl)
  rw [HNu.out] at hcu
  by_cases hu20 : nu ≤ 20
  · by_cases hn1 : n ≤ 1000
    · have hs1 : (nu : Int) ≤ 20 := by omega
      have hs : (n : Int) ≤ 1000 := by omega
      cases hm : U.may
      · go_wp2_with (first
          | ((with_reducible show wpList _ _ _ (⟨_, .load 28 (.tmp 2), _, _, _, _⟩ :: _) _ _); refine wpList_load_g (by rfl) 28 (.tmp 2) rfl bu 0 rfl lcu _ (rangeAt_whole HBu.out) ubUnder rfl (sizeUbL hlu) ?_))
        refine (show Calls Tryd.prog 11 #[.agg lcu.toArray] w2 (UPackPost w2 U) from by rw [← HLCu.out]; exact upack_any w2 _ U HUu.out).mono ?_
        rintro e w3 ⟨va, rfl, hoa, hk⟩
        rw [hm]
        have HBu := Lib.hid (hk.blk HBu.out id)
        have HK := Lib.hid (HK.out.trans hk)
        have HUu := Lib.hid (HUu.out.keep hk fun _ _ => id)
        have HG := Lib.hid (HG.out.keep hk)
        have HR := Lib.hid (HR.out.keep hk fun _ _ => id)
        clear hk
        have hpe : packU U = [] := by unfold packU; rw [hm]; rfl
        rw [hpe] at hoa
        obtain ⟨aa, ca, hva, -, -⟩ := (Rd.of_owns hoa).form
        have hva2 : va = .slice aa 0 ca := hva
        subst hva2
        clear hva
        have HOa := Lib.hid hoa; have HM := Lib.hid hm
        clear hoa hm
        go_wp2_with (first
          | ((with_reducible show wpList _ _ _ (⟨_, .load 28 (.tmp 2), _, _, _, _⟩ :: _) _ _); refine wpList_load_g (by rfl) 28 (.tmp 2) rfl bu 0 rfl lcu _ (rangeAt_whole HBu.out) ubUnder rfl (sizeUbL hlu) ?_))
        have CC : Calls Tryd.prog 7 #[.agg lcu.toArray] w3 (fun e w' => e = .returned (.int .i64 2) ∧ Keep noBlk w3 w') := by
          have h := checkU_any w3 _ U HUu.out
          rw [HM.out] at h
          rw [← HLCu.out]
          exact h
        refine CC.mono ?_
        clear CC
        rintro e w4 ⟨rfl, hk⟩
        have HBu := Lib.hid (hk.blk HBu.out id)
        have HK := Lib.hid (HK.out.trans hk)
        have HUu := Lib.hid (HUu.out.keep hk fun _ _ => id)
        have HG := Lib.hid (HG.out.keep hk)
        have HR := Lib.hid (HR.out.keep hk fun _ _ => id)
        have HOa := Lib.hid (hk.owns HOa.out fun _ _ => id)
        clear hk
        go_wp2_with fail
        clear HOa
        by_cases he : (unpackU b).2 = 0
        · obtain ⟨gl, ge, gm, gp⟩ := unpackU_ok he
          obtain ⟨X, hX⟩ : ∃ x, ubOf b = x := ⟨_, rfl⟩
          rw [hX] at ge gm gp
          have GE := Lib.hid ge; have GM := Lib.hid gm; have GP := Lib.hid gp
          clear gl ge gm gp hX he
          refine ((uunpack_any w4 aF aR HG.out _ b (by rw [HN.out]; exact HR.out) (by rw [HN.out]; omega)).mono fun e w' h => UUnpackPost.V h).mono ?_
          rintro e w5 ⟨vm, rfl, hu_, ho_, hk⟩
          rw [GE.out] at hu_ ⊢
          clear ho_
          have HBu := Lib.hid (hk.blk HBu.out id)
          have HK := Lib.hid (HK.out.trans hk)
          have HUu := Lib.hid (HUu.out.keep hk fun _ _ => id)
          have HG := Lib.hid (HG.out.keep hk)
          have HR := Lib.hid (HR.out.keep hk fun _ _ => id)
          clear hk
          have hu2 : UbV w5 vm X := hu_
          clear hu_
          obtain ⟨am, cm, hv_, -, -⟩ := hu2.root.rd.form
          have hv2_ : vm = .slice am (X).root.addrs.length cm := hv_
          clear hv_
          subst hv2_
          have hlm := ubCs_len (v := .slice am (X).root.addrs.length cm) hu2.root.sum hu2.pool
          have HCm := Lib.hid (oneCell_ub (oa := am) (n := (X).root.addrs.length) (ca := cm) (X))
          have HUm := Lib.hid hu2
          obtain ⟨lcm, hlcm⟩ : ∃ x, ubCs (.slice am (X).root.addrs.length cm) (X) = x := ⟨_, rfl⟩
          rw [hlcm] at hlm HCm
          try rw [hlcm]
          have HLCm := Lib.hid hlcm
          clear hlcm
          clear hu2
          try rw [show (X, (0 : Int)).1 = X from rfl]
          try rw [HLCm.out]
          go_wp2_with (first
            | ((with_reducible show wpList _ _ _ (⟨_, .alloc 28, _, _, _, _⟩ :: _) _ _); refine wpList_alloc_at rfl 28 rfl _ HZV.out zc.toArray rfl ?_)
            | ((with_reducible show wpList _ _ _ (⟨none, .store 28 (.tmp 10) (.tmp 73), _, _, _, _⟩ :: _) _ _)
               refine wpList_store_agg rfl 28 (.tmp 10) (.tmp 73) rfl w5.heap.size 0 lcm rfl rfl zc.toArray _ (heap_alloc_new _ _) (by rw [hlm, List.size_toArray, hzl]; exact Nat.le_refl _) (sizeUbL hlm) HCm.out ?_
               intro w6 hb5 hk5
               rw [spl_whole _ _ (by rw [hlm, List.size_toArray, hzl])] at hb5
               have hkb : Keep noBlk w5 w6 := ((Keep.refl noBlk w5).alloc _).trans' hk5 (fun _ _ h => h.elim) (fun i hi e => by omega)
               clear hk5
               obtain ⟨bm, hb_⟩ : ∃ b, w5.heap.size = b := ⟨_, rfl⟩
               rw [hb_] at hb5 ⊢
               have HBSm := Lib.hid hb_; clear hb_
               have HBm := Lib.hid hb5; clear hb5)
            | ((with_reducible show wpList _ _ _ (⟨_, .load 28 (.tmp 10), _, _, _, _⟩ :: _) _ _); refine wpList_load_g (by rfl) 28 (.tmp 10) rfl bm 0 rfl lcm _ (rangeAt_whole HBm.out) ubUnder rfl (sizeUbL hlm) ?_))
          have HBu := Lib.hid (hkb.blk HBu.out id)
          have HK := Lib.hid (HK.out.trans hkb)
          have HUu := Lib.hid (HUu.out.keep hkb fun _ _ => id)
          have HG := Lib.hid (HG.out.keep hkb)
          have HR := Lib.hid (HR.out.keep hkb fun _ _ => id)
          have HUm := Lib.hid (HUm.out.keep hkb fun _ _ => id)
          clear hkb
          refine (show Calls Tryd.prog 11 #[.agg lcm.toArray] w6 (UPackPost w6 X) from by rw [← HLCm.out]; exact upack_any w6 _ X HUm.out).mono ?_
          rintro e w7 ⟨vc, rfl, hoc, hk⟩
          rw [GM.out]
          rw [GP.out, HN.out] at hoc
          obtain ⟨ac, cc, rfl, -, -⟩ := (Rd.of_owns hoc).form
          have HOc := Lib.hid hoc
          clear hoc
          have HBu := Lib.hid (hk.blk HBu.out id)
          have HK := Lib.hid (HK.out.trans hk)
          have HUu := Lib.hid (HUu.out.keep hk fun _ _ => id)
          have HG := Lib.hid (HG.out.keep hk)
          have HR := Lib.hid (HR.out.keep hk fun _ _ => id)
          have HUm := Lib.hid (HUm.out.keep hk fun _ _ => id)
          have HBm := Lib.hid (hk.blk HBm.out id)
          clear hk
          go_wp2_with fail
          refine (same_any w7 _ _ b b (by rw [HN.out]; exact Rd.of_owns HOc.out) (by rw [HN.out]; exact HR.out) true (by simp)).mono ?_
          rintro e w8 ⟨rfl, hw⟩
          subst hw
          go_wp2_with fail
          go_ret
          exact ⟨rfl, HK.out⟩
        · obtain ⟨er, her⟩ : ∃ x, (unpackU b).2 = x := ⟨_, rfl⟩
          have hz1 := unpackU_no he
          rw [her] at he
          have ht : (er != 0) = true := by simpa using he
          have HER := Lib.hid her; have HZ1 := Lib.hid hz1; have HT := Lib.hid ht
          clear her hz1 he ht
          refine ((uunpack_any w4 aF aR HG.out _ b (by rw [HN.out]; exact HR.out) (by rw [HN.out]; omega)).mono fun e w' h => UUnpackPost.V h).mono ?_
          rintro e w5 ⟨vm, rfl, hu_, ho_, hk⟩
          rw [HZ1.out] at hu_ ⊢
          rw [HER.out]
          have ht := HT.out
          clear ho_
          have HBu := Lib.hid (hk.blk HBu.out id)
          have HK := Lib.hid (HK.out.trans hk)
          have HUu := Lib.hid (HUu.out.keep hk fun _ _ => id)
          have HG := Lib.hid (HG.out.keep hk)
          have HR := Lib.hid (HR.out.keep hk fun _ _ => id)
          clear hk
          obtain ⟨am, cm, hv_, -, -⟩ := hu_.root.rd.form
          have hv2_ : vm = .slice am (zUb).root.addrs.length cm := hv_
          clear hv_
          subst hv2_
          have hlm := ubCs_len (v := .slice am (zUb).root.addrs.length cm) hu_.root.sum hu_.pool
          have HCm := Lib.hid (oneCell_ub (oa := am) (n := (zUb).root.addrs.length) (ca := cm) (zUb))
          have HUm := Lib.hid hu_
          obtain ⟨lcm, hlcm⟩ : ∃ x, ubCs (.slice am (zUb).root.addrs.length cm) (zUb) = x := ⟨_, rfl⟩
          rw [hlcm] at hlm HCm
          try rw [hlcm]
          have HLCm := Lib.hid hlcm
          clear hlcm
          clear hu_
          have hbz := HBZ.out
          go_wp2_with (first
            | ((with_reducible show wpList _ _ _ (⟨_, .alloc 28, _, _, _, _⟩ :: _) _ _); refine wpList_alloc_at rfl 28 rfl _ HZV.out zc.toArray rfl ?_)
            | ((with_reducible show wpList _ _ _ (⟨none, .store 28 (.tmp 10) (.tmp 73), _, _, _, _⟩ :: _) _ _)
               refine wpList_store_agg rfl 28 (.tmp 10) (.tmp 73) rfl w5.heap.size 0 lcm rfl rfl zc.toArray _ (heap_alloc_new _ _) (by rw [hlm, List.size_toArray, hzl]; exact Nat.le_refl _) (sizeUbL hlm) HCm.out ?_
               intro w6 hb5 hk5
               rw [spl_whole _ _ (by rw [hlm, List.size_toArray, hzl])] at hb5
               have hkb : Keep noBlk w5 w6 := ((Keep.refl noBlk w5).alloc _).trans' hk5 (fun _ _ h => h.elim) (fun i hi e => by omega)
               clear hk5
               obtain ⟨bm, hb_⟩ : ∃ b, w5.heap.size = b := ⟨_, rfl⟩
               rw [hb_] at hb5 ⊢
               have HBSm := Lib.hid hb_; clear hb_
               have HBm := Lib.hid hb5; clear hb5)
            | ((with_reducible show wpList _ _ _ (⟨_, .load 28 (.tmp 10), _, _, _, _⟩ :: _) _ _); refine wpList_load_g (by rfl) 28 (.tmp 10) rfl bm 0 rfl lcm _ (rangeAt_whole HBm.out) ubUnder rfl (sizeUbL hlm) ?_))
          have HBu := Lib.hid (hkb.blk HBu.out id)
          have HK := Lib.hid (HK.out.trans hkb)
          have HUu := Lib.hid (HUu.out.keep hkb fun _ _ => id)
          have HG := Lib.hid (HG.out.keep hkb)
          have HR := Lib.hid (HR.out.keep hkb fun _ _ => id)
          have HUm := Lib.hid (HUm.out.keep hkb fun _ _ => id)
          clear hkb
          have CC : Calls Tryd.prog 12 #[.agg lcm.toArray, .agg Tryd.zeroCells28] w6 (TherePost w6 true) := by
            have h := kitU_any w6 _ _ zUb zUb HUm.out (ubV_flat w6 0 0)
            rw [eqB_refl] at h
            rw [← HLCm.out, zeroUbCells]
            exact h
          refine CC.mono ?_
          clear CC
          rintro e w7 ⟨rfl, hk⟩
          have HBu := Lib.hid (hk.blk HBu.out id)
          have HK := Lib.hid (HK.out.trans hk)
          have HUu := Lib.hid (HUu.out.keep hk fun _ _ => id)
          have HG := Lib.hid (HG.out.keep hk)
          have HR := Lib.hid (HR.out.keep hk fun _ _ => id)
          have HUm := Lib.hid (HUm.out.keep hk fun _ _ => id)
          have HBm := Lib.hid (hk.blk HBm.out id)
          clear hk
          go_wp2_with fail
          go_ret
          exact ⟨rfl, HK.out⟩
      · go_wp2_with (first
          | ((with_reducible show wpList _ _ _ (⟨_, .load 28 (.tmp 2), _, _, _, _⟩ :: _) _ _); refine wpList_load_g (by rfl) 28 (.tmp 2) rfl bu 0 rfl lcu _ (rangeAt_whole HBu.out) ubUnder rfl (sizeUbL hlu) ?_))
        refine (show Calls Tryd.prog 11 #[.agg lcu.toArray] w2 (UPackPost w2 U) from by rw [← HLCu.out]; exact upack_any w2 _ U HUu.out).mono ?_
        rintro e w3 ⟨va, rfl, hoa, hk⟩
        rw [hm]
        have HBu := Lib.hid (hk.blk HBu.out id)
        have HK := Lib.hid (HK.out.trans hk)
        have HUu := Lib.hid (HUu.out.keep hk fun _ _ => id)
        have HG := Lib.hid (HG.out.keep hk)
        have HR := Lib.hid (HR.out.keep hk fun _ _ => id)
        clear hk
        have hpl : (packU U).length = 256 := packU_len HUu.out.pool HUu.out.root.sum hm
        rw [hpl] at hoa
        obtain ⟨aa, ca, rfl, -, -⟩ := (Rd.of_owns hoa).form
        have HOa := Lib.hid hoa; have HM := Lib.hid hm
        clear hoa hm
        go_wp2_with (first
          | ((with_reducible show wpList _ _ _ (⟨_, .load 28 (.tmp 2), _, _, _, _⟩ :: _) _ _); refine wpList_load_g (by rfl) 28 (.tmp 2) rfl bu 0 rfl lcu _ (rangeAt_whole HBu.out) ubUnder rfl (sizeUbL hlu) ?_))
        have CC : Calls Tryd.prog 7 #[.agg lcu.toArray] w3 (fun e w' => e = .returned (.int .i64 0) ∧ Keep noBlk w3 w') := by
          have h := checkU_any w3 _ U HUu.out
          rw [HM.out] at h
          rw [← HLCu.out]
          exact h
        refine CC.mono ?_
        clear CC
        rintro e w4 ⟨rfl, hk⟩
        have HBu := Lib.hid (hk.blk HBu.out id)
        have HK := Lib.hid (HK.out.trans hk)
        have HUu := Lib.hid (HUu.out.keep hk fun _ _ => id)
        have HG := Lib.hid (HG.out.keep hk)
        have HR := Lib.hid (HR.out.keep hk fun _ _ => id)
        have HOa := Lib.hid (hk.owns HOa.out fun _ _ => id)
        clear hk
        go_wp2_with fail
        obtain ⟨s, hs⟩ : ∃ l, packU U = l := ⟨_, rfl⟩
        have e1 : unpackU s = (U, 0) := by rw [← hs]; exact unpackU_back HUu.out.pool HUu.out.root.sum HM.out
        have hrs : Rd w4 1 (.slice aa 256 ca) s.length (s.map vb) := by rw [← hs, packU_len HUu.out.pool HUu.out.root.sum HM.out]; exact Rd.of_owns HOa.out
        have hsl : s.length ≤ 65536 := by rw [← hs, packU_len HUu.out.pool HUu.out.root.sum HM.out]; omega
        have HRS := Lib.hid hrs; have E1 := Lib.hid e1
        clear hs e1 hrs
        refine ((uunpack_any w4 aF aR HG.out _ s HRS.out hsl).mono fun e w' h => UUnpackPost.V h).mono ?_
        rintro e w5 ⟨vk, rfl, hu_, ho_, hk⟩
        rw [E1.out] at hu_ ⊢
        clear HRS ho_
        have HBu := Lib.hid (hk.blk HBu.out id)
        have HK := Lib.hid (HK.out.trans hk)
        have HUu := Lib.hid (HUu.out.keep hk fun _ _ => id)
        have HG := Lib.hid (HG.out.keep hk)
        have HR := Lib.hid (HR.out.keep hk fun _ _ => id)
        have HOa := Lib.hid (hk.owns HOa.out fun _ _ => id)
        clear hk
        have hu2 : UbV w5 vk U := hu_
        clear hu_
        obtain ⟨ak, ck, hv_, -, -⟩ := hu2.root.rd.form
        have hv2_ : vk = .slice ak (U).root.addrs.length ck := hv_
        clear hv_
        subst hv2_
        have hlk := ubCs_len (v := .slice ak (U).root.addrs.length ck) hu2.root.sum hu2.pool
        have HCk := Lib.hid (oneCell_ub (oa := ak) (n := (U).root.addrs.length) (ca := ck) (U))
        have HUk := Lib.hid hu2
        obtain ⟨lck, hlck⟩ : ∃ x, ubCs (.slice ak (U).root.addrs.length ck) (U) = x := ⟨_, rfl⟩
        rw [hlck] at hlk HCk
        try rw [hlck]
        have HLCk := Lib.hid hlck
        clear hlck
        clear hu2
        try rw [show (U, (0 : Int)).1 = U from rfl]
        try rw [HLCk.out]
        go_wp2_with (first
          | ((with_reducible show wpList _ _ _ (⟨_, .alloc 28, _, _, _, _⟩ :: _) _ _); refine wpList_alloc_at rfl 28 rfl _ HZV.out zc.toArray rfl ?_)
          | ((with_reducible show wpList _ _ _ (⟨none, .store 28 (.tmp 8) (.tmp 49), _, _, _, _⟩ :: _) _ _)
             refine wpList_store_agg rfl 28 (.tmp 8) (.tmp 49) rfl w5.heap.size 0 lck rfl rfl zc.toArray _ (heap_alloc_new _ _) (by rw [hlk, List.size_toArray, hzl]; exact Nat.le_refl _) (sizeUbL hlk) HCk.out ?_
             intro w6 hb5 hk5
             rw [spl_whole _ _ (by rw [hlk, List.size_toArray, hzl])] at hb5
             have hkb : Keep noBlk w5 w6 := ((Keep.refl noBlk w5).alloc _).trans' hk5 (fun _ _ h => h.elim) (fun i hi e => by omega)
             clear hk5
             obtain ⟨bk, hb_⟩ : ∃ b, w5.heap.size = b := ⟨_, rfl⟩
             rw [hb_] at hb5 ⊢
             have HBSk := Lib.hid hb_; clear hb_
             have HBk := Lib.hid hb5; clear hb5)
          | ((with_reducible show wpList _ _ _ (⟨_, .load 28 (.tmp 2), _, _, _, _⟩ :: _) _ _); refine wpList_load_g (by rfl) 28 (.tmp 2) rfl bu 0 rfl lcu _ (rangeAt_whole (hkb.blk HBu.out id)) ubUnder rfl (sizeUbL hlu) ?_)
          | ((with_reducible show wpList _ _ _ (⟨_, .load 28 (.tmp 8), _, _, _, _⟩ :: _) _ _); refine wpList_load_g (by rfl) 28 (.tmp 8) rfl bk 0 rfl lck _ (rangeAt_whole HBk.out) ubUnder rfl (sizeUbL hlk) ?_))
        have HBu := Lib.hid (hkb.blk HBu.out id)
        have HK := Lib.hid (HK.out.trans hkb)
        have HUu := Lib.hid (HUu.out.keep hkb fun _ _ => id)
        have HG := Lib.hid (HG.out.keep hkb)
        have HR := Lib.hid (HR.out.keep hkb fun _ _ => id)
        have HOa := Lib.hid (hkb.owns HOa.out fun _ _ => id)
        have HUk := Lib.hid (HUk.out.keep hkb fun _ _ => id)
        clear hkb
        refine ((show Calls Tryd.prog 12 #[.agg lcu.toArray, .agg lck.toArray] w6 (TherePost w6 true) from by
          have h := kitU_any w6 _ _ (U) (U) HUu.out HUk.out
          rw [eqB_refl] at h
          rw [← HLCu.out, ← HLCk.out]
          exact h)).mono ?_
        rintro e w7 ⟨rfl, hk⟩
        have HBu := Lib.hid (hk.blk HBu.out id)
        have HK := Lib.hid (HK.out.trans hk)
        have HUu := Lib.hid (HUu.out.keep hk fun _ _ => id)
        have HG := Lib.hid (HG.out.keep hk)
        have HR := Lib.hid (HR.out.keep hk fun _ _ => id)
        have HOa := Lib.hid (hk.owns HOa.out fun _ _ => id)
        have HUk := Lib.hid (HUk.out.keep hk fun _ _ => id)
        have HBk := Lib.hid (hk.blk HBk.out id)
        clear hk
        go_wp2_with (first
          | ((with_reducible show wpList _ _ _ (⟨_, .load 28 (.tmp 2), _, _, _, _⟩ :: _) _ _); refine wpList_load_g (by rfl) 28 (.tmp 2) rfl bu 0 rfl lcu _ (rangeAt_whole HBu.out) ubUnder rfl (sizeUbL hlu) ?_)
          | ((with_reducible show wpList _ _ _ (⟨_, .load 28 (.tmp 8), _, _, _, _⟩ :: _) _ _); refine wpList_load_g (by rfl) 28 (.tmp 8) rfl bk 0 rfl lck _ (rangeAt_whole HBk.out) ubUnder rfl (sizeUbL hlk) ?_))
        refine ((show Calls Tryd.prog 10 #[.agg lcu.toArray, .agg lck.toArray] w7 (TherePost w7 true) from by
          have h := sameU_any w7 _ _ (U) (U) HUu.out HUk.out
          rw [eqB_refl] at h
          rw [← HLCu.out, ← HLCk.out]
          exact h)).mono ?_
        rintro e w8 ⟨rfl, hk⟩
        have HBu := Lib.hid (hk.blk HBu.out id)
        have HK := Lib.hid (HK.out.trans hk)
        have HUu := Lib.hid (HUu.out.keep hk fun _ _ => id)
        have HG := Lib.hid (HG.out.keep hk)
        have HR := Lib.hid (HR.out.keep hk fun _ _ => id)
        have HOa := Lib.hid (hk.owns HOa.out fun _ _ => id)
        have HUk := Lib.hid (HUk.out.keep hk fun _ _ => id)
        have HBk := Lib.hid (hk.blk HBk.out id)
        clear hk
        go_wp2_with fail
        clear HUk HBk
        clear HOa
        by_cases he : (unpackU b).2 = 0
        · obtain ⟨gl, ge, gm, gp⟩ := unpackU_ok he
          obtain ⟨X, hX⟩ : ∃ x, ubOf b = x := ⟨_, rfl⟩
          rw [hX] at ge gm gp
          have GE := Lib.hid ge; have GM := Lib.hid gm; have GP := Lib.hid gp
          clear gl ge gm gp hX he
          refine ((uunpack_any w8 aF aR HG.out _ b (by rw [HN.out]; exact HR.out) (by rw [HN.out]; omega)).mono fun e w' h => UUnpackPost.V h).mono ?_
          rintro e w9 ⟨vm, rfl, hu_, ho_, hk⟩
          rw [GE.out] at hu_ ⊢
          clear ho_
          have HBu := Lib.hid (hk.blk HBu.out id)
          have HK := Lib.hid (HK.out.trans hk)
          have HUu := Lib.hid (HUu.out.keep hk fun _ _ => id)
          have HG := Lib.hid (HG.out.keep hk)
          have HR := Lib.hid (HR.out.keep hk fun _ _ => id)
          clear hk
          have hu2 : UbV w9 vm X := hu_
          clear hu_
          obtain ⟨am, cm, hv_, -, -⟩ := hu2.root.rd.form
          have hv2_ : vm = .slice am (X).root.addrs.length cm := hv_
          clear hv_
          subst hv2_
          have hlm := ubCs_len (v := .slice am (X).root.addrs.length cm) hu2.root.sum hu2.pool
          have HCm := Lib.hid (oneCell_ub (oa := am) (n := (X).root.addrs.length) (ca := cm) (X))
          have HUm := Lib.hid hu2
          obtain ⟨lcm, hlcm⟩ : ∃ x, ubCs (.slice am (X).root.addrs.length cm) (X) = x := ⟨_, rfl⟩
          rw [hlcm] at hlm HCm
          try rw [hlcm]
          have HLCm := Lib.hid hlcm
          clear hlcm
          clear hu2
          try rw [show (X, (0 : Int)).1 = X from rfl]
          try rw [HLCm.out]
          go_wp2_with (first
            | ((with_reducible show wpList _ _ _ (⟨_, .alloc 28, _, _, _, _⟩ :: _) _ _); refine wpList_alloc_at rfl 28 rfl _ HZV.out zc.toArray rfl ?_)
            | ((with_reducible show wpList _ _ _ (⟨none, .store 28 (.tmp 10) (.tmp 73), _, _, _, _⟩ :: _) _ _)
               refine wpList_store_agg rfl 28 (.tmp 10) (.tmp 73) rfl w9.heap.size 0 lcm rfl rfl zc.toArray _ (heap_alloc_new _ _) (by rw [hlm, List.size_toArray, hzl]; exact Nat.le_refl _) (sizeUbL hlm) HCm.out ?_
               intro wa hb5 hk5
               rw [spl_whole _ _ (by rw [hlm, List.size_toArray, hzl])] at hb5
               have hkb : Keep noBlk w9 wa := ((Keep.refl noBlk w9).alloc _).trans' hk5 (fun _ _ h => h.elim) (fun i hi e => by omega)
               clear hk5
               obtain ⟨bm, hb_⟩ : ∃ b, w9.heap.size = b := ⟨_, rfl⟩
               rw [hb_] at hb5 ⊢
               have HBSm := Lib.hid hb_; clear hb_
               have HBm := Lib.hid hb5; clear hb5)
            | ((with_reducible show wpList _ _ _ (⟨_, .load 28 (.tmp 10), _, _, _, _⟩ :: _) _ _); refine wpList_load_g (by rfl) 28 (.tmp 10) rfl bm 0 rfl lcm _ (rangeAt_whole HBm.out) ubUnder rfl (sizeUbL hlm) ?_))
          have HBu := Lib.hid (hkb.blk HBu.out id)
          have HK := Lib.hid (HK.out.trans hkb)
          have HUu := Lib.hid (HUu.out.keep hkb fun _ _ => id)
          have HG := Lib.hid (HG.out.keep hkb)
          have HR := Lib.hid (HR.out.keep hkb fun _ _ => id)
          have HUm := Lib.hid (HUm.out.keep hkb fun _ _ => id)
          clear hkb
          refine (show Calls Tryd.prog 11 #[.agg lcm.toArray] wa (UPackPost wa X) from by rw [← HLCm.out]; exact upack_any wa _ X HUm.out).mono ?_
          rintro e wb ⟨vc, rfl, hoc, hk⟩
          rw [GM.out]
          rw [GP.out, HN.out] at hoc
          obtain ⟨ac, cc, rfl, -, -⟩ := (Rd.of_owns hoc).form
          have HOc := Lib.hid hoc
          clear hoc
          have HBu := Lib.hid (hk.blk HBu.out id)
          have HK := Lib.hid (HK.out.trans hk)
          have HUu := Lib.hid (HUu.out.keep hk fun _ _ => id)
          have HG := Lib.hid (HG.out.keep hk)
          have HR := Lib.hid (HR.out.keep hk fun _ _ => id)
          have HUm := Lib.hid (HUm.out.keep hk fun _ _ => id)
          have HBm := Lib.hid (hk.blk HBm.out id)
          clear hk
          go_wp2_with fail
          refine (same_any wb _ _ b b (by rw [HN.out]; exact Rd.of_owns HOc.out) (by rw [HN.out]; exact HR.out) true (by simp)).mono ?_
          rintro e wc ⟨rfl, hw⟩
          subst hw
          go_wp2_with fail
          go_ret
          exact ⟨rfl, HK.out⟩
        · obtain ⟨er, her⟩ : ∃ x, (unpackU b).2 = x := ⟨_, rfl⟩
          have hz1 := unpackU_no he
          rw [her] at he
          have ht : (er != 0) = true := by simpa using he
          have HER := Lib.hid her; have HZ1 := Lib.hid hz1; have HT := Lib.hid ht
          clear her hz1 he ht
          refine ((uunpack_any w8 aF aR HG.out _ b (by rw [HN.out]; exact HR.out) (by rw [HN.out]; omega)).mono fun e w' h => UUnpackPost.V h).mono ?_
          rintro e w9 ⟨vm, rfl, hu_, ho_, hk⟩
          rw [HZ1.out] at hu_ ⊢
          rw [HER.out]
          have ht := HT.out
          clear ho_
          have HBu := Lib.hid (hk.blk HBu.out id)
          have HK := Lib.hid (HK.out.trans hk)
          have HUu := Lib.hid (HUu.out.keep hk fun _ _ => id)
          have HG := Lib.hid (HG.out.keep hk)
          have HR := Lib.hid (HR.out.keep hk fun _ _ => id)
          clear hk
          obtain ⟨am, cm, hv_, -, -⟩ := hu_.root.rd.form
          have hv2_ : vm = .slice am (zUb).root.addrs.length cm := hv_
          clear hv_
          subst hv2_
          have hlm := ubCs_len (v := .slice am (zUb).root.addrs.length cm) hu_.root.sum hu_.pool
          have HCm := Lib.hid (oneCell_ub (oa := am) (n := (zUb).root.addrs.length) (ca := cm) (zUb))
          have HUm := Lib.hid hu_
          obtain ⟨lcm, hlcm⟩ : ∃ x, ubCs (.slice am (zUb).root.addrs.length cm) (zUb) = x := ⟨_, rfl⟩
          rw [hlcm] at hlm HCm
          try rw [hlcm]
          have HLCm := Lib.hid hlcm
          clear hlcm
          clear hu_
          have hbz := HBZ.out
          go_wp2_with (first
            | ((with_reducible show wpList _ _ _ (⟨_, .alloc 28, _, _, _, _⟩ :: _) _ _); refine wpList_alloc_at rfl 28 rfl _ HZV.out zc.toArray rfl ?_)
            | ((with_reducible show wpList _ _ _ (⟨none, .store 28 (.tmp 10) (.tmp 73), _, _, _, _⟩ :: _) _ _)
               refine wpList_store_agg rfl 28 (.tmp 10) (.tmp 73) rfl w9.heap.size 0 lcm rfl rfl zc.toArray _ (heap_alloc_new _ _) (by rw [hlm, List.size_toArray, hzl]; exact Nat.le_refl _) (sizeUbL hlm) HCm.out ?_
               intro wa hb5 hk5
               rw [spl_whole _ _ (by rw [hlm, List.size_toArray, hzl])] at hb5
               have hkb : Keep noBlk w9 wa := ((Keep.refl noBlk w9).alloc _).trans' hk5 (fun _ _ h => h.elim) (fun i hi e => by omega)
               clear hk5
               obtain ⟨bm, hb_⟩ : ∃ b, w9.heap.size = b := ⟨_, rfl⟩
               rw [hb_] at hb5 ⊢
               have HBSm := Lib.hid hb_; clear hb_
               have HBm := Lib.hid hb5; clear hb5)
            | ((with_reducible show wpList _ _ _ (⟨_, .load 28 (.tmp 10), _, _, _, _⟩ :: _) _ _); refine wpList_load_g (by rfl) 28 (.tmp 10) rfl bm 0 rfl lcm _ (rangeAt_whole HBm.out) ubUnder rfl (sizeUbL hlm) ?_))
          have HBu := Lib.hid (hkb.blk HBu.out id)
          have HK := Lib.hid (HK.out.trans hkb)
          have HUu := Lib.hid (HUu.out.keep hkb fun _ _ => id)
          have HG := Lib.hid (HG.out.keep hkb)
          have HR := Lib.hid (HR.out.keep hkb fun _ _ => id)
          have HUm := Lib.hid (HUm.out.keep hkb fun _ _ => id)
          clear hkb
          have CC : Calls Tryd.prog 12 #[.agg lcm.toArray, .agg Tryd.zeroCells28] wa (TherePost wa true) := by
            have h := kitU_any wa _ _ zUb zUb HUm.out (ubV_flat wa 0 0)
            rw [eqB_refl] at h
            rw [← HLCm.out, zeroUbCells]
            exact h
          refine CC.mono ?_
          clear CC
          rintro e wb ⟨rfl, hk⟩
          have HBu := Lib.hid (hk.blk HBu.out id)
          have HK := Lib.hid (HK.out.trans hk)
          have HUu := Lib.hid (HUu.out.keep hk fun _ _ => id)
          have HG := Lib.hid (HG.out.keep hk)
          have HR := Lib.hid (HR.out.keep hk fun _ _ => id)
          have HUm := Lib.hid (HUm.out.keep hk fun _ _ => id)
          have HBm := Lib.hid (hk.blk HBm.out id)
          clear hk
          go_wp2_with fail
          go_ret
          exact ⟨rfl, HK.out⟩
    · have hs1 : (nu : Int) ≤ 20 := by omega
      have hs : (1000 : Int) < (n : Int) := by omega
      go_wp2_with fail
      go_ret
      exact ⟨rfl, HK.out⟩
  · have hs : (20 : Int) < (nu : Int) := by omega
    go_wp2_with fail
    go_ret
    exact ⟨rfl, HK.out⟩
end Go.Proofs.YtpkpopgcfgonoaaDoor
