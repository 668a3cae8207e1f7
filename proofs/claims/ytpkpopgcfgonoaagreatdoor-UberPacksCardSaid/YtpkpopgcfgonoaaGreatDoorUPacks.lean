/-
  UberPacks: which uberblocks may be, which sector each is, and which are the same
  Conditions: the two package variables hold errors.
-/
import Derived.Test.YtpkpopgcfgonoaaGreatDoorUReads
import Derived.Test.YtpkpopgcfgonoaaGreatDoorCopyU
namespace Go.Proofs.YtpkpopgcfgonoaaGreatDoor
open Go.RowKit Go.Maps Go.ChangeMaps
set_option maxRecDepth 100000
set_option linter.unusedVariables false

theorem two_of {α β : Type} {f : α → β} {l : List α} {b c : β} (h : l.map f = [b, c]) : ∃ x y, l = [x, y] ∧ f x = b ∧ f y = c := by
  match l with
  | [] => simp at h
  | [x] => simp at h
  | [x, y] => simp at h; exact ⟨x, y, rfl, h.1, h.2⟩
  | x :: y :: z :: t => simp at h

set_option maxHeartbeats 16000000 in
theorem uberPacks_walk (w : World) (aF aR : Addr) (hg : ErrG w aF aR) (uv : Value) (U : Ub) (hu : UbV w uv U) (vv : Value) (V : Ub) (hv : UbV w vv V) :
    Calls Tryz.prog 3 #[.agg (ubCs uv U).toArray, .agg (ubCs vv V).toArray] w (TherePost w true) := by
  obtain ⟨au, cu, hv_, -, -⟩ := hu.root.rd.form
  have hv2_ : uv = .slice au (U).root.addrs.length cu := hv_
  clear hv_
  subst hv2_
  have hlu := ubCs_len (v := .slice au (U).root.addrs.length cu) hu.root.sum hu.pool
  have HCu := Lib.hid (oneCell_ub (oa := au) (n := (U).root.addrs.length) (ca := cu) (U))
  have HUu := Lib.hid hu
  obtain ⟨lcu, hlcu⟩ : ∃ x, ubCs (.slice au (U).root.addrs.length cu) (U) = x := ⟨_, rfl⟩
  rw [hlcu] at hlu HCu
  try rw [hlcu]
  have HLCu := Lib.hid hlcu
  clear hlcu
  clear hu
  obtain ⟨av, cv, hv_, -, -⟩ := hv.root.rd.form
  have hv2_ : vv = .slice av (V).root.addrs.length cv := hv_
  clear hv_
  subst hv2_
  have hlv := ubCs_len (v := .slice av (V).root.addrs.length cv) hv.root.sum hv.pool
  have HCv := Lib.hid (oneCell_ub (oa := av) (n := (V).root.addrs.length) (ca := cv) (V))
  have HUv := Lib.hid hv
  obtain ⟨lcv, hlcv⟩ : ∃ x, ubCs (.slice av (V).root.addrs.length cv) (V) = x := ⟨_, rfl⟩
  rw [hlcv] at hlv HCv
  try rw [hlcv]
  have HLCv := Lib.hid hlcv
  clear hlcv
  clear hv
  obtain ⟨w1, hw1, k1, hb1, s1⟩ := alloc_facts w lcu.toArray 28
  obtain ⟨w2, hw2, k2, hb2, s2⟩ := alloc_facts w1 lcv.toArray 28
  rw [s1] at hb2
  have HBu := Lib.hid (k2.blk hb1 id); have HBv := Lib.hid hb2
  have HK := Lib.hid (k1.trans k2)
  have HUu := Lib.hid (HUu.out.keep HK.out fun _ _ => id); have HUv := Lib.hid (HUv.out.keep HK.out fun _ _ => id)
  have HG := Lib.hid (hg.keep HK.out)
  have hs2 : w2.heap.size = w.heap.size + 2 := by omega
  have hbl : w.heap.size + 1 < w2.heap.size := by omega
  obtain ⟨bu, hbu⟩ : ∃ b, w.heap.size = b := ⟨_, rfl⟩
  have HBN := Lib.hid hbu
  obtain ⟨nu, hnu⟩ : ∃ n, U.root.addrs.length = n := ⟨_, rfl⟩
  obtain ⟨nv, hnv⟩ : ∃ n, V.root.addrs.length = n := ⟨_, rfl⟩
  have HNu := Lib.hid hnu; have HNv := Lib.hid hnv
  have hmu : nu ≤ maxLen := by obtain ⟨a', c', h1, h2, h3⟩ := HUu.out.root.rd.form; omega
  have hmv : nv ≤ maxLen := by obtain ⟨a', c', h1, h2, h3⟩ := HUv.out.root.rd.form; omega
  unfold maxLen at hmu hmv
  clear k1 k2 hb1 hb2 hg s2
  have hcu := blk_cell (i := 1) (v := .slice au U.root.addrs.length cu) HBu.out (by rw [← HLCu.out]; rfl)
  have hcv := blk_cell (i := 1) (v := .slice av V.root.addrs.length cv) HBv.out (by rw [← HLCv.out]; rfl)
  rw [HNu.out] at hcu
  rw [HNv.out] at hcv
  rw [hbu] at hcu hcv s1 hs2 hbl HBu HBv
  clear hnu hnv
  by_cases hu : nu ≤ 20
  · by_cases hv : nv ≤ 20
    · have hu20 : (nu : Int) ≤ 20 := by omega
      have hv20 : (nv : Int) ≤ 20 := by omega
      go_enter Tryz.func3, Tryz.ntmps3
      go_wp2_with (first
        | ((with_reducible show wpList _ _ _ (⟨_, .load 28 (.tmp 2), _, _, _, _⟩ :: _) _ _); refine wpList_load_mid rfl 28 (.tmp 2) rfl bu 0 rfl lcu _ (rangeAt_whole HBu.out) ubUnder rfl (sizeUbL hlu) ?_)
        | ((with_reducible show wpList _ _ _ (⟨_, .load 28 (.tmp 3), _, _, _, _⟩ :: _) _ _); refine wpList_load_mid rfl 28 (.tmp 3) rfl (bu + 1) 0 rfl lcv _ (rangeAt_whole HBv.out) ubUnder rfl (sizeUbL hlv) ?_)
        | ((with_reducible show wpList _ _ _ (⟨_, .buildSlice _ 2 _, _, _, _, _⟩ :: _) _ _); refine wpList_build_aggs rfl 30 28 2 _ rfl Tryz.underlying30 infoUb (by decide) [lcu, lcv] (by intro vs hvs; simp only [List.mem_cons, List.not_mem_nil, or_false] at hvs; rcases hvs with rfl | rfl <;> assumption) rfl (by decide) (by decide) (by simp [litParts, Act.eval, Act.put]) ?_
           obtain ⟨w3, hw3, k3, hb3, s3⟩ := alloc_facts w2 [lcu, lcv].flatten.toArray 28
           rw [hw3]
           have HB3 := Lib.hid hb3; have HK3 := Lib.hid k3; have HS3 := Lib.hid hs2
           clear hb3 k3 hw3 hs2 hw2 hw1 s1 hbu))
      have hr3 : Rd w3 69 (.slice (some ⟨w2.heap.size, 0, none⟩) 2 2) [((Value.slice au U.root.addrs.length cu), U), ((Value.slice av V.root.addrs.length cv), V)].length (ubRow [((Value.slice au U.root.addrs.length cu), U), ((Value.slice av V.root.addrs.length cv), V)]) := by
        have e : ubRow [((Value.slice au U.root.addrs.length cu), U), ((Value.slice av V.root.addrs.length cv), V)] = [lcu, lcv].flatten := by rw [← HLCu.out, ← HLCv.out]; simp [ubRow]
        rw [e]
        exact rd_blk (n := 2) (size := 69) HB3.out (by simp [hlu, hlv]) (by unfold maxLen; omega)
      have HBu := Lib.hid (HK3.out.blk HBu.out id)
      have HBv := Lib.hid (HK3.out.blk HBv.out id)
      have HK := Lib.hid (HK.out.trans HK3.out)
      have HUu := Lib.hid (HUu.out.keep HK3.out fun _ _ => id)
      have HUv := Lib.hid (HUv.out.keep HK3.out fun _ _ => id)
      have HG := Lib.hid (HG.out.keep HK3.out)
      have hV3 : UbsV w3 [((Value.slice au U.root.addrs.length cu), U), ((Value.slice av V.root.addrs.length cv), V)] := by
        intro p hp
        simp only [List.mem_cons, List.not_mem_nil, or_false] at hp
        rcases hp with rfl | rfl
        · exact HUu.out
        · exact HUv.out
      have CC := copyUbs_any w3 _ _ hr3 hV3 (by simp) (by
        intro p hp
        simp only [List.mem_cons, List.not_mem_nil, or_false] at hp
        rcases hp with rfl | rfl
        · show U.root.addrs.length ≤ _; have := HNu.out; omega
        · show V.root.addrs.length ≤ _; have := HNv.out; omega)
      refine CC.mono ?_
      clear CC hr3 hV3
      rintro e w4 ⟨vi, qs, rfl, hoi, hmi, hOi, hk⟩
      obtain ⟨⟨x, U'⟩, ⟨y, V'⟩, rfl, hU', hV'⟩ := two_of hmi
      obtain rfl : U = U' := hU'.symm
      obtain rfl : V = V' := hV'.symm
      have hx := hOi.V _ (List.mem_cons_self ..)
      have hy := hOi.V _ (List.mem_cons_of_mem _ (List.mem_cons_self ..))
      have hri := Rd.of_owns hoi
      have hli := hOi.V.lens
      have hgw := hoi.lt
      obtain ⟨gi, ci, rfl⟩ := ownsRow_succ hoi
      have hgi : gi < w4.heap.size := (hgw gi rfl).2
      have hi0 : w4.rangeAt gi 0 (ubCs x U) := by
        obtain ⟨g', o', c', hv_, hat⟩ := rd_ub hli hri (k := 0) rfl
        cases hv_
        simpa using hat
      have hi1 : w4.rangeAt gi 69 (ubCs y V) := by
        obtain ⟨g', o', c', hv_, hat⟩ := rd_ub hli hri (k := 1) rfl
        cases hv_
        simpa using hat
      have HBu := Lib.hid (hk.blk HBu.out id)
      have HBv := Lib.hid (hk.blk HBv.out id)
      have HK := Lib.hid (HK.out.trans hk)
      have HUu := Lib.hid (HUu.out.keep hk fun _ _ => id)
      have HUv := Lib.hid (HUv.out.keep hk fun _ _ => id)
      have HG := Lib.hid (HG.out.keep hk)
      obtain ⟨ax, cx, hv_, -, -⟩ := hx.root.rd.form
      have hv2_ : x = .slice ax (U).root.addrs.length cx := hv_
      clear hv_
      subst hv2_
      have hlx := ubCs_len (v := .slice ax (U).root.addrs.length cx) hx.root.sum hx.pool
      have HCx := Lib.hid (oneCell_ub (oa := ax) (n := (U).root.addrs.length) (ca := cx) (U))
      have HUx := Lib.hid hx
      obtain ⟨lcx, hlcx⟩ : ∃ x, ubCs (.slice ax (U).root.addrs.length cx) (U) = x := ⟨_, rfl⟩
      rw [hlcx] at hlx HCx
      try rw [hlcx]
      have HLCx := Lib.hid hlcx
      clear hlcx
      clear hx
      obtain ⟨ay, cy, hv_, -, -⟩ := hy.root.rd.form
      have hv2_ : y = .slice ay (V).root.addrs.length cy := hv_
      clear hv_
      subst hv2_
      have hly := ubCs_len (v := .slice ay (V).root.addrs.length cy) hy.root.sum hy.pool
      have HCy := Lib.hid (oneCell_ub (oa := ay) (n := (V).root.addrs.length) (ca := cy) (V))
      have HUy := Lib.hid hy
      obtain ⟨lcy, hlcy⟩ : ∃ x, ubCs (.slice ay (V).root.addrs.length cy) (V) = x := ⟨_, rfl⟩
      rw [hlcy] at hly HCy
      try rw [hlcy]
      have HLCy := Lib.hid hlcy
      clear hlcy
      clear hy
      rw [HLCx.out] at hi0
      rw [HLCy.out] at hi1
      have HI0 := Lib.hid hi0; have HI1 := Lib.hid hi1
      clear hi0 hi1 hri hli hgw hoi hOi hmi hU' hV' hk HB3 HK3 hcu hcv
      have HBu_P := HBu
      have HBv_P := HBv
      have HK_P := HK
      have HUu_P := HUu
      have HUv_P := HUv
      have HG_P := HG
      have HI0_P := HI0
      have HI1_P := HI1
      have HUx_P := HUx
      have HUy_P := HUy
      have HKS_P := Lib.hid (Keep.refl noBlk w4)
      have HP4 := Lib.hid (Nat.le_refl w4.heap.size)
      go_wp2_with (first
        | ((with_reducible show wpList _ _ _ (⟨_, .load 28 (.tmp 31), _, _, _, _⟩ :: _) _ _); refine wpList_load_mid rfl 28 (.tmp 31) rfl gi 0 rfl lcx _ HI0.out ubUnder rfl (sizeUbL hlx) ?_))
      obtain ⟨er, her⟩ : ∃ x : Int, (if U.may then 0 else 2) = x := ⟨_, rfl⟩
      have HER := Lib.hid her
      obtain ⟨pl, hpl⟩ : ∃ n, (packU U).length = n := ⟨_, rfl⟩
      have HPL := Lib.hid hpl
      have CP := Lib.hid (upack_fit w4 _ U HUx.out)
      have HLCX := HLCx
      have CP2 : Calls Tryz.prog 7 #[.agg lcx.toArray] w4 (UPackF w4 U) := by rw [← HLCx.out]; exact CP.out
      refine CP2.mono ?_
      clear CP CP2 HLCX
      rintro e w5 ⟨va, rfl, hoa, hk, hfa⟩
      rw [her]
      rw [hpl] at hoa
      obtain ⟨aa, ca, rfl, -, -⟩ := (Rd.of_owns hoa).form
      have HOa := Lib.hid hoa; have HFa := Lib.hid hfa; have HFl := Lib.hid hoa.lt
      clear hoa hfa her hpl
      have HBu := Lib.hid (hk.blk HBu.out id)
      have HBv := Lib.hid (hk.blk HBv.out id)
      have HK := Lib.hid (HK.out.trans hk)
      have HUu := Lib.hid (HUu.out.keep hk fun _ _ => id)
      have HUv := Lib.hid (HUv.out.keep hk fun _ _ => id)
      have HG := Lib.hid (HG.out.keep hk)
      have HI0 := Lib.hid (hk.rangeAt HI0.out)
      have HI1 := Lib.hid (hk.rangeAt HI1.out)
      have HUx := Lib.hid (HUx.out.keep hk fun _ _ => id)
      have HUy := Lib.hid (HUy.out.keep hk fun _ _ => id)
      have HKS_P := Lib.hid (HKS_P.out.trans hk)
      clear hk
      have HK5 := Lib.hid (Keep.refl noBlk w5)
      go_wp2_with (first
        | ((with_reducible show wpList _ _ _ (⟨_, .load 28 (.tmp 2), _, _, _, _⟩ :: _) _ _); refine wpList_load_mid rfl 28 (.tmp 2) rfl bu 0 rfl lcu _ (rangeAt_whole HBu.out) ubUnder rfl (sizeUbL hlu) ?_))
      have CR : Calls Tryz.prog 8 #[.agg lcu.toArray] w5 (UPackPost w5 U) := by rw [← HLCu.out]; exact rupack_any w5 _ U HUu.out
      refine CR.mono ?_
      clear CR
      rintro e w6 ⟨vb', rfl, hob, hk⟩
      rw [HER.out]
      rw [HPL.out] at hob
      obtain ⟨ab, cb, rfl, -, -⟩ := (Rd.of_owns hob).form
      have HOb := Lib.hid hob; have HFb := Lib.hid hob.lt
      clear hob
      have HBu := Lib.hid (hk.blk HBu.out id)
      have HBv := Lib.hid (hk.blk HBv.out id)
      have HK := Lib.hid (HK.out.trans hk)
      have HUu := Lib.hid (HUu.out.keep hk fun _ _ => id)
      have HUv := Lib.hid (HUv.out.keep hk fun _ _ => id)
      have HG := Lib.hid (HG.out.keep hk)
      have HI0 := Lib.hid (hk.rangeAt HI0.out)
      have HI1 := Lib.hid (hk.rangeAt HI1.out)
      have HUx := Lib.hid (HUx.out.keep hk fun _ _ => id)
      have HUy := Lib.hid (HUy.out.keep hk fun _ _ => id)
      have HKS_P := Lib.hid (HKS_P.out.trans hk)
      have HOa := Lib.hid (hk.owns HOa.out fun _ _ => id)
      have HK5 := Lib.hid (HK5.out.trans hk)
      clear hk
      go_wp2_with fail
      obtain ⟨sb, hsb⟩ : ∃ b, U.eqB V = b := ⟨_, rfl⟩
      have HSB := Lib.hid hsb; clear hsb
      have C1 := Lib.hid (show ∀ wx, Keep noBlk w6 wx → Calls Tryz.prog 9 #[.slice aa pl ca, .slice ab pl cb] wx (TherePost wx true) from fun wx k =>
        (same_any wx _ _ (packU U) (packU U) (by rw [HPL.out]; exact Rd.of_owns (k.owns HOa.out fun _ _ => id)) (by rw [HPL.out]; exact Rd.of_owns (k.owns HOb.out fun _ _ => id)) true (by simp)).mono fun e w' ⟨h1, h2⟩ => ⟨h1, by rw [← h2]; exact Keep.refl _ _⟩)
      have C2 := Lib.hid (show ∀ wx, Keep noBlk w6 wx → Calls Tryz.prog 10 #[.agg lcx.toArray] wx (fun e w' => e = .returned (.int .i64 er) ∧ Keep noBlk wx w') from fun wx k => by
        rw [← HLCx.out, ← HER.out]; exact checkU_any wx _ U (HUx.out.keep k fun _ _ => id))
      have C3 := Lib.hid (show ∀ wx, Keep noBlk w6 wx → Calls Tryz.prog 11 #[.agg lcu.toArray] wx (fun e w' => e = .returned (.int .i64 er) ∧ Keep noBlk wx w') from fun wx k => by
        rw [← HLCu.out, ← HER.out]; exact rcheckU_any wx _ U (HUu.out.keep k fun _ _ => id))
      have C4 := Lib.hid (show ∀ wx, Keep noBlk w6 wx → Calls Tryz.prog 12 #[.agg lcx.toArray, .agg lcy.toArray] wx (TherePost wx sb) from fun wx k => by
        rw [← HLCx.out, ← HLCy.out, ← HSB.out]; exact sameU_any wx _ _ U V (HUx.out.keep k fun _ _ => id) (HUy.out.keep k fun _ _ => id))
      have C5 := Lib.hid (show ∀ wx, Keep noBlk w6 wx → Calls Tryz.prog 13 #[.agg lcu.toArray, .agg lcv.toArray] wx (TherePost wx sb) from fun wx k => by
        rw [← HLCu.out, ← HLCv.out, ← HSB.out]; exact rsameU_any wx _ _ U V (HUu.out.keep k fun _ _ => id) (HUv.out.keep k fun _ _ => id))
      obtain ⟨S, hS0⟩ : ∃ S : World → Prop, S = fun w' => Keep noBlk w6 w' := ⟨_, rfl⟩
      have HSE := Lib.hid (show ∀ w', S w' → Keep noBlk w6 w' from fun w' h => by rw [hS0] at h; exact h)
      have HSI := Lib.hid (show ∀ w', Keep noBlk w6 w' → S w' from fun w' h => by rw [hS0]; exact h)
      have hS : S w6.drew := by rw [hS0]; exact (Keep.refl _ _).drew
      clear hS0
      refine wp_region_held (S := S) (by kernel_rfl) ?_
      change wpAnyH _ _ _ _ _ _ _ _ w6.drew
      generalize w6.drew = w7 at hS ⊢
      refine wpAnyH_take (i := 0) (v := .slice aa pl ca) rfl (by kernel_rfl) (by kernel_rfl) (by kernel_rfl) (fun _ _ _ h => h) (.inl ⟨by rfl, fun _ _ => rfl⟩) hS ?_
      simp only [Act.put, List.setIfInBounds_toArray, List.set_cons_zero, List.set_cons_succ, List.getElem_toArray, List.getElem_cons_zero]
      refine wpAnyH_take (i := 1) (v := .slice ab pl cb) rfl (by kernel_rfl) (by kernel_rfl) (by kernel_rfl) (fun _ _ _ h => h) (.inl ⟨by rfl, fun _ _ => rfl⟩) hS ?_
      simp only [Act.put, List.setIfInBounds_toArray, List.set_cons_zero, List.set_cons_succ, List.getElem_toArray, List.getElem_cons_succ, List.getElem_cons_zero]
      refine wpAnyH_one (k := 2) rfl (by kernel_rfl) ?_
      go_wp2_with fail
      refine (C1.out w7 (HSE.out _ hS)).mono ?_
      rintro e w8 ⟨rfl, hk⟩
      have hS1 := HSI.out _ ((HSE.out _ hS).trans hk)
      clear hS hk
      go_wp2_with fail
      refine ⟨hS1, ?_⟩
      refine wpAnyH_take (i := 3) (v := .bool false) rfl (by kernel_rfl) (by kernel_rfl) (by kernel_rfl) (fun _ _ _ h => h) (.inl ⟨by rfl, fun _ _ => by go_simp⟩) hS1 ?_
      simp only [Act.put, List.setIfInBounds_toArray, List.set_cons_zero, List.set_cons_succ, List.getElem_toArray, List.getElem_cons_succ, List.getElem_cons_zero]
      refine wpAnyH_take (i := 4) (v := .bool false) rfl (by kernel_rfl) (by kernel_rfl) (by kernel_rfl) (fun _ _ _ h => h) (.inl ⟨by rfl, fun _ _ => rfl⟩) hS1 ?_
      simp only [Act.put, List.setIfInBounds_toArray, List.set_cons_zero, List.set_cons_succ, List.getElem_toArray, List.getElem_cons_succ, List.getElem_cons_zero]
      refine wpAnyH_take (i := 5) (v := .int .i64 er) rfl (by kernel_rfl) (by kernel_rfl) (by kernel_rfl) (fun _ _ _ h => h) (.inl ⟨by rfl, fun _ _ => rfl⟩) hS1 ?_
      simp only [Act.put, List.setIfInBounds_toArray, List.set_cons_zero, List.set_cons_succ, List.getElem_toArray, List.getElem_cons_succ, List.getElem_cons_zero]
      refine wpAnyH_take (i := 6) (v := .int .i64 er) rfl (by kernel_rfl) (by kernel_rfl) (by kernel_rfl) (fun _ _ _ h => h) (.inl ⟨by rfl, fun _ _ => rfl⟩) hS1 ?_
      simp only [Act.put, List.setIfInBounds_toArray, List.set_cons_zero, List.set_cons_succ, List.getElem_toArray, List.getElem_cons_succ, List.getElem_cons_zero]
      refine wpAnyH_take (i := 7) (v := .bool false) rfl (by kernel_rfl) (by kernel_rfl) (by kernel_rfl) (fun _ _ _ h => h) (.inl ⟨by rfl, fun _ _ => by go_simp⟩) hS1 ?_
      simp only [Act.put, List.setIfInBounds_toArray, List.set_cons_zero, List.set_cons_succ, List.getElem_toArray, List.getElem_cons_succ, List.getElem_cons_zero]
      refine wpAnyH_take (i := 8) (v := .bool false) rfl (by kernel_rfl) (by kernel_rfl) (by kernel_rfl) (fun _ _ _ h => h) (.inl ⟨by rfl, fun _ _ => rfl⟩) hS1 ?_
      simp only [Act.put, List.setIfInBounds_toArray, List.set_cons_zero, List.set_cons_succ, List.getElem_toArray, List.getElem_cons_succ, List.getElem_cons_zero]
      refine wpAnyH_take (i := 9) (v := .bool false) rfl (by kernel_rfl) (by kernel_rfl) (by kernel_rfl) (fun _ _ _ h => h) (.inl ⟨by rfl, fun _ _ => rfl⟩) hS1 ?_
      simp only [Act.put, List.setIfInBounds_toArray, List.set_cons_zero, List.set_cons_succ, List.getElem_toArray, List.getElem_cons_succ, List.getElem_cons_zero]
      refine wpAnyH_take (i := 10) (v := .slice (some ⟨gi, 0, none⟩) 2 ci) rfl (by kernel_rfl) (by kernel_rfl) (by kernel_rfl) (fun _ _ _ h => h) (.inl ⟨by rfl, fun _ _ => rfl⟩) hS1 ?_
      simp only [Act.put, List.setIfInBounds_toArray, List.set_cons_zero, List.set_cons_succ, List.getElem_toArray, List.getElem_cons_succ, List.getElem_cons_zero]
      refine wpAnyH_take (i := 11) (v := .pointer (some ⟨gi, 0, none⟩)) rfl (by kernel_rfl) (by kernel_rfl) (by kernel_rfl) (fun _ _ _ h => h) (.inl ⟨by rfl, fun _ _ => by go_simp⟩) hS1 ?_
      simp only [Act.put, List.setIfInBounds_toArray, List.set_cons_zero, List.set_cons_succ, List.getElem_toArray, List.getElem_cons_succ, List.getElem_cons_zero]
      refine wpAnyH_take (i := 12) (v := .agg (lcx).toArray) rfl (by kernel_rfl) (by kernel_rfl) (by kernel_rfl) (fun _ _ _ h => h) (yieldsIf_load_mid (by rfl) 28 (.tmp 52) rfl (gi) (0) rfl (lcx) _ (fun w' h => (HSE.out w' h).rangeAt HI0.out) ubUnder rfl (by first | exact sizeUbL hlu | exact sizeUbL hlv | exact sizeUbL hlx | exact sizeUbL hly)) hS1 ?_
      simp only [Act.put, List.setIfInBounds_toArray, List.set_cons_zero, List.set_cons_succ, List.getElem_toArray, List.getElem_cons_succ, List.getElem_cons_zero]
      refine wpAnyH_take (i := 14) (v := .agg (lcu).toArray) rfl (by kernel_rfl) (by kernel_rfl) (by kernel_rfl) (fun _ _ _ h => h) (yieldsIf_load_mid (by rfl) 28 (.tmp 2) rfl (bu) (0) rfl (lcu) _ (fun w' h => rangeAt_whole ((HSE.out w' h).blk HBu.out id)) ubUnder rfl (by first | exact sizeUbL hlu | exact sizeUbL hlv | exact sizeUbL hlx | exact sizeUbL hly)) hS1 ?_
      simp only [Act.put, List.setIfInBounds_toArray, List.set_cons_zero, List.set_cons_succ, List.getElem_toArray, List.getElem_cons_succ, List.getElem_cons_zero]
      refine wpAnyH_one (k := 13) rfl (by kernel_rfl) ?_
      go_wp2_with fail
      refine (C2.out w8 (HSE.out _ hS1)).mono ?_
      rintro e w9 ⟨rfl, hk⟩
      have hS2 := HSI.out _ ((HSE.out _ hS1).trans hk)
      clear hS1 hk
      go_wp2_with fail
      refine ⟨hS2, ?_⟩
      refine wpAnyH_one (k := 15) rfl (by kernel_rfl) ?_
      go_wp2_with fail
      refine (C3.out w9 (HSE.out _ hS2)).mono ?_
      rintro e wa ⟨rfl, hk⟩
      have hS3 := HSI.out _ ((HSE.out _ hS2).trans hk)
      clear hS2 hk
      go_wp2_with fail
      refine ⟨hS3, ?_⟩
      refine wpAnyH_take (i := 16) (v := .bool false) rfl (by kernel_rfl) (by kernel_rfl) (by kernel_rfl) (fun _ _ _ h => h) (.inl ⟨by rfl, fun _ _ => by go_simp⟩) hS3 ?_
      simp only [Act.put, List.setIfInBounds_toArray, List.set_cons_zero, List.set_cons_succ, List.getElem_toArray, List.getElem_cons_succ, List.getElem_cons_zero]
      refine wpAnyH_take (i := 17) (v := .bool false) rfl (by kernel_rfl) (by kernel_rfl) (by kernel_rfl) (fun _ _ _ h => h) (.inl ⟨by rfl, fun _ _ => rfl⟩) hS3 ?_
      simp only [Act.put, List.setIfInBounds_toArray, List.set_cons_zero, List.set_cons_succ, List.getElem_toArray, List.getElem_cons_succ, List.getElem_cons_zero]
      refine wpAnyH_take (i := 18) (v := .bool false) rfl (by kernel_rfl) (by kernel_rfl) (by kernel_rfl) (fun _ _ _ h => h) (.inl ⟨by rfl, fun _ _ => rfl⟩) hS3 ?_
      simp only [Act.put, List.setIfInBounds_toArray, List.set_cons_zero, List.set_cons_succ, List.getElem_toArray, List.getElem_cons_succ, List.getElem_cons_zero]
      refine wpAnyH_take (i := 19) (v := .slice (some ⟨gi, 0, none⟩) 2 ci) rfl (by kernel_rfl) (by kernel_rfl) (by kernel_rfl) (fun _ _ _ h => h) (.inl ⟨by rfl, fun _ _ => rfl⟩) hS3 ?_
      simp only [Act.put, List.setIfInBounds_toArray, List.set_cons_zero, List.set_cons_succ, List.getElem_toArray, List.getElem_cons_succ, List.getElem_cons_zero]
      refine wpAnyH_take (i := 20) (v := .pointer (some ⟨gi, 0, none⟩)) rfl (by kernel_rfl) (by kernel_rfl) (by kernel_rfl) (fun _ _ _ h => h) (.inl ⟨by rfl, fun _ _ => by go_simp⟩) hS3 ?_
      simp only [Act.put, List.setIfInBounds_toArray, List.set_cons_zero, List.set_cons_succ, List.getElem_toArray, List.getElem_cons_succ, List.getElem_cons_zero]
      refine wpAnyH_take (i := 21) (v := .agg (lcx).toArray) rfl (by kernel_rfl) (by kernel_rfl) (by kernel_rfl) (fun _ _ _ h => h) (yieldsIf_load_mid (by rfl) 28 (.tmp 61) rfl (gi) (0) rfl (lcx) _ (fun w' h => (HSE.out w' h).rangeAt HI0.out) ubUnder rfl (by first | exact sizeUbL hlu | exact sizeUbL hlv | exact sizeUbL hlx | exact sizeUbL hly)) hS3 ?_
      simp only [Act.put, List.setIfInBounds_toArray, List.set_cons_zero, List.set_cons_succ, List.getElem_toArray, List.getElem_cons_succ, List.getElem_cons_zero]
      refine wpAnyH_take (i := 22) (v := .slice (some ⟨gi, 0, none⟩) 2 ci) rfl (by kernel_rfl) (by kernel_rfl) (by kernel_rfl) (fun _ _ _ h => h) (.inl ⟨by rfl, fun _ _ => rfl⟩) hS3 ?_
      simp only [Act.put, List.setIfInBounds_toArray, List.set_cons_zero, List.set_cons_succ, List.getElem_toArray, List.getElem_cons_succ, List.getElem_cons_zero]
      refine wpAnyH_take (i := 23) (v := .pointer (some ⟨gi, 69, none⟩)) rfl (by kernel_rfl) (by kernel_rfl) (by kernel_rfl) (fun _ _ _ h => h) (.inl ⟨by rfl, fun _ _ => by go_simp⟩) hS3 ?_
      simp only [Act.put, List.setIfInBounds_toArray, List.set_cons_zero, List.set_cons_succ, List.getElem_toArray, List.getElem_cons_succ, List.getElem_cons_zero]
      refine wpAnyH_take (i := 24) (v := .agg (lcy).toArray) rfl (by kernel_rfl) (by kernel_rfl) (by kernel_rfl) (fun _ _ _ h => h) (yieldsIf_load_mid (by rfl) 28 (.tmp 64) rfl (gi) (69) rfl (lcy) _ (fun w' h => (HSE.out w' h).rangeAt HI1.out) ubUnder rfl (by first | exact sizeUbL hlu | exact sizeUbL hlv | exact sizeUbL hlx | exact sizeUbL hly)) hS3 ?_
      simp only [Act.put, List.setIfInBounds_toArray, List.set_cons_zero, List.set_cons_succ, List.getElem_toArray, List.getElem_cons_succ, List.getElem_cons_zero]
      refine wpAnyH_take (i := 26) (v := .agg (lcu).toArray) rfl (by kernel_rfl) (by kernel_rfl) (by kernel_rfl) (fun _ _ _ h => h) (yieldsIf_load_mid (by rfl) 28 (.tmp 2) rfl (bu) (0) rfl (lcu) _ (fun w' h => rangeAt_whole ((HSE.out w' h).blk HBu.out id)) ubUnder rfl (by first | exact sizeUbL hlu | exact sizeUbL hlv | exact sizeUbL hlx | exact sizeUbL hly)) hS3 ?_
      simp only [Act.put, List.setIfInBounds_toArray, List.set_cons_zero, List.set_cons_succ, List.getElem_toArray, List.getElem_cons_succ, List.getElem_cons_zero]
      refine wpAnyH_take (i := 27) (v := .agg (lcv).toArray) rfl (by kernel_rfl) (by kernel_rfl) (by kernel_rfl) (fun _ _ _ h => h) (yieldsIf_load_mid (by rfl) 28 (.tmp 3) rfl (bu + 1) (0) rfl (lcv) _ (fun w' h => rangeAt_whole ((HSE.out w' h).blk HBv.out id)) ubUnder rfl (by first | exact sizeUbL hlu | exact sizeUbL hlv | exact sizeUbL hlx | exact sizeUbL hly)) hS3 ?_
      simp only [Act.put, List.setIfInBounds_toArray, List.set_cons_zero, List.set_cons_succ, List.getElem_toArray, List.getElem_cons_succ, List.getElem_cons_zero]
      refine wpAnyH_one (k := 25) rfl (by kernel_rfl) ?_
      go_wp2_with fail
      refine (C4.out wa (HSE.out _ hS3)).mono ?_
      rintro e wb ⟨rfl, hk⟩
      have hS4 := HSI.out _ ((HSE.out _ hS3).trans hk)
      clear hS3 hk
      go_wp2_with fail
      refine ⟨hS4, ?_⟩
      refine wpAnyH_one (k := 28) rfl (by kernel_rfl) ?_
      go_wp2_with fail
      refine (C5.out wb (HSE.out _ hS4)).mono ?_
      rintro e wc ⟨rfl, hk⟩
      have hS5 := HSI.out _ ((HSE.out _ hS4).trans hk)
      clear hS4 hk
      go_wp2_with fail
      refine ⟨hS5, ?_⟩
      refine wpAnyH_take (i := 29) (v := .bool false) rfl (by kernel_rfl) (by kernel_rfl) (by kernel_rfl) (fun _ _ _ h => h) (.inl ⟨by rfl, fun _ _ => by cases sb <;> go_simp⟩) hS5 ?_
      simp only [Act.put, List.setIfInBounds_toArray, List.set_cons_zero, List.set_cons_succ, List.getElem_toArray, List.getElem_cons_succ, List.getElem_cons_zero]
      refine wpAnyH_take (i := 30) (v := .bool false) rfl (by kernel_rfl) (by kernel_rfl) (by kernel_rfl) (fun _ _ _ h => h) (.inl ⟨by rfl, fun _ _ => rfl⟩) hS5 ?_
      simp only [Act.put, List.setIfInBounds_toArray, List.set_cons_zero, List.set_cons_succ, List.getElem_toArray, List.getElem_cons_succ, List.getElem_cons_zero]
      refine wpAnyH_done (by kernel_rfl) ?_ _
      have HKR := Lib.hid (HSE.out _ hS5)
      clear hS5 HSE HSI
      have HBu := Lib.hid (HKR.out.blk HBu.out id)
      have HBv := Lib.hid (HKR.out.blk HBv.out id)
      have HK := Lib.hid (HK.out.trans HKR.out)
      have HUu := Lib.hid (HUu.out.keep HKR.out fun _ _ => id)
      have HUv := Lib.hid (HUv.out.keep HKR.out fun _ _ => id)
      have HG := Lib.hid (HG.out.keep HKR.out)
      have HI0 := Lib.hid (HKR.out.rangeAt HI0.out)
      have HI1 := Lib.hid (HKR.out.rangeAt HI1.out)
      have HUx := Lib.hid (HUx.out.keep HKR.out fun _ _ => id)
      have HUy := Lib.hid (HUy.out.keep HKR.out fun _ _ => id)
      have HKS_P := Lib.hid (HKS_P.out.trans HKR.out)
      have HOa := Lib.hid (HKR.out.owns HOa.out fun _ _ => id)
      have HK5 := Lib.hid (HK5.out.trans HKR.out)
      have HOb := Lib.hid (HKR.out.owns HOb.out fun _ _ => id)
      go_wp2_with fail
      refine (over_any wc _ _ _ _ HOa.out (HFa.out.keep (HK5.out) (fun j hj => ⟨(HFl.out j hj).2, id⟩))).mono ?_
      rintro e wd ⟨rfl, hk⟩
      have HOb := Lib.hid (hk.owns HOb.out (fun i hi e => by have := (HFl.out i e).2; have := (HFb.out i hi).1; omega))
      have HKS_P := Lib.hid (HKS_P.out.trans' hk (U := noBlk) (fun _ _ h => h) (fun i hi e => by have := (HFl.out i e).1; omega))
      have HBu := Lib.hid (HKS_P.out.blk HBu_P.out id)
      have HBv := Lib.hid (HKS_P.out.blk HBv_P.out id)
      have HK := Lib.hid (HK_P.out.trans HKS_P.out)
      have HUu := Lib.hid (HUu_P.out.keep HKS_P.out fun _ _ => id)
      have HUv := Lib.hid (HUv_P.out.keep HKS_P.out fun _ _ => id)
      have HG := Lib.hid (HG_P.out.keep HKS_P.out)
      have HI0 := Lib.hid (HKS_P.out.rangeAt HI0_P.out)
      have HI1 := Lib.hid (HKS_P.out.rangeAt HI1_P.out)
      have HUx := Lib.hid (HUx_P.out.keep HKS_P.out fun _ _ => id)
      have HUy := Lib.hid (HUy_P.out.keep HKS_P.out fun _ _ => id)
      clear hk HOa HFa C1 C2 C3 C4 C5 HKR HK5
      go_wp2_with (first
        | ((with_reducible show wpList _ _ _ (⟨_, .load 28 (.tmp 76), _, _, _, _⟩ :: _) _ _); refine wpList_load_mid rfl 28 (.tmp 76) rfl gi 0 rfl lcx _ HI0.out ubUnder rfl (sizeUbL hlx) ?_))
      have CP2 : Calls Tryz.prog 7 #[.agg lcx.toArray] wd (UPackF wd U) := by rw [← HLCx.out]; exact upack_fit wd _ U HUx.out
      refine CP2.mono ?_
      clear CP2
      rintro e we ⟨vc, rfl, hoc, hk, -⟩
      rw [HER.out]
      rw [HPL.out] at hoc
      obtain ⟨ac, cc, rfl, -, -⟩ := (Rd.of_owns hoc).form
      have HOc := Lib.hid hoc
      clear hoc
      have HBu := Lib.hid (hk.blk HBu.out id)
      have HBv := Lib.hid (hk.blk HBv.out id)
      have HK := Lib.hid (HK.out.trans hk)
      have HUu := Lib.hid (HUu.out.keep hk fun _ _ => id)
      have HUv := Lib.hid (HUv.out.keep hk fun _ _ => id)
      have HG := Lib.hid (HG.out.keep hk)
      have HI0 := Lib.hid (hk.rangeAt HI0.out)
      have HI1 := Lib.hid (hk.rangeAt HI1.out)
      have HUx := Lib.hid (HUx.out.keep hk fun _ _ => id)
      have HUy := Lib.hid (HUy.out.keep hk fun _ _ => id)
      have HKS_P := Lib.hid (HKS_P.out.trans hk)
      have HOb := Lib.hid (hk.owns HOb.out fun _ _ => id)
      clear hk
      go_wp2_with fail
      have C1 := Lib.hid (show ∀ wx, Keep noBlk we wx → Calls Tryz.prog 9 #[.slice ac pl cc, .slice ab pl cb] wx (TherePost wx true) from fun wx k =>
        (same_any wx _ _ (packU U) (packU U) (by rw [HPL.out]; exact Rd.of_owns (k.owns HOc.out fun _ _ => id)) (by rw [HPL.out]; exact Rd.of_owns (k.owns HOb.out fun _ _ => id)) true (by simp)).mono fun e w' ⟨h1, h2⟩ => ⟨h1, by rw [← h2]; exact Keep.refl _ _⟩)
      have C2 := Lib.hid (show ∀ wx, Keep noBlk we wx → Calls Tryz.prog 15 #[.agg lcx.toArray, .agg lcu.toArray] wx (TherePost wx true) from fun wx k => by
        rw [← HLCx.out, ← HLCu.out]; have h := kitU_any wx _ _ U U (HUx.out.keep k fun _ _ => id) (HUu.out.keep k fun _ _ => id); rwa [eqB_refl] at h)
      have C3 := Lib.hid (show ∀ wx, Keep noBlk we wx → Calls Tryz.prog 15 #[.agg lcy.toArray, .agg lcv.toArray] wx (TherePost wx true) from fun wx k => by
        rw [← HLCy.out, ← HLCv.out]; have h := kitU_any wx _ _ V V (HUy.out.keep k fun _ _ => id) (HUv.out.keep k fun _ _ => id); rwa [eqB_refl] at h)
      have C4 := Lib.hid (show ∀ wx, Keep noBlk we wx → Calls Tryz.prog 5 #[] wx (TherePost wx true) from fun wx k => awakeB_any wx aF aR (HG.out.keep k))
      obtain ⟨S, hS0⟩ : ∃ S : World → Prop, S = fun w' => Keep noBlk we w' := ⟨_, rfl⟩
      have HSE := Lib.hid (show ∀ w', S w' → Keep noBlk we w' from fun w' h => by rw [hS0] at h; exact h)
      have HSI := Lib.hid (show ∀ w', Keep noBlk we w' → S w' from fun w' h => by rw [hS0]; exact h)
      have hS : S we.drew := by rw [hS0]; exact (Keep.refl _ _).drew
      clear hS0
      refine wp_region_held (S := S) (by kernel_rfl) ?_
      change wpAnyH _ _ _ _ _ _ _ _ we.drew
      generalize we.drew = wf at hS ⊢
      refine wpAnyH_take (i := 0) (v := .slice ac pl cc) rfl (by kernel_rfl) (by kernel_rfl) (by kernel_rfl) (fun _ _ _ h => h) (.inl ⟨by rfl, fun _ _ => rfl⟩) hS ?_
      simp only [Act.put, List.setIfInBounds_toArray, List.set_cons_zero, List.set_cons_succ, List.getElem_toArray, List.getElem_cons_zero]
      refine wpAnyH_take (i := 1) (v := .slice ab pl cb) rfl (by kernel_rfl) (by kernel_rfl) (by kernel_rfl) (fun _ _ _ h => h) (.inl ⟨by rfl, fun _ _ => rfl⟩) hS ?_
      simp only [Act.put, List.setIfInBounds_toArray, List.set_cons_zero, List.set_cons_succ, List.getElem_toArray, List.getElem_cons_succ, List.getElem_cons_zero]
      refine wpAnyH_one (k := 2) rfl (by kernel_rfl) ?_
      go_wp2_with fail
      refine (C1.out wf (HSE.out _ hS)).mono ?_
      rintro e wg ⟨rfl, hk⟩
      have hS1 := HSI.out _ ((HSE.out _ hS).trans hk)
      clear hS hk
      go_wp2_with fail
      refine ⟨hS1, ?_⟩
      refine wpAnyH_take (i := 3) (v := .bool true) rfl (by kernel_rfl) (by kernel_rfl) (by kernel_rfl) (fun _ _ _ h => h) (.inl ⟨by rfl, fun _ _ => rfl⟩) hS1 ?_
      simp only [Act.put, List.setIfInBounds_toArray, List.set_cons_zero, List.set_cons_succ, List.getElem_toArray, List.getElem_cons_succ, List.getElem_cons_zero]
      refine wpAnyH_take (i := 4) (v := .slice (some ⟨gi, 0, none⟩) 2 ci) rfl (by kernel_rfl) (by kernel_rfl) (by kernel_rfl) (fun _ _ _ h => h) (.inl ⟨by rfl, fun _ _ => rfl⟩) hS1 ?_
      simp only [Act.put, List.setIfInBounds_toArray, List.set_cons_zero, List.set_cons_succ, List.getElem_toArray, List.getElem_cons_succ, List.getElem_cons_zero]
      refine wpAnyH_take (i := 5) (v := .pointer (some ⟨gi, 0, none⟩)) rfl (by kernel_rfl) (by kernel_rfl) (by kernel_rfl) (fun _ _ _ h => h) (.inl ⟨by rfl, fun _ _ => by go_simp⟩) hS1 ?_
      simp only [Act.put, List.setIfInBounds_toArray, List.set_cons_zero, List.set_cons_succ, List.getElem_toArray, List.getElem_cons_succ, List.getElem_cons_zero]
      refine wpAnyH_take (i := 6) (v := .agg (lcx).toArray) rfl (by kernel_rfl) (by kernel_rfl) (by kernel_rfl) (fun _ _ _ h => h) (yieldsIf_load_mid (by rfl) 28 (.tmp 86) rfl (gi) (0) rfl (lcx) _ (fun w' h => (HSE.out w' h).rangeAt HI0.out) ubUnder rfl (by first | exact sizeUbL hlu | exact sizeUbL hlv | exact sizeUbL hlx | exact sizeUbL hly)) hS1 ?_
      simp only [Act.put, List.setIfInBounds_toArray, List.set_cons_zero, List.set_cons_succ, List.getElem_toArray, List.getElem_cons_succ, List.getElem_cons_zero]
      refine wpAnyH_take (i := 7) (v := .agg (lcu).toArray) rfl (by kernel_rfl) (by kernel_rfl) (by kernel_rfl) (fun _ _ _ h => h) (yieldsIf_load_mid (by rfl) 28 (.tmp 2) rfl (bu) (0) rfl (lcu) _ (fun w' h => rangeAt_whole ((HSE.out w' h).blk HBu.out id)) ubUnder rfl (by first | exact sizeUbL hlu | exact sizeUbL hlv | exact sizeUbL hlx | exact sizeUbL hly)) hS1 ?_
      simp only [Act.put, List.setIfInBounds_toArray, List.set_cons_zero, List.set_cons_succ, List.getElem_toArray, List.getElem_cons_succ, List.getElem_cons_zero]
      refine wpAnyH_one (k := 8) rfl (by kernel_rfl) ?_
      go_wp2_with fail
      refine (C2.out wg (HSE.out _ hS1)).mono ?_
      rintro e wh ⟨rfl, hk⟩
      have hS2 := HSI.out _ ((HSE.out _ hS1).trans hk)
      clear hS1 hk
      go_wp2_with fail
      refine ⟨hS2, ?_⟩
      refine wpAnyH_take (i := 9) (v := .bool true) rfl (by kernel_rfl) (by kernel_rfl) (by kernel_rfl) (fun _ _ _ h => h) (.inl ⟨by rfl, fun _ _ => rfl⟩) hS2 ?_
      simp only [Act.put, List.setIfInBounds_toArray, List.set_cons_zero, List.set_cons_succ, List.getElem_toArray, List.getElem_cons_succ, List.getElem_cons_zero]
      refine wpAnyH_take (i := 10) (v := .bool true) rfl (by kernel_rfl) (by kernel_rfl) (by kernel_rfl) (fun _ _ _ h => h) (.inl ⟨by rfl, fun _ _ => rfl⟩) hS2 ?_
      simp only [Act.put, List.setIfInBounds_toArray, List.set_cons_zero, List.set_cons_succ, List.getElem_toArray, List.getElem_cons_succ, List.getElem_cons_zero]
      refine wpAnyH_take (i := 11) (v := .slice (some ⟨gi, 0, none⟩) 2 ci) rfl (by kernel_rfl) (by kernel_rfl) (by kernel_rfl) (fun _ _ _ h => h) (.inl ⟨by rfl, fun _ _ => rfl⟩) hS2 ?_
      simp only [Act.put, List.setIfInBounds_toArray, List.set_cons_zero, List.set_cons_succ, List.getElem_toArray, List.getElem_cons_succ, List.getElem_cons_zero]
      refine wpAnyH_take (i := 12) (v := .pointer (some ⟨gi, 69, none⟩)) rfl (by kernel_rfl) (by kernel_rfl) (by kernel_rfl) (fun _ _ _ h => h) (.inl ⟨by rfl, fun _ _ => by go_simp⟩) hS2 ?_
      simp only [Act.put, List.setIfInBounds_toArray, List.set_cons_zero, List.set_cons_succ, List.getElem_toArray, List.getElem_cons_succ, List.getElem_cons_zero]
      refine wpAnyH_take (i := 13) (v := .agg (lcy).toArray) rfl (by kernel_rfl) (by kernel_rfl) (by kernel_rfl) (fun _ _ _ h => h) (yieldsIf_load_mid (by rfl) 28 (.tmp 93) rfl (gi) (69) rfl (lcy) _ (fun w' h => (HSE.out w' h).rangeAt HI1.out) ubUnder rfl (by first | exact sizeUbL hlu | exact sizeUbL hlv | exact sizeUbL hlx | exact sizeUbL hly)) hS2 ?_
      simp only [Act.put, List.setIfInBounds_toArray, List.set_cons_zero, List.set_cons_succ, List.getElem_toArray, List.getElem_cons_succ, List.getElem_cons_zero]
      refine wpAnyH_take (i := 14) (v := .agg (lcv).toArray) rfl (by kernel_rfl) (by kernel_rfl) (by kernel_rfl) (fun _ _ _ h => h) (yieldsIf_load_mid (by rfl) 28 (.tmp 3) rfl (bu + 1) (0) rfl (lcv) _ (fun w' h => rangeAt_whole ((HSE.out w' h).blk HBv.out id)) ubUnder rfl (by first | exact sizeUbL hlu | exact sizeUbL hlv | exact sizeUbL hlx | exact sizeUbL hly)) hS2 ?_
      simp only [Act.put, List.setIfInBounds_toArray, List.set_cons_zero, List.set_cons_succ, List.getElem_toArray, List.getElem_cons_succ, List.getElem_cons_zero]
      refine wpAnyH_one (k := 15) rfl (by kernel_rfl) ?_
      go_wp2_with fail
      refine (C3.out wh (HSE.out _ hS2)).mono ?_
      rintro e wi ⟨rfl, hk⟩
      have hS3 := HSI.out _ ((HSE.out _ hS2).trans hk)
      clear hS2 hk
      go_wp2_with fail
      refine ⟨hS3, ?_⟩
      refine wpAnyH_take (i := 16) (v := .bool true) rfl (by kernel_rfl) (by kernel_rfl) (by kernel_rfl) (fun _ _ _ h => h) (.inl ⟨by rfl, fun _ _ => rfl⟩) hS3 ?_
      simp only [Act.put, List.setIfInBounds_toArray, List.set_cons_zero, List.set_cons_succ, List.getElem_toArray, List.getElem_cons_succ, List.getElem_cons_zero]
      refine wpAnyH_take (i := 17) (v := .bool true) rfl (by kernel_rfl) (by kernel_rfl) (by kernel_rfl) (fun _ _ _ h => h) (.inl ⟨by rfl, fun _ _ => rfl⟩) hS3 ?_
      simp only [Act.put, List.setIfInBounds_toArray, List.set_cons_zero, List.set_cons_succ, List.getElem_toArray, List.getElem_cons_succ, List.getElem_cons_zero]
      refine wpAnyH_one (k := 18) rfl (by kernel_rfl) ?_
      go_wp2_with fail
      refine (C4.out wi (HSE.out _ hS3)).mono ?_
      rintro e wj ⟨rfl, hk⟩
      have hS4 := HSI.out _ ((HSE.out _ hS3).trans hk)
      clear hS3 hk
      go_wp2_with fail
      refine ⟨hS4, ?_⟩
      refine wpAnyH_take (i := 19) (v := .bool true) rfl (by kernel_rfl) (by kernel_rfl) (by kernel_rfl) (fun _ _ _ h => h) (.inl ⟨by rfl, fun _ _ => rfl⟩) hS4 ?_
      simp only [Act.put, List.setIfInBounds_toArray, List.set_cons_zero, List.set_cons_succ, List.getElem_toArray, List.getElem_cons_succ, List.getElem_cons_zero]
      refine wpAnyH_take (i := 20) (v := .bool true) rfl (by kernel_rfl) (by kernel_rfl) (by kernel_rfl) (fun _ _ _ h => h) (.inl ⟨by rfl, fun _ _ => rfl⟩) hS4 ?_
      simp only [Act.put, List.setIfInBounds_toArray, List.set_cons_zero, List.set_cons_succ, List.getElem_toArray, List.getElem_cons_succ, List.getElem_cons_zero]
      refine wpAnyH_done (by kernel_rfl) ?_ _
      have HKR := Lib.hid (HSE.out _ hS4)
      clear hS4 HSE HSI
      have HBu := Lib.hid (HKR.out.blk HBu.out id)
      have HBv := Lib.hid (HKR.out.blk HBv.out id)
      have HK := Lib.hid (HK.out.trans HKR.out)
      have HUu := Lib.hid (HUu.out.keep HKR.out fun _ _ => id)
      have HUv := Lib.hid (HUv.out.keep HKR.out fun _ _ => id)
      have HG := Lib.hid (HG.out.keep HKR.out)
      have HI0 := Lib.hid (HKR.out.rangeAt HI0.out)
      have HI1 := Lib.hid (HKR.out.rangeAt HI1.out)
      have HUx := Lib.hid (HUx.out.keep HKR.out fun _ _ => id)
      have HUy := Lib.hid (HUy.out.keep HKR.out fun _ _ => id)
      have HKS_P := Lib.hid (HKS_P.out.trans HKR.out)
      have HOb := Lib.hid (HKR.out.owns HOb.out fun _ _ => id)
      have HOc := Lib.hid (HKR.out.owns HOc.out fun _ _ => id)
      go_wp2_with fail
      go_ret
      exact ⟨rfl, HK.out⟩
    · have hu20 : (nu : Int) ≤ 20 := by omega
      have hv20 : (20 : Int) < (nv : Int) := by omega
      go_enter Tryz.func3, Tryz.ntmps3
      go_wp2_with fail
      refine (awakeB_any w2 aF aR HG.out).mono ?_
      rintro e w3 ⟨rfl, hk⟩
      go_wp2_with fail
      go_ret
      exact ⟨rfl, HK.out.trans hk⟩
  · have hu20 : (20 : Int) < (nu : Int) := by omega
    go_enter Tryz.func3, Tryz.ntmps3
    go_wp2_with fail
    refine (awakeB_any w2 aF aR HG.out).mono ?_
    rintro e w3 ⟨rfl, hk⟩
    go_wp2_with fail
    go_ret
    exact ⟨rfl, HK.out.trans hk⟩
end Go.Proofs.YtpkpopgcfgonoaaGreatDoor
