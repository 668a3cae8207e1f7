/-
  UberTorn: of a torn sector no third one is told
  Conditions: the two package variables hold errors.
-/
import Derived.Test.YtpkpopgcfgonoaaDoorUBack
import Derived.Test.YtpkpopgcfgonoaaDoorRsum
namespace Go.Proofs.YtpkpopgcfgonoaaDoor
open Go.RowKit Go.Maps Go.ChangeMaps
set_option maxRecDepth 100000
set_option linter.unusedVariables false

theorem wpList_unguard {P : Program} {ops : Array Oper} {Q : Exit → Act → World → Prop} {a : Act} {w : World} {rest : List Oper} {o : Oper} (hw : Region.wanted o (yielded ops a.tmps) = true)
    (h : wpList P ops Q ({ o with guard := none } :: rest) a w) : wpList P ops Q (o :: rest) a w := by
  unfold wpList at h ⊢
  rw [if_pos (by rfl)] at h
  rw [if_pos hw]
  exact h

set_option maxHeartbeats 32000000 in
theorem utorn_no (w : World) (aF aR : Addr) (hg : ErrG w aF aR) (uv : Value) (U : Ub) (hu : UbV w uv U) (vv : Value) (V : Ub) (hv : UbV w vv V) (x : Int) (HX1 : Hid (-9223372036854775808 ≤ x)) (HX2 : Hid (x ≤ 9223372036854775807)) :
    Calls Tryd.prog 5 #[.agg (ubCs uv U).toArray, .agg (ubCs vv V).toArray, .bool false, .int .i64 x] w (TherePost w true) := by
  obtain ⟨zc, hzc, hzl⟩ : ∃ zc, ubCs (.slice none 0 0) zUb = zc ∧ zc.length = 69 := ⟨_, rfl, rfl⟩
  have hzv : ∀ w, (zeroValue 28).run Tryd.prog w = .ok (.agg zc.toArray) w := by rw [← hzc]; exact zeroValUb
  have HZV := Lib.hid hzv; have HZC := Lib.hid hzc
  clear hzc hzv
  obtain ⟨au, cu, hv_, -, -⟩ := hu.root.rd.form
  have hv2_ : uv = .slice au (U).root.addrs.length cu := hv_
  clear hv_
  subst hv2_
  have hlu := ubCs_len (v := .slice au (U).root.addrs.length cu) hu.root.sum hu.pool
  have HCu := Lib.hid (oneCell_ub (oa := au) (n := (U).root.addrs.length) (ca := cu) (U))
  have HUu := Lib.hid hu
  obtain ⟨lcu, hlcu⟩ : ∃ x, ubCs (.slice au (U).root.addrs.length cu) (U) = x := ⟨_, rfl⟩
  rw [hlcu] at hlu HCu
  try rw [hlcu]
  have HLCu := Lib.hid hlcu
  clear hlcu
  clear hu
  obtain ⟨av, cv, hv_, -, -⟩ := hv.root.rd.form
  have hv2_ : vv = .slice av (V).root.addrs.length cv := hv_
  clear hv_
  subst hv2_
  have hlv := ubCs_len (v := .slice av (V).root.addrs.length cv) hv.root.sum hv.pool
  have HCv := Lib.hid (oneCell_ub (oa := av) (n := (V).root.addrs.length) (ca := cv) (V))
  have HUv := Lib.hid hv
  obtain ⟨lcv, hlcv⟩ : ∃ x, ubCs (.slice av (V).root.addrs.length cv) (V) = x := ⟨_, rfl⟩
  rw [hlcv] at hlv HCv
  try rw [hlcv]
  have HLCv := Lib.hid hlcv
  clear hlcv
  clear hv
  obtain ⟨w1, hw1, k1, hb1, s1⟩ := alloc_facts w lcu.toArray 28
  obtain ⟨w2, hw2, k2, hb2, s2⟩ := alloc_facts w1 lcv.toArray 28
  rw [s1] at hb2
  have HBu := Lib.hid (k2.blk hb1 id); have HBv := Lib.hid hb2
  have HK := Lib.hid (k1.trans k2)
  have HUu := Lib.hid (HUu.out.keep HK.out fun _ _ => id); have HUv := Lib.hid (HUv.out.keep HK.out fun _ _ => id)
  have HG := Lib.hid (hg.keep HK.out)
  have hs2 : w2.heap.size = w.heap.size + 2 := by omega
  have hbl : w.heap.size + 1 < w2.heap.size := by omega
  obtain ⟨bu, hbu⟩ : ∃ b, w.heap.size = b := ⟨_, rfl⟩
  have HBN := Lib.hid hbu
  obtain ⟨nu, hnu⟩ : ∃ n, U.root.addrs.length = n := ⟨_, rfl⟩
  obtain ⟨nv, hnv⟩ : ∃ n, V.root.addrs.length = n := ⟨_, rfl⟩
  have HNu := Lib.hid hnu; have HNv := Lib.hid hnv
  have hmu : nu ≤ maxLen := by obtain ⟨a', c', h1, h2, h3⟩ := HUu.out.root.rd.form; omega
  have hmv : nv ≤ maxLen := by obtain ⟨a', c', h1, h2, h3⟩ := HUv.out.root.rd.form; omega
  unfold maxLen at hmu hmv
  clear k1 k2 hb1 hb2 hg s2
  have hcu := blk_cell (i := 1) (v := .slice au U.root.addrs.length cu) HBu.out (by rw [← HLCu.out]; rfl)
  have hcv := blk_cell (i := 1) (v := .slice av V.root.addrs.length cv) HBv.out (by rw [← HLCv.out]; rfl)
  rw [HNu.out] at hcu
  rw [HNv.out] at hcv
  rw [hbu] at hcu hcv s1 hs2 hbl HBu HBv
  clear hnu hnv
  go_enter Tryd.func5, Tryd.ntmps5
  go_wp2_with fail
  clear hw1 hw2 s1 hbu hs2
  refine (awakeB_any w2 aF aR HG.out).mono ?_
  rintro e w3 ⟨rfl, hk⟩
  have hcu := hk.cell hcu id; have hcv := hk.cell hcv id
  have HBu := Lib.hid (hk.blk HBu.out id)
  have HBv := Lib.hid (hk.blk HBv.out id)
  have HK := Lib.hid (HK.out.trans hk)
  have HUu := Lib.hid (HUu.out.keep hk fun _ _ => id)
  have HUv := Lib.hid (HUv.out.keep hk fun _ _ => id)
  have HG := Lib.hid (HG.out.keep hk)
  clear hk
  by_cases hu : nu ≤ 20
  · by_cases hv : nv ≤ 20
    · have hu20 : (nu : Int) ≤ 20 := by omega
      have hv20 : (nv : Int) ≤ 20 := by omega
      go_wp2_with (first
        | ((with_reducible show wpList _ _ _ (⟨_, .load 28 (.tmp 4), _, _, _, _⟩ :: _) _ _); refine wpList_load_g (by rfl) 28 (.tmp 4) rfl bu 0 rfl lcu _ (rangeAt_whole HBu.out) ubUnder rfl (sizeUbL hlu) ?_))
      refine (show Calls Tryd.prog 11 #[.agg lcu.toArray] w3 (UPackPost w3 U) from by rw [← HLCu.out]; exact upack_any w3 _ U HUu.out).mono ?_
      rintro e w4 ⟨va, rfl, hoa, hk⟩
      have HBu := Lib.hid (hk.blk HBu.out id)
      have HBv := Lib.hid (hk.blk HBv.out id)
      have HK := Lib.hid (HK.out.trans hk)
      have HUu := Lib.hid (HUu.out.keep hk fun _ _ => id)
      have HUv := Lib.hid (HUv.out.keep hk fun _ _ => id)
      have HG := Lib.hid (HG.out.keep hk)
      clear hk
      cases hmU : U.may
      · obtain ⟨aa', ca', hva, -, -⟩ := (Rd.of_owns hoa).form
        subst hva
        rw [if_neg Bool.false_ne_true]
        go_wp2_with (first
          | ((with_reducible show wpList _ _ _ (⟨_, .load 28 (.tmp 5), _, _, _, _⟩ :: _) _ _); refine wpList_load_g (by rfl) 28 (.tmp 5) rfl (bu + 1) 0 rfl lcv _ (rangeAt_whole HBv.out) ubUnder rfl (sizeUbL hlv) ?_))
        refine (show Calls Tryd.prog 11 #[.agg lcv.toArray] w4 (UPackPost w4 V) from by rw [← HLCv.out]; exact upack_any w4 _ V HUv.out).mono ?_
        rintro e w5 ⟨vb, rfl, hob, hk⟩
        have HBu := Lib.hid (hk.blk HBu.out id)
        have HBv := Lib.hid (hk.blk HBv.out id)
        have HK := Lib.hid (HK.out.trans hk)
        have HUu := Lib.hid (HUu.out.keep hk fun _ _ => id)
        have HUv := Lib.hid (HUv.out.keep hk fun _ _ => id)
        have HG := Lib.hid (HG.out.keep hk)
        clear hk
        generalize (if V.may = true then (0 : Int) else 2) = er2
        obtain ⟨ab', cb', hvb, -, -⟩ := (Rd.of_owns hob).form
        subst hvb
        go_wp2_with fail
        go_ret
        exact ⟨rfl, HK.out⟩
      · rw [if_pos rfl]
        rw [packU_len HUu.out.pool HUu.out.root.sum hmU] at hoa
        obtain ⟨ga, ca, rfl, hca, hcam⟩ := own256 hoa rfl
        unfold maxLen at hcam
        have HOa := Lib.hid hoa; have HMU := Lib.hid hmU
        clear hoa hmU
        go_wp2_with (first
          | ((with_reducible show wpList _ _ _ (⟨_, .load 28 (.tmp 5), _, _, _, _⟩ :: _) _ _); refine wpList_load_g (by rfl) 28 (.tmp 5) rfl (bu + 1) 0 rfl lcv _ (rangeAt_whole HBv.out) ubUnder rfl (sizeUbL hlv) ?_))
        refine (show Calls Tryd.prog 11 #[.agg lcv.toArray] w4 (UPackPost w4 V) from by rw [← HLCv.out]; exact upack_any w4 _ V HUv.out).mono ?_
        rintro e w5 ⟨vb, rfl, hob, hk⟩
        have HBu := Lib.hid (hk.blk HBu.out id)
        have HBv := Lib.hid (hk.blk HBv.out id)
        have HK := Lib.hid (HK.out.trans hk)
        have HUu := Lib.hid (HUu.out.keep hk fun _ _ => id)
        have HUv := Lib.hid (HUv.out.keep hk fun _ _ => id)
        have HG := Lib.hid (HG.out.keep hk)
        have HOa := Lib.hid (hk.owns HOa.out fun _ _ => id)
        clear hk
        cases hmV : V.may
        · obtain ⟨ab', cb', hvb, -, -⟩ := (Rd.of_owns hob).form
          subst hvb
          go_wp2_with fail
          go_ret
          exact ⟨rfl, HK.out⟩
        · rw [if_pos rfl]
          rw [packU_len HUv.out.pool HUv.out.root.sum hmV] at hob
          obtain ⟨gb, cb, rfl, hcb, hcbm⟩ := own256 hob rfl
          unfold maxLen at hcbm
          have HOb := Lib.hid hob; have HMV := Lib.hid hmV
          clear hob hmV
          obtain ⟨bl, hbl_⟩ : ∃ l, packU V = l := ⟨_, rfl⟩
          have HBL : Hid ((∃ v : Ub, v.pool.length = 32 ∧ v.root.sum.length = 32 ∧ v.may = true ∧ bl = packU v) ∨ bl = List.replicate 256 0) := Lib.hid (.inl ⟨V, HUv.out.pool, HUv.out.root.sum, HMV.out, hbl_.symm⟩)
          have HLB : Hid (bl.length = 256) := Lib.hid (by rw [← hbl_]; exact packU_len HUv.out.pool HUv.out.root.sum HMV.out)
          rw [hbl_] at HOb
          clear hbl_
          go_wp2_with fail
          have hp0 := Int.emod_nonneg x (show (257 : Int) ≠ 0 by omega)
          have hp1 := Int.emod_lt_of_pos x (show (0 : Int) < 257 by omega)
          obtain ⟨tn, htn⟩ : ∃ tn : Nat, x % 257 = (tn : Int) := ⟨(x % 257).toNat, by omega⟩
          have htl : tn ≤ 256 := by omega
          refine (pick_any w5 x 257 (by omega) (by omega) HX1.out HX2.out).mono ?_
          rintro e wz ⟨rfl, hw_⟩
          rw [htn]
          subst hw_
          clear hp0 hp1 htn
          obtain ⟨al, hal_⟩ : ∃ l, packU U = l := ⟨_, rfl⟩
          have HLA : Hid (al.length = 256) := Lib.hid (by rw [← hal_]; exact packU_len HUu.out.pool HUu.out.root.sum HMU.out)
          have HAL := Lib.hid hal_
          rw [hal_] at HOa
          clear hal_
          go_wp2_with fail
          have HTV : Hid (∀ w', (Instr.sliceAt 36 (.slice (some ⟨ga, 0, none⟩) 256 ca) none (some (.int .i64 tn)) none).run Tryd.prog w' = .ok (.slice (some ⟨ga, 0, none⟩) tn ca) w') := Lib.hid (fun w' => run_cut_to Tryd.underlying36 _ 256 ca tn (by omega) sizeOfU8 w')
          obtain ⟨sv, hsv⟩ : ∃ v, sliced (some ⟨gb, 0, none⟩) tn 256 cb 1 = v := ⟨_, rfl⟩
          have HSV : Hid (∀ w', (Instr.sliceAt 36 (.slice (some ⟨gb, 0, none⟩) 256 cb) (some (.int .i64 tn)) none none).run Tryd.prog w' = .ok sv w') := Lib.hid (fun w' => by rw [← hsv]; exact run_cut_from Tryd.underlying36 _ 256 cb tn (by omega) sizeOfU8 w')
          have hra := (Rd.of_owns HOa.out).cut_to (k := tn) (by omega)
          have hrb := (Rd.of_owns HOb.out).cut_from (k := tn) (by omega)
          rw [Nat.mul_one, ← List.map_take] at hra
          rw [hsv, Nat.mul_one, ← List.map_drop] at hrb
          have HRA := Lib.hid hra; have HRB := Lib.hid hrb
          obtain ⟨sa, sc, hsf, -, -⟩ := hrb.form
          subst hsf
          have hta : (al.take tn).length = tn := by rw [List.length_take, HLA.out]; omega
          clear hra hrb hsv
          obtain ⟨S, hS0⟩ : ∃ S : World → Prop, S = fun w' => Keep noBlk w5 w' := ⟨_, rfl⟩
          have HSE := Lib.hid (show ∀ w', S w' → Keep noBlk w5 w' from fun w' h => by rw [hS0] at h; exact h)
          have HSI := Lib.hid (show ∀ w', Keep noBlk w5 w' → S w' from fun w' h => by rw [hS0]; exact h)
          have hS : S w5.drew := by rw [hS0]; exact (Keep.refl _ _).drew
          clear hS0
          refine wp_region_held (S := S) (by kernel_rfl) ?_
          change wpAnyH _ _ _ _ _ _ _ _ w5.drew
          generalize w5.drew = w7 at hS ⊢
          refine wpAnyH_take (i := 1) (v := .slice (some ⟨ga, 0, none⟩) 256 ca) rfl (by kernel_rfl) (by kernel_rfl) (by kernel_rfl) (fun _ _ _ h => h) (.inl ⟨by rfl, fun _ _ => rfl⟩) hS ?_
          simp only [Act.put, List.setIfInBounds_toArray, List.set_cons_zero, List.set_cons_succ, List.getElem_toArray, List.getElem_cons_succ, List.getElem_cons_zero]
          refine wpAnyH_take (i := 2) (v := .int .i64 tn) rfl (by kernel_rfl) (by kernel_rfl) (by kernel_rfl) (fun _ _ _ h => h) (.inl ⟨by rfl, fun _ _ => rfl⟩) hS ?_
          simp only [Act.put, List.setIfInBounds_toArray, List.set_cons_zero, List.set_cons_succ, List.getElem_toArray, List.getElem_cons_succ, List.getElem_cons_zero]
          refine wpAnyH_take (i := 3) (v := .slice (some ⟨ga, 0, none⟩) tn ca) rfl (by kernel_rfl) (by kernel_rfl) (by kernel_rfl) (fun _ _ _ h => h) (yieldsIf_slice (by rfl) 36 (.tmp 63) none (some (.tmp 64)) none rfl (.slice (some ⟨ga, 0, none⟩) 256 ca) none (some (.int .i64 tn)) none rfl rfl rfl rfl HTV.out) hS ?_
          simp only [Act.put, List.setIfInBounds_toArray, List.set_cons_zero, List.set_cons_succ, List.getElem_toArray, List.getElem_cons_succ, List.getElem_cons_zero]
          refine wpAnyH_take (i := 5) (v := .slice (some ⟨gb, 0, none⟩) 256 cb) rfl (by kernel_rfl) (by kernel_rfl) (by kernel_rfl) (fun _ _ _ h => h) (.inl ⟨by rfl, fun _ _ => rfl⟩) hS ?_
          simp only [Act.put, List.setIfInBounds_toArray, List.set_cons_zero, List.set_cons_succ, List.getElem_toArray, List.getElem_cons_succ, List.getElem_cons_zero]
          refine wpAnyH_take (i := 6) (v := .int .i64 tn) rfl (by kernel_rfl) (by kernel_rfl) (by kernel_rfl) (fun _ _ _ h => h) (.inl ⟨by rfl, fun _ _ => rfl⟩) hS ?_
          simp only [Act.put, List.setIfInBounds_toArray, List.set_cons_zero, List.set_cons_succ, List.getElem_toArray, List.getElem_cons_succ, List.getElem_cons_zero]
          refine wpAnyH_take (i := 7) (v := .slice sa (256 - tn) sc) rfl (by kernel_rfl) (by kernel_rfl) (by kernel_rfl) (fun _ _ _ h => h) (yieldsIf_slice (by rfl) 36 (.tmp 67) (some (.tmp 68)) none none rfl (.slice (some ⟨gb, 0, none⟩) 256 cb) (some (.int .i64 tn)) none none rfl rfl rfl rfl HSV.out) hS ?_
          simp only [Act.put, List.setIfInBounds_toArray, List.set_cons_zero, List.set_cons_succ, List.getElem_toArray, List.getElem_cons_succ, List.getElem_cons_zero]
          refine wpAnyH_one (k := 0) rfl (by kernel_rfl) ?_
          have hsl_ := (HSE.out _ hS).size
          obtain ⟨w8, hw9, hk, hb9, hs9⟩ := alloc_facts w7 #[] 5
          have H0 : Hid (w8.ownsRow w5.heap.size 5 1 (.slice (some ⟨w7.heap.size, 0, none⟩) 0 0) 0 []) := Lib.hid (by rw [← hw9]; exact World.ownsRow_made w7 #[] 0 hsl_ (by unfold maxLen; omega) rfl)
          have hsz_ : w7.heap.size < w8.heap.size := by omega
          clear hb9 hs9 hsl_
          go_wp2_with fail
          try rw [hw9]
          clear hw9
          obtain ⟨eH0, he_⟩ : ∃ e, w7.heap.size = e := ⟨_, rfl⟩
          rw [he_] at H0 ⊢
          clear he_ hsz_
          have hS1 := HSI.out _ ((HSE.out _ hS).trans hk)
          clear hS hk
          refine ⟨hS1, ?_⟩
          refine wpAnyH_one (k := 4) rfl (by kernel_rfl) ?_
          have hbs_ : w5.heap.size ≤ w8.heap.size := (HSE.out _ hS1).size
          have hrd_ := (HRA.out.keep (HSE.out _ hS1) fun _ _ => id)
          skip
          refine wpList_append_rd rfl (.tmp 62) (.tmp 65) 36 rfl w5.heap.size 5 (.int .u8 0) 1 1 Tryd.underlying36 infoU8 rfl (by decide) (.slice (some ⟨eH0, 0, none⟩) 0 0) (0) ([]) rfl H0.out (.slice (some ⟨ga, 0, none⟩) tn ca) (tn) ((al.take tn).map vb) rfl hrd_ (oneCell_vb _) (by unfold maxLen; omega) (by omega) hbs_ ?_
          intro v' w9 ho5 hk5 hn5 hb5
          have hk2 := (HSE.out _ hS1).trans' hk5 (U := noBlk) (fun _ _ h => h) (fun i hi e => by have := owns_base H0.out e; omega)
          rw [Nat.zero_add, List.nil_append] at ho5
          obtain ⟨x1, c1, hvf, -, -⟩ := (Rd.of_owns ho5).form
          subst hvf
          have H1 := Lib.hid ho5
          clear ho5 hk5 hn5 hb5 hrd_ hbs_
          have hS2 := HSI.out _ hk2
          clear hS1 hk2
          go_wp2_with fail
          refine ⟨hS2, ?_⟩
          refine wpAnyH_one (k := 8) rfl (by kernel_rfl) ?_
          have hbs_ : w5.heap.size ≤ w9.heap.size := (HSE.out _ hS2).size
          have hrd_ := (HRB.out.keep (HSE.out _ hS2) fun _ _ => id)
          skip
          refine wpList_append_rd rfl (.tmp 66) (.tmp 69) 36 rfl w5.heap.size 5 (.int .u8 0) 1 1 Tryd.underlying36 infoU8 rfl (by decide) (.slice x1 tn c1) (tn) ((al.take tn).map vb) rfl H1.out (.slice sa (256 - tn) sc) (256 - tn) ((bl.drop tn).map vb) rfl hrd_ (oneCell_vb _) (by unfold maxLen; omega) (by omega) hbs_ ?_
          intro v' wa ho5 hk5 hn5 hb5
          have hk2 := (HSE.out _ hS2).trans' hk5 (U := noBlk) (fun _ _ h => h) (fun i hi e => by have := owns_base H1.out e; omega)
          rw [show tn + (256 - tn) = 256 by omega, ← List.map_append] at ho5
          obtain ⟨x2, c2, hvf, -, -⟩ := (Rd.of_owns ho5).form
          subst hvf
          have H2 := Lib.hid ho5
          clear ho5 hk5 hn5 hb5 hrd_ hbs_
          have hS3 := HSI.out _ hk2
          clear hS2 hk2
          go_wp2_with fail
          refine ⟨hS3, ?_⟩
          refine wpAnyH_take (i := 9) (v := .slice x2 256 c2) rfl (by kernel_rfl) (by kernel_rfl) (by kernel_rfl) (fun _ _ _ h => h) (.inl ⟨by rfl, fun _ _ => rfl⟩) hS3 ?_
          simp only [Act.put, List.setIfInBounds_toArray, List.set_cons_zero, List.set_cons_succ, List.getElem_toArray, List.getElem_cons_succ, List.getElem_cons_zero]
          refine wpAnyH_done (by kernel_rfl) ?_ _
          have HKR := Lib.hid (HSE.out _ hS3)
          clear hS3 HSE HSI
          have HBu := Lib.hid (HKR.out.blk HBu.out id)
          have HBv := Lib.hid (HKR.out.blk HBv.out id)
          have HK := Lib.hid (HK.out.trans HKR.out)
          have HUu := Lib.hid (HUu.out.keep HKR.out fun _ _ => id)
          have HUv := Lib.hid (HUv.out.keep HKR.out fun _ _ => id)
          have HG := Lib.hid (HG.out.keep HKR.out)
          have HOa := Lib.hid (HKR.out.owns HOa.out fun _ _ => id)
          have HOb := Lib.hid (HKR.out.owns HOb.out fun _ _ => id)
          have HRA := Lib.hid (HRA.out.keep HKR.out fun _ _ => id)
          have HRB := Lib.hid (HRB.out.keep HKR.out fun _ _ => id)
          clear HRA HRB HTV HSV H0 H1
          obtain ⟨s, hs_⟩ : ∃ l, al.take tn ++ bl.drop tn = l := ⟨_, rfl⟩
          have HSS := Lib.hid hs_
          have hsl : s.length = 256 := by rw [← hs_, List.length_append, List.length_take, List.length_drop, HLA.out, HLB.out]; omega
          rw [hs_] at H2
          obtain ⟨gs, cs, hvs, hcs, hcsm⟩ := own256 H2.out rfl
          unfold maxLen at hcsm
          obtain ⟨rfl, rfl⟩ : x2 = some ⟨gs, 0, none⟩ ∧ c2 = cs := by cases hvs; exact ⟨rfl, rfl⟩
          have HOs := H2
          have HSL := Lib.hid hsl
          clear H2 hs_ hvs hsl
          go_wp2_with fail
          by_cases ea : s = al
          · refine (same_any wa _ _ s al (by rw [HSL.out]; exact Rd.of_owns HOs.out) (by rw [HLA.out]; exact Rd.of_owns HOa.out) true (decide_eq_true ea)).mono ?_
            rintro e wz ⟨rfl, hw_⟩
            subst hw_
            go_wp2_with fail
            go_ret
            exact ⟨rfl, HK.out⟩
          · refine (same_any wa _ _ s al (by rw [HSL.out]; exact Rd.of_owns HOs.out) (by rw [HLA.out]; exact Rd.of_owns HOa.out) false (decide_eq_false ea)).mono ?_
            rintro e wz ⟨rfl, hw_⟩
            subst hw_
            go_wp2_with fail
            by_cases eb : s = bl
            · refine (same_any wa _ _ s bl (by rw [HSL.out]; exact Rd.of_owns HOs.out) (by rw [HLB.out]; exact Rd.of_owns HOb.out) true (decide_eq_true eb)).mono ?_
              rintro e wz ⟨rfl, hw_⟩
              subst hw_
              go_wp2_with fail
              go_ret
              exact ⟨rfl, HK.out⟩
            · refine (same_any wa _ _ s bl (by rw [HSL.out]; exact Rd.of_owns HOs.out) (by rw [HLB.out]; exact Rd.of_owns HOb.out) false (decide_eq_false eb)).mono ?_
              rintro e wz ⟨rfl, hw_⟩
              subst hw_
              have HEA := Lib.hid ea; have HEB := Lib.hid eb
              clear ea eb
              go_wp2_with fail
              obtain ⟨s2, hs2⟩ : ∃ l, s.take 224 = l := ⟨_, rfl⟩
              obtain ⟨a2, ha2⟩ : ∃ l, al.take 224 = l := ⟨_, rfl⟩
              obtain ⟨b2, hb2⟩ : ∃ l, bl.take 224 = l := ⟨_, rfl⟩
              obtain ⟨d2, hd2⟩ : ∃ l, s.drop 224 = l := ⟨_, rfl⟩
              have HS2 := Lib.hid hs2; have HA2 := Lib.hid ha2; have HB2 := Lib.hid hb2; have HD2 := Lib.hid hd2
              have ls2 : s2.length = 224 := by rw [← hs2, List.length_take, HSL.out]; rfl
              have la2 : a2.length = 224 := by rw [← ha2, List.length_take, HLA.out]; rfl
              have lb2 : b2.length = 224 := by rw [← hb2, List.length_take, HLB.out]; rfl
              have ld2 : d2.length = 32 := by rw [← hd2, List.length_drop, HSL.out]
              have hr1 := (Rd.of_owns HOs.out).cut_to (k := 224) (by omega)
              have hr2 := (Rd.of_owns HOa.out).cut_to (k := 224) (by omega)
              have hr3 := (Rd.of_owns HOb.out).cut_to (k := 224) (by omega)
              have hr4 := (Rd.of_owns HOs.out).cut_from (k := 224) (by omega)
              rw [Nat.mul_one, ← List.map_take, hs2] at hr1
              rw [Nat.mul_one, ← List.map_take, ha2] at hr2
              rw [Nat.mul_one, ← List.map_take, hb2] at hr3
              rw [Nat.mul_one, ← List.map_drop, hd2] at hr4
              obtain ⟨sw, hsw⟩ : ∃ v, sliced (some ⟨gs, 0, none⟩) 224 256 c2 1 = v := ⟨_, rfl⟩
              have HSW : Hid (∀ w', (Instr.sliceAt 36 (.slice (some ⟨gs, 0, none⟩) 256 c2) (some (.int .i64 224)) none none).run Tryd.prog w' = .ok sw w') := Lib.hid (fun w' => by rw [← hsw]; exact run_cut_from Tryd.underlying36 _ 256 c2 224 (by omega) sizeOfU8 w')
              rw [hsw] at hr4
              obtain ⟨sx, sxc, hsf, -, -⟩ := hr4.form
              have hsf2 : sw = .slice sx 32 sxc := hsf
              clear hsf
              subst hsf2
              have HR1 := Lib.hid (show Rd wa 1 (.slice (some ⟨gs, 0, none⟩) 224 c2) s2.length (s2.map vb) by rw [ls2]; exact hr1)
              have HR2 := Lib.hid (show Rd wa 1 (.slice (some ⟨ga, 0, none⟩) 224 ca) a2.length (a2.map vb) by rw [la2]; exact hr2)
              have HR3 := Lib.hid (show Rd wa 1 (.slice (some ⟨gb, 0, none⟩) 224 cb) b2.length (b2.map vb) by rw [lb2]; exact hr3)
              have HR4 := Lib.hid (show Rd wa 1 (.slice sx 32 sxc) d2.length (d2.map vb) by rw [ld2]; exact hr4)
              clear hr1 hr2 hr3 hr4 hsw hs2 ha2 hb2 hd2
              have HT1 : Hid (∀ w', (Instr.sliceAt 36 (.slice (some ⟨gs, 0, none⟩) 256 c2) none (some (.int .i64 224)) none).run Tryd.prog w' = .ok (.slice (some ⟨gs, 0, none⟩) 224 c2) w') := Lib.hid (fun w' => run_cut_to Tryd.underlying36 _ 256 c2 224 (by omega) sizeOfU8 w')
              have HT2 : Hid (∀ w', (Instr.sliceAt 36 (.slice (some ⟨ga, 0, none⟩) 256 ca) none (some (.int .i64 224)) none).run Tryd.prog w' = .ok (.slice (some ⟨ga, 0, none⟩) 224 ca) w') := Lib.hid (fun w' => run_cut_to Tryd.underlying36 _ 256 ca 224 (by omega) sizeOfU8 w')
              have HT3 : Hid (∀ w', (Instr.sliceAt 36 (.slice (some ⟨gb, 0, none⟩) 256 cb) none (some (.int .i64 224)) none).run Tryd.prog w' = .ok (.slice (some ⟨gb, 0, none⟩) 224 cb) w') := Lib.hid (fun w' => run_cut_to Tryd.underlying36 _ 256 cb 224 (by omega) sizeOfU8 w')
              refine (rsum_any _ s2 wa HR1.out (by rw [ls2]; omega)).mono ?_
              rintro e wb ⟨rfl, hk⟩
              obtain ⟨dg, hdg⟩ : ∃ l, digest s2 = l := ⟨_, rfl⟩
              have HDG := Lib.hid hdg
              have hdl : dg.length = 32 := by rw [← hdg]; exact digest_length _
              rw [hdg]
              obtain ⟨dc, hdc⟩ : ∃ l, dg.map vb = l := ⟨_, rfl⟩
              have HDC := Lib.hid hdc
              have hdcl : dc.length = 32 := by rw [← hdc, List.length_map, hdl]
              have HDO := Lib.hid (show ∀ u ∈ dc, u.oneCell' = true by rw [← hdc]; exact oneCell_vb _)
              rw [hdc]
              clear hdg hdc
              have HBu := Lib.hid (hk.blk HBu.out id)
              have HBv := Lib.hid (hk.blk HBv.out id)
              have HK := Lib.hid (HK.out.trans hk)
              have HUu := Lib.hid (HUu.out.keep hk fun _ _ => id)
              have HUv := Lib.hid (HUv.out.keep hk fun _ _ => id)
              have HG := Lib.hid (HG.out.keep hk)
              have HOa := Lib.hid (hk.owns HOa.out fun _ _ => id)
              have HOb := Lib.hid (hk.owns HOb.out fun _ _ => id)
              have HOs := Lib.hid (hk.owns HOs.out fun _ _ => id)
              have HR1 := Lib.hid (HR1.out.keep hk fun _ _ => id)
              have HR2 := Lib.hid (HR2.out.keep hk fun _ _ => id)
              have HR3 := Lib.hid (HR3.out.keep hk fun _ _ => id)
              have HR4 := Lib.hid (HR4.out.keep hk fun _ _ => id)
              clear hk
              go_wp2_with (first
                | ((with_reducible show wpList _ _ _ (⟨_, .alloc 24, _, _, _, _⟩ :: _) _ _); refine wpList_alloc_at rfl 24 rfl zero32 zeroID (Array.replicate 32 (.int .u8 0)) rfl ?_)
                | ((with_reducible show wpList _ _ _ (⟨none, .store 24 (.tmp 15) (.tmp 82), _, _, _, _⟩ :: _) _ _)
                   refine wpList_store_agg rfl 24 (.tmp 15) (.tmp 82) rfl wb.heap.size 0 dc rfl rfl (Array.replicate 32 (.int .u8 0)) _ (heap_alloc_new _ _) (by rw [hdcl, Array.size_replicate]; exact Nat.le_refl _) (sizeIDL hdcl) HDO.out ?_
                   intro wc hb5 hk5
                   rw [spl_whole _ _ (by rw [hdcl, Array.size_replicate])] at hb5
                   have hkb : Keep noBlk wb wc := ((Keep.refl noBlk wb).alloc _).trans' hk5 (fun _ _ h => h.elim) (fun i hi e => by omega)
                   clear hk5
                   obtain ⟨b15, hb_⟩ : ∃ b, wb.heap.size = b := ⟨_, rfl⟩
                   rw [hb_] at hb5 ⊢
                   clear hb_
                   have HB15 := Lib.hid hb5; clear hb5))
              have HBu := Lib.hid (hkb.blk HBu.out id)
              have HBv := Lib.hid (hkb.blk HBv.out id)
              have HK := Lib.hid (HK.out.trans hkb)
              have HUu := Lib.hid (HUu.out.keep hkb fun _ _ => id)
              have HUv := Lib.hid (HUv.out.keep hkb fun _ _ => id)
              have HG := Lib.hid (HG.out.keep hkb)
              have HOa := Lib.hid (hkb.owns HOa.out fun _ _ => id)
              have HOb := Lib.hid (hkb.owns HOb.out fun _ _ => id)
              have HOs := Lib.hid (hkb.owns HOs.out fun _ _ => id)
              have HR1 := Lib.hid (HR1.out.keep hkb fun _ _ => id)
              have HR2 := Lib.hid (HR2.out.keep hkb fun _ _ => id)
              have HR3 := Lib.hid (HR3.out.keep hkb fun _ _ => id)
              have HR4 := Lib.hid (HR4.out.keep hkb fun _ _ => id)
              clear hkb
              by_cases e1 : s2 = a2
              · have C1 := Lib.hid (show ∀ wx, Keep noBlk wc wx → Calls Tryd.prog 13 #[.slice (some ⟨gs, 0, none⟩) 224 c2, .slice (some ⟨ga, 0, none⟩) 224 ca] wx (TherePost wx true) from fun wx k =>
                  (same_any wx _ _ s2 a2 (HR1.out.keep k fun _ _ => id) (HR2.out.keep k fun _ _ => id) true (decide_eq_true e1)).mono fun e w' ⟨h1, h2⟩ => ⟨h1, by rw [← h2]; exact Keep.refl _ _⟩)
                have HE1 := Lib.hid e1
                clear e1
                obtain ⟨S, hS0⟩ : ∃ S : World → Prop, S = fun w' => Keep noBlk wc w' := ⟨_, rfl⟩
                have HSE := Lib.hid (show ∀ w', S w' → Keep noBlk wc w' from fun w' h => by rw [hS0] at h; exact h)
                have HSI := Lib.hid (show ∀ w', Keep noBlk wc w' → S w' from fun w' h => by rw [hS0]; exact h)
                have hS : S wc.drew := by rw [hS0]; exact (Keep.refl _ _).drew
                clear hS0
                refine wp_region_held (S := S) (by kernel_rfl) ?_
                change wpAnyH _ _ _ _ _ _ _ _ wc.drew
                generalize wc.drew = wd at hS ⊢
                refine wpAnyH_take (i := 0) (v := .slice (some ⟨gs, 0, none⟩) 256 c2) rfl (by kernel_rfl) (by kernel_rfl) (by kernel_rfl) (fun _ _ _ h => h) (.inl ⟨by rfl, fun _ _ => rfl⟩) hS ?_
                simp only [Act.put, List.setIfInBounds_toArray, List.set_cons_zero, List.set_cons_succ, List.getElem_toArray, List.getElem_cons_succ, List.getElem_cons_zero]
                refine wpAnyH_take (i := 1) (v := .slice (some ⟨gs, 0, none⟩) 224 c2) rfl (by kernel_rfl) (by kernel_rfl) (by kernel_rfl) (fun _ _ _ h => h) (yieldsIf_slice (by rfl) 36 (.tmp 83) none (some (.const (.int .i64 224))) none rfl (.slice (some ⟨gs, 0, none⟩) 256 c2) none (some (.int .i64 224)) none rfl rfl rfl rfl HT1.out) hS ?_
                simp only [Act.put, List.setIfInBounds_toArray, List.set_cons_zero, List.set_cons_succ, List.getElem_toArray, List.getElem_cons_succ, List.getElem_cons_zero]
                refine wpAnyH_take (i := 2) (v := .slice (some ⟨ga, 0, none⟩) 256 ca) rfl (by kernel_rfl) (by kernel_rfl) (by kernel_rfl) (fun _ _ _ h => h) (.inl ⟨by rfl, fun _ _ => rfl⟩) hS ?_
                simp only [Act.put, List.setIfInBounds_toArray, List.set_cons_zero, List.set_cons_succ, List.getElem_toArray, List.getElem_cons_succ, List.getElem_cons_zero]
                refine wpAnyH_take (i := 3) (v := .slice (some ⟨ga, 0, none⟩) 224 ca) rfl (by kernel_rfl) (by kernel_rfl) (by kernel_rfl) (fun _ _ _ h => h) (yieldsIf_slice (by rfl) 36 (.tmp 85) none (some (.const (.int .i64 224))) none rfl (.slice (some ⟨ga, 0, none⟩) 256 ca) none (some (.int .i64 224)) none rfl rfl rfl rfl HT2.out) hS ?_
                simp only [Act.put, List.setIfInBounds_toArray, List.set_cons_zero, List.set_cons_succ, List.getElem_toArray, List.getElem_cons_succ, List.getElem_cons_zero]
                refine wpAnyH_one (k := 4) rfl (by kernel_rfl) ?_
                go_wp2_with fail
                refine (C1.out wd (HSE.out _ hS)).mono ?_
                rintro e we ⟨rfl, hk⟩
                have hS1 := HSI.out _ ((HSE.out _ hS).trans hk)
                clear hS hk
                go_wp2_with fail
                refine ⟨hS1, ?_⟩
                refine wpAnyH_take (i := 5) (v := .bool true) rfl (by kernel_rfl) (by kernel_rfl) (by kernel_rfl) (fun _ _ _ h => h) (.inl ⟨by rfl, fun _ _ => rfl⟩) hS1 ?_
                simp only [Act.put, List.setIfInBounds_toArray, List.set_cons_zero, List.set_cons_succ, List.getElem_toArray, List.getElem_cons_succ, List.getElem_cons_zero]
                refine wpAnyH_take (i := 6) (v := undef) rfl (by kernel_rfl) (by kernel_rfl) (by kernel_rfl) (fun _ _ _ h => h) (.inr ⟨by rfl, rfl⟩) hS1 ?_
                simp only [Act.put, List.setIfInBounds_toArray, List.set_cons_zero, List.set_cons_succ, List.getElem_toArray, List.getElem_cons_succ, List.getElem_cons_zero]
                refine wpAnyH_take (i := 7) (v := undef) rfl (by kernel_rfl) (by kernel_rfl) (by kernel_rfl) (fun _ _ _ h => h) (.inr ⟨by rfl, rfl⟩) hS1 ?_
                simp only [Act.put, List.setIfInBounds_toArray, List.set_cons_zero, List.set_cons_succ, List.getElem_toArray, List.getElem_cons_succ, List.getElem_cons_zero]
                refine wpAnyH_take (i := 8) (v := undef) rfl (by kernel_rfl) (by kernel_rfl) (by kernel_rfl) (fun _ _ _ h => h) (.inr ⟨by rfl, rfl⟩) hS1 ?_
                simp only [Act.put, List.setIfInBounds_toArray, List.set_cons_zero, List.set_cons_succ, List.getElem_toArray, List.getElem_cons_succ, List.getElem_cons_zero]
                refine wpAnyH_take (i := 9) (v := undef) rfl (by kernel_rfl) (by kernel_rfl) (by kernel_rfl) (fun _ _ _ h => h) (.inr ⟨by rfl, rfl⟩) hS1 ?_
                simp only [Act.put, List.setIfInBounds_toArray, List.set_cons_zero, List.set_cons_succ, List.getElem_toArray, List.getElem_cons_succ, List.getElem_cons_zero]
                refine wpAnyH_take (i := 10) (v := undef) rfl (by kernel_rfl) (by kernel_rfl) (by kernel_rfl) (fun _ _ _ h => h) (.inr ⟨by rfl, rfl⟩) hS1 ?_
                simp only [Act.put, List.setIfInBounds_toArray, List.set_cons_zero, List.set_cons_succ, List.getElem_toArray, List.getElem_cons_succ, List.getElem_cons_zero]
                refine wpAnyH_take (i := 11) (v := .bool true) rfl (by kernel_rfl) (by kernel_rfl) (by kernel_rfl) (fun _ _ _ h => h) (.inl ⟨by rfl, fun _ _ => rfl⟩) hS1 ?_
                simp only [Act.put, List.setIfInBounds_toArray, List.set_cons_zero, List.set_cons_succ, List.getElem_toArray, List.getElem_cons_succ, List.getElem_cons_zero]
                refine wpAnyH_take (i := 12) (v := .bool true) rfl (by kernel_rfl) (by kernel_rfl) (by kernel_rfl) (fun _ _ _ h => h) (.inl ⟨by rfl, fun _ _ => rfl⟩) hS1 ?_
                simp only [Act.put, List.setIfInBounds_toArray, List.set_cons_zero, List.set_cons_succ, List.getElem_toArray, List.getElem_cons_succ, List.getElem_cons_zero]
                refine wpAnyH_done (by kernel_rfl) ?_ _
                have HKR := Lib.hid (HSE.out _ hS1)
                clear hS1 HSE HSI
                have HBu := Lib.hid (HKR.out.blk HBu.out id)
                have HBv := Lib.hid (HKR.out.blk HBv.out id)
                have HK := Lib.hid (HK.out.trans HKR.out)
                have HUu := Lib.hid (HUu.out.keep HKR.out fun _ _ => id)
                have HUv := Lib.hid (HUv.out.keep HKR.out fun _ _ => id)
                have HG := Lib.hid (HG.out.keep HKR.out)
                have HOa := Lib.hid (HKR.out.owns HOa.out fun _ _ => id)
                have HOb := Lib.hid (HKR.out.owns HOb.out fun _ _ => id)
                have HOs := Lib.hid (HKR.out.owns HOs.out fun _ _ => id)
                have HR1 := Lib.hid (HR1.out.keep HKR.out fun _ _ => id)
                have HR2 := Lib.hid (HR2.out.keep HKR.out fun _ _ => id)
                have HR3 := Lib.hid (HR3.out.keep HKR.out fun _ _ => id)
                have HR4 := Lib.hid (HR4.out.keep HKR.out fun _ _ => id)
                have HB15 := Lib.hid (HKR.out.blk HB15.out id)
                go_wp2_with fail
                clear HKR
                obtain ⟨S, hS0⟩ : ∃ S : World → Prop, S = fun w' => Keep noBlk we w' := ⟨_, rfl⟩
                have HSE := Lib.hid (show ∀ w', S w' → Keep noBlk we w' from fun w' h => by rw [hS0] at h; exact h)
                have HSI := Lib.hid (show ∀ w', Keep noBlk we w' → S w' from fun w' h => by rw [hS0]; exact h)
                have hS : S we.drew := by rw [hS0]; exact (Keep.refl _ _).drew
                clear hS0
                refine wp_region_held (S := S) (by kernel_rfl) ?_
                change wpAnyH _ _ _ _ _ _ _ _ we.drew
                generalize we.drew = wf at hS ⊢
                refine wpAnyH_take (i := 0) (v := .bool true) rfl (by kernel_rfl) (by kernel_rfl) (by kernel_rfl) (fun _ _ _ h => h) (.inl ⟨by rfl, fun _ _ => rfl⟩) hS ?_
                simp only [Act.put, List.setIfInBounds_toArray, List.set_cons_zero, List.set_cons_succ, List.getElem_toArray, List.getElem_cons_succ, List.getElem_cons_zero]
                refine wpAnyH_take (i := 1) (v := .bool false) rfl (by kernel_rfl) (by kernel_rfl) (by kernel_rfl) (fun _ _ _ h => h) (.inl ⟨by rfl, fun _ _ => by go_simp⟩) hS ?_
                simp only [Act.put, List.setIfInBounds_toArray, List.set_cons_zero, List.set_cons_succ, List.getElem_toArray, List.getElem_cons_succ, List.getElem_cons_zero]
                refine wpAnyH_take (i := 2) (v := .bool false) rfl (by kernel_rfl) (by kernel_rfl) (by kernel_rfl) (fun _ _ _ h => h) (.inl ⟨by rfl, fun _ _ => rfl⟩) hS ?_
                simp only [Act.put, List.setIfInBounds_toArray, List.set_cons_zero, List.set_cons_succ, List.getElem_toArray, List.getElem_cons_succ, List.getElem_cons_zero]
                refine wpAnyH_take (i := 3) (v := undef) rfl (by kernel_rfl) (by kernel_rfl) (by kernel_rfl) (fun _ _ _ h => h) (.inr ⟨by rfl, rfl⟩) hS ?_
                simp only [Act.put, List.setIfInBounds_toArray, List.set_cons_zero, List.set_cons_succ, List.getElem_toArray, List.getElem_cons_succ, List.getElem_cons_zero]
                refine wpAnyH_take (i := 4) (v := undef) rfl (by kernel_rfl) (by kernel_rfl) (by kernel_rfl) (fun _ _ _ h => h) (.inr ⟨by rfl, rfl⟩) hS ?_
                simp only [Act.put, List.setIfInBounds_toArray, List.set_cons_zero, List.set_cons_succ, List.getElem_toArray, List.getElem_cons_succ, List.getElem_cons_zero]
                refine wpAnyH_take (i := 5) (v := undef) rfl (by kernel_rfl) (by kernel_rfl) (by kernel_rfl) (fun _ _ _ h => h) (.inr ⟨by rfl, rfl⟩) hS ?_
                simp only [Act.put, List.setIfInBounds_toArray, List.set_cons_zero, List.set_cons_succ, List.getElem_toArray, List.getElem_cons_succ, List.getElem_cons_zero]
                refine wpAnyH_take (i := 6) (v := undef) rfl (by kernel_rfl) (by kernel_rfl) (by kernel_rfl) (fun _ _ _ h => h) (.inr ⟨by rfl, rfl⟩) hS ?_
                simp only [Act.put, List.setIfInBounds_toArray, List.set_cons_zero, List.set_cons_succ, List.getElem_toArray, List.getElem_cons_succ, List.getElem_cons_zero]
                refine wpAnyH_take (i := 7) (v := undef) rfl (by kernel_rfl) (by kernel_rfl) (by kernel_rfl) (fun _ _ _ h => h) (.inr ⟨by rfl, rfl⟩) hS ?_
                simp only [Act.put, List.setIfInBounds_toArray, List.set_cons_zero, List.set_cons_succ, List.getElem_toArray, List.getElem_cons_succ, List.getElem_cons_zero]
                refine wpAnyH_take (i := 8) (v := undef) rfl (by kernel_rfl) (by kernel_rfl) (by kernel_rfl) (fun _ _ _ h => h) (.inr ⟨by rfl, rfl⟩) hS ?_
                simp only [Act.put, List.setIfInBounds_toArray, List.set_cons_zero, List.set_cons_succ, List.getElem_toArray, List.getElem_cons_succ, List.getElem_cons_zero]
                refine wpAnyH_take (i := 9) (v := .bool false) rfl (by kernel_rfl) (by kernel_rfl) (by kernel_rfl) (fun _ _ _ h => h) (.inl ⟨by rfl, fun _ _ => rfl⟩) hS ?_
                simp only [Act.put, List.setIfInBounds_toArray, List.set_cons_zero, List.set_cons_succ, List.getElem_toArray, List.getElem_cons_succ, List.getElem_cons_zero]
                refine wpAnyH_done (by kernel_rfl) ?_ _
                have HKR := Lib.hid (HSE.out _ hS)
                clear hS HSE HSI
                have HBu := Lib.hid (HKR.out.blk HBu.out id)
                have HBv := Lib.hid (HKR.out.blk HBv.out id)
                have HK := Lib.hid (HK.out.trans HKR.out)
                have HUu := Lib.hid (HUu.out.keep HKR.out fun _ _ => id)
                have HUv := Lib.hid (HUv.out.keep HKR.out fun _ _ => id)
                have HG := Lib.hid (HG.out.keep HKR.out)
                have HOa := Lib.hid (HKR.out.owns HOa.out fun _ _ => id)
                have HOb := Lib.hid (HKR.out.owns HOb.out fun _ _ => id)
                have HOs := Lib.hid (HKR.out.owns HOs.out fun _ _ => id)
                have HR1 := Lib.hid (HR1.out.keep HKR.out fun _ _ => id)
                have HR2 := Lib.hid (HR2.out.keep HKR.out fun _ _ => id)
                have HR3 := Lib.hid (HR3.out.keep HKR.out fun _ _ => id)
                have HR4 := Lib.hid (HR4.out.keep HKR.out fun _ _ => id)
                have HB15 := Lib.hid (HKR.out.blk HB15.out id)
                go_wp2_with fail
                clear HKR
                have et : unpackU s = (zUb, 11) := torn_plain HUu.out.pool HUu.out.root.sum HMU.out HBL.out htl (by rw [HAL.out]; exact HSS.out.symm) (by rw [HAL.out]; exact HEA.out) HEB.out (fun h => absurd (show s.take 224 = (packU U).take 224 by rw [HS2.out, HAL.out, HA2.out]; exact HE1.out) h)
                have ET := Lib.hid et
                clear et
                go_wp2_with fail
                refine ((uunpack_any wf aF aR HG.out _ s (by rw [HSL.out]; exact Rd.of_owns HOs.out) (by rw [HSL.out]; omega)).mono fun e w' h => UUnpackPost.V h).mono ?_
                rintro e wg ⟨vm, rfl, hu_, ho_, hk⟩
                rw [ET.out] at hu_ ⊢
                clear ho_
                have HBu := Lib.hid (hk.blk HBu.out id)
                have HBv := Lib.hid (hk.blk HBv.out id)
                have HK := Lib.hid (HK.out.trans hk)
                have HUu := Lib.hid (HUu.out.keep hk fun _ _ => id)
                have HUv := Lib.hid (HUv.out.keep hk fun _ _ => id)
                have HG := Lib.hid (HG.out.keep hk)
                have HOa := Lib.hid (hk.owns HOa.out fun _ _ => id)
                have HOb := Lib.hid (hk.owns HOb.out fun _ _ => id)
                have HOs := Lib.hid (hk.owns HOs.out fun _ _ => id)
                have HR1 := Lib.hid (HR1.out.keep hk fun _ _ => id)
                have HR2 := Lib.hid (HR2.out.keep hk fun _ _ => id)
                have HR3 := Lib.hid (HR3.out.keep hk fun _ _ => id)
                have HR4 := Lib.hid (HR4.out.keep hk fun _ _ => id)
                have HB15 := Lib.hid (hk.blk HB15.out id)
                clear hk
                have hu2 : UbV wg vm zUb := hu_
                clear hu_
                obtain ⟨am, cm, hv_, -, -⟩ := hu2.root.rd.form
                have hv2_ : vm = .slice am (zUb).root.addrs.length cm := hv_
                clear hv_
                subst hv2_
                have hlm := ubCs_len (v := .slice am (zUb).root.addrs.length cm) hu2.root.sum hu2.pool
                have HCm := Lib.hid (oneCell_ub (oa := am) (n := (zUb).root.addrs.length) (ca := cm) (zUb))
                have HUm := Lib.hid hu2
                obtain ⟨lcm, hlcm⟩ : ∃ x, ubCs (.slice am (zUb).root.addrs.length cm) (zUb) = x := ⟨_, rfl⟩
                rw [hlcm] at hlm HCm
                try rw [hlcm]
                have HLCm := Lib.hid hlcm
                clear hlcm
                clear hu2
                try rw [show (zUb, (11 : Int)).1 = zUb from rfl]
                try rw [HLCm.out]
                go_wp2_with (first
                  | ((with_reducible show wpList _ _ _ (⟨_, .alloc 28, _, _, _, _⟩ :: _) _ _); refine wpList_alloc_at rfl 28 rfl _ HZV.out zc.toArray rfl ?_)
                  | ((with_reducible show wpList _ _ _ (⟨none, .store 28 (.tmp 17) (.tmp 109), _, _, _, _⟩ :: _) _ _)
                     refine wpList_store_agg rfl 28 (.tmp 17) (.tmp 109) rfl wg.heap.size 0 lcm rfl rfl zc.toArray _ (heap_alloc_new _ _) (by rw [hlm, List.size_toArray, hzl]; exact Nat.le_refl _) (sizeUbL hlm) HCm.out ?_
                     intro wh hb5 hk5
                     rw [spl_whole _ _ (by rw [hlm, List.size_toArray, hzl])] at hb5
                     have hkb : Keep noBlk wg wh := ((Keep.refl noBlk wg).alloc _).trans' hk5 (fun _ _ h => h.elim) (fun i hi e => by omega)
                     clear hk5
                     obtain ⟨bm, hb_⟩ : ∃ b, wg.heap.size = b := ⟨_, rfl⟩
                     rw [hb_] at hb5 ⊢
                     have HBSm := Lib.hid hb_; clear hb_
                     have HBm := Lib.hid hb5; clear hb5)
                  | ((with_reducible show wpList _ _ _ (⟨_, .load 28 (.tmp 17), _, _, _, _⟩ :: _) _ _); refine wpList_load_g (by rfl) 28 (.tmp 17) rfl bm 0 rfl lcm _ (rangeAt_whole HBm.out) ubUnder rfl (sizeUbL hlm) ?_))
                have HBu := Lib.hid (hkb.blk HBu.out id)
                have HBv := Lib.hid (hkb.blk HBv.out id)
                have HK := Lib.hid (HK.out.trans hkb)
                have HUu := Lib.hid (HUu.out.keep hkb fun _ _ => id)
                have HUv := Lib.hid (HUv.out.keep hkb fun _ _ => id)
                have HG := Lib.hid (HG.out.keep hkb)
                have HOa := Lib.hid (hkb.owns HOa.out fun _ _ => id)
                have HOb := Lib.hid (hkb.owns HOb.out fun _ _ => id)
                have HOs := Lib.hid (hkb.owns HOs.out fun _ _ => id)
                have HR1 := Lib.hid (HR1.out.keep hkb fun _ _ => id)
                have HR2 := Lib.hid (HR2.out.keep hkb fun _ _ => id)
                have HR3 := Lib.hid (HR3.out.keep hkb fun _ _ => id)
                have HR4 := Lib.hid (HR4.out.keep hkb fun _ _ => id)
                have HB15 := Lib.hid (hkb.blk HB15.out id)
                have HUm := Lib.hid (HUm.out.keep hkb fun _ _ => id)
                clear hkb
                have CC : Calls Tryd.prog 12 #[.agg lcm.toArray, .agg Tryd.zeroCells28] wh (TherePost wh true) := by
                  have h := kitU_any wh _ _ zUb zUb HUm.out (ubV_flat wh 0 0)
                  rw [eqB_refl] at h
                  rw [← HLCm.out, zeroUbCells]
                  exact h
                refine CC.mono ?_
                clear CC
                rintro e wi ⟨rfl, hk⟩
                have HBu := Lib.hid (hk.blk HBu.out id)
                have HBv := Lib.hid (hk.blk HBv.out id)
                have HK := Lib.hid (HK.out.trans hk)
                have HUu := Lib.hid (HUu.out.keep hk fun _ _ => id)
                have HUv := Lib.hid (HUv.out.keep hk fun _ _ => id)
                have HG := Lib.hid (HG.out.keep hk)
                have HOa := Lib.hid (hk.owns HOa.out fun _ _ => id)
                have HOb := Lib.hid (hk.owns HOb.out fun _ _ => id)
                have HOs := Lib.hid (hk.owns HOs.out fun _ _ => id)
                have HR1 := Lib.hid (HR1.out.keep hk fun _ _ => id)
                have HR2 := Lib.hid (HR2.out.keep hk fun _ _ => id)
                have HR3 := Lib.hid (HR3.out.keep hk fun _ _ => id)
                have HR4 := Lib.hid (HR4.out.keep hk fun _ _ => id)
                have HB15 := Lib.hid (hk.blk HB15.out id)
                have HUm := Lib.hid (HUm.out.keep hk fun _ _ => id)
                have HBm := Lib.hid (hk.blk HBm.out id)
                clear hk
                go_wp2_with fail
                go_ret
                exact ⟨rfl, HK.out⟩
              · by_cases e2 : s2 = b2
                · have C1 := Lib.hid (show ∀ wx, Keep noBlk wc wx → Calls Tryd.prog 13 #[.slice (some ⟨gs, 0, none⟩) 224 c2, .slice (some ⟨ga, 0, none⟩) 224 ca] wx (TherePost wx false) from fun wx k =>
                    (same_any wx _ _ s2 a2 (HR1.out.keep k fun _ _ => id) (HR2.out.keep k fun _ _ => id) false (decide_eq_false e1)).mono fun e w' ⟨h1, h2⟩ => ⟨h1, by rw [← h2]; exact Keep.refl _ _⟩)
                  have C2 := Lib.hid (show ∀ wx, Keep noBlk wc wx → Calls Tryd.prog 13 #[.slice (some ⟨gs, 0, none⟩) 224 c2, .slice (some ⟨gb, 0, none⟩) 224 cb] wx (TherePost wx true) from fun wx k =>
                    (same_any wx _ _ s2 b2 (HR1.out.keep k fun _ _ => id) (HR3.out.keep k fun _ _ => id) true (decide_eq_true e2)).mono fun e w' ⟨h1, h2⟩ => ⟨h1, by rw [← h2]; exact Keep.refl _ _⟩)
                  have HE1 := Lib.hid e1
                  clear e1
                  have HE2 := Lib.hid e2
                  clear e2
                  obtain ⟨S, hS0⟩ : ∃ S : World → Prop, S = fun w' => Keep noBlk wc w' := ⟨_, rfl⟩
                  have HSE := Lib.hid (show ∀ w', S w' → Keep noBlk wc w' from fun w' h => by rw [hS0] at h; exact h)
                  have HSI := Lib.hid (show ∀ w', Keep noBlk wc w' → S w' from fun w' h => by rw [hS0]; exact h)
                  have hS : S wc.drew := by rw [hS0]; exact (Keep.refl _ _).drew
                  clear hS0
                  refine wp_region_held (S := S) (by kernel_rfl) ?_
                  change wpAnyH _ _ _ _ _ _ _ _ wc.drew
                  generalize wc.drew = wd at hS ⊢
                  refine wpAnyH_take (i := 0) (v := .slice (some ⟨gs, 0, none⟩) 256 c2) rfl (by kernel_rfl) (by kernel_rfl) (by kernel_rfl) (fun _ _ _ h => h) (.inl ⟨by rfl, fun _ _ => rfl⟩) hS ?_
                  simp only [Act.put, List.setIfInBounds_toArray, List.set_cons_zero, List.set_cons_succ, List.getElem_toArray, List.getElem_cons_succ, List.getElem_cons_zero]
                  refine wpAnyH_take (i := 1) (v := .slice (some ⟨gs, 0, none⟩) 224 c2) rfl (by kernel_rfl) (by kernel_rfl) (by kernel_rfl) (fun _ _ _ h => h) (yieldsIf_slice (by rfl) 36 (.tmp 83) none (some (.const (.int .i64 224))) none rfl (.slice (some ⟨gs, 0, none⟩) 256 c2) none (some (.int .i64 224)) none rfl rfl rfl rfl HT1.out) hS ?_
                  simp only [Act.put, List.setIfInBounds_toArray, List.set_cons_zero, List.set_cons_succ, List.getElem_toArray, List.getElem_cons_succ, List.getElem_cons_zero]
                  refine wpAnyH_take (i := 2) (v := .slice (some ⟨ga, 0, none⟩) 256 ca) rfl (by kernel_rfl) (by kernel_rfl) (by kernel_rfl) (fun _ _ _ h => h) (.inl ⟨by rfl, fun _ _ => rfl⟩) hS ?_
                  simp only [Act.put, List.setIfInBounds_toArray, List.set_cons_zero, List.set_cons_succ, List.getElem_toArray, List.getElem_cons_succ, List.getElem_cons_zero]
                  refine wpAnyH_take (i := 3) (v := .slice (some ⟨ga, 0, none⟩) 224 ca) rfl (by kernel_rfl) (by kernel_rfl) (by kernel_rfl) (fun _ _ _ h => h) (yieldsIf_slice (by rfl) 36 (.tmp 85) none (some (.const (.int .i64 224))) none rfl (.slice (some ⟨ga, 0, none⟩) 256 ca) none (some (.int .i64 224)) none rfl rfl rfl rfl HT2.out) hS ?_
                  simp only [Act.put, List.setIfInBounds_toArray, List.set_cons_zero, List.set_cons_succ, List.getElem_toArray, List.getElem_cons_succ, List.getElem_cons_zero]
                  refine wpAnyH_one (k := 4) rfl (by kernel_rfl) ?_
                  go_wp2_with fail
                  refine (C1.out wd (HSE.out _ hS)).mono ?_
                  rintro e we ⟨rfl, hk⟩
                  have hS1 := HSI.out _ ((HSE.out _ hS).trans hk)
                  clear hS hk
                  go_wp2_with fail
                  refine ⟨hS1, ?_⟩
                  refine wpAnyH_take (i := 5) (v := .bool false) rfl (by kernel_rfl) (by kernel_rfl) (by kernel_rfl) (fun _ _ _ h => h) (.inl ⟨by rfl, fun _ _ => rfl⟩) hS1 ?_
                  simp only [Act.put, List.setIfInBounds_toArray, List.set_cons_zero, List.set_cons_succ, List.getElem_toArray, List.getElem_cons_succ, List.getElem_cons_zero]
                  refine wpAnyH_take (i := 6) (v := .slice (some ⟨gs, 0, none⟩) 256 c2) rfl (by kernel_rfl) (by kernel_rfl) (by kernel_rfl) (fun _ _ _ h => h) (.inl ⟨by rfl, fun _ _ => rfl⟩) hS1 ?_
                  simp only [Act.put, List.setIfInBounds_toArray, List.set_cons_zero, List.set_cons_succ, List.getElem_toArray, List.getElem_cons_succ, List.getElem_cons_zero]
                  refine wpAnyH_take (i := 7) (v := .slice (some ⟨gs, 0, none⟩) 224 c2) rfl (by kernel_rfl) (by kernel_rfl) (by kernel_rfl) (fun _ _ _ h => h) (yieldsIf_slice (by rfl) 36 (.tmp 89) none (some (.const (.int .i64 224))) none rfl (.slice (some ⟨gs, 0, none⟩) 256 c2) none (some (.int .i64 224)) none rfl rfl rfl rfl HT1.out) hS1 ?_
                  simp only [Act.put, List.setIfInBounds_toArray, List.set_cons_zero, List.set_cons_succ, List.getElem_toArray, List.getElem_cons_succ, List.getElem_cons_zero]
                  refine wpAnyH_take (i := 8) (v := .slice (some ⟨gb, 0, none⟩) 256 cb) rfl (by kernel_rfl) (by kernel_rfl) (by kernel_rfl) (fun _ _ _ h => h) (.inl ⟨by rfl, fun _ _ => rfl⟩) hS1 ?_
                  simp only [Act.put, List.setIfInBounds_toArray, List.set_cons_zero, List.set_cons_succ, List.getElem_toArray, List.getElem_cons_succ, List.getElem_cons_zero]
                  refine wpAnyH_take (i := 9) (v := .slice (some ⟨gb, 0, none⟩) 224 cb) rfl (by kernel_rfl) (by kernel_rfl) (by kernel_rfl) (fun _ _ _ h => h) (yieldsIf_slice (by rfl) 36 (.tmp 91) none (some (.const (.int .i64 224))) none rfl (.slice (some ⟨gb, 0, none⟩) 256 cb) none (some (.int .i64 224)) none rfl rfl rfl rfl HT3.out) hS1 ?_
                  simp only [Act.put, List.setIfInBounds_toArray, List.set_cons_zero, List.set_cons_succ, List.getElem_toArray, List.getElem_cons_succ, List.getElem_cons_zero]
                  refine wpAnyH_one (k := 10) rfl (by kernel_rfl) ?_
                  go_wp2_with fail
                  refine (C2.out we (HSE.out _ hS1)).mono ?_
                  rintro e wf ⟨rfl, hk⟩
                  have hS2 := HSI.out _ ((HSE.out _ hS1).trans hk)
                  clear hS1 hk
                  go_wp2_with fail
                  refine ⟨hS2, ?_⟩
                  refine wpAnyH_take (i := 11) (v := .bool true) rfl (by kernel_rfl) (by kernel_rfl) (by kernel_rfl) (fun _ _ _ h => h) (.inl ⟨by rfl, fun _ _ => rfl⟩) hS2 ?_
                  simp only [Act.put, List.setIfInBounds_toArray, List.set_cons_zero, List.set_cons_succ, List.getElem_toArray, List.getElem_cons_succ, List.getElem_cons_zero]
                  refine wpAnyH_take (i := 12) (v := .bool true) rfl (by kernel_rfl) (by kernel_rfl) (by kernel_rfl) (fun _ _ _ h => h) (.inl ⟨by rfl, fun _ _ => rfl⟩) hS2 ?_
                  simp only [Act.put, List.setIfInBounds_toArray, List.set_cons_zero, List.set_cons_succ, List.getElem_toArray, List.getElem_cons_succ, List.getElem_cons_zero]
                  refine wpAnyH_done (by kernel_rfl) ?_ _
                  have HKR := Lib.hid (HSE.out _ hS2)
                  clear hS2 HSE HSI
                  have HBu := Lib.hid (HKR.out.blk HBu.out id)
                  have HBv := Lib.hid (HKR.out.blk HBv.out id)
                  have HK := Lib.hid (HK.out.trans HKR.out)
                  have HUu := Lib.hid (HUu.out.keep HKR.out fun _ _ => id)
                  have HUv := Lib.hid (HUv.out.keep HKR.out fun _ _ => id)
                  have HG := Lib.hid (HG.out.keep HKR.out)
                  have HOa := Lib.hid (HKR.out.owns HOa.out fun _ _ => id)
                  have HOb := Lib.hid (HKR.out.owns HOb.out fun _ _ => id)
                  have HOs := Lib.hid (HKR.out.owns HOs.out fun _ _ => id)
                  have HR1 := Lib.hid (HR1.out.keep HKR.out fun _ _ => id)
                  have HR2 := Lib.hid (HR2.out.keep HKR.out fun _ _ => id)
                  have HR3 := Lib.hid (HR3.out.keep HKR.out fun _ _ => id)
                  have HR4 := Lib.hid (HR4.out.keep HKR.out fun _ _ => id)
                  have HB15 := Lib.hid (HKR.out.blk HB15.out id)
                  go_wp2_with fail
                  clear HKR
                  obtain ⟨S, hS0⟩ : ∃ S : World → Prop, S = fun w' => Keep noBlk wf w' := ⟨_, rfl⟩
                  have HSE := Lib.hid (show ∀ w', S w' → Keep noBlk wf w' from fun w' h => by rw [hS0] at h; exact h)
                  have HSI := Lib.hid (show ∀ w', Keep noBlk wf w' → S w' from fun w' h => by rw [hS0]; exact h)
                  have hS : S wf.drew := by rw [hS0]; exact (Keep.refl _ _).drew
                  clear hS0
                  refine wp_region_held (S := S) (by kernel_rfl) ?_
                  change wpAnyH _ _ _ _ _ _ _ _ wf.drew
                  generalize wf.drew = wg at hS ⊢
                  refine wpAnyH_take (i := 0) (v := .bool true) rfl (by kernel_rfl) (by kernel_rfl) (by kernel_rfl) (fun _ _ _ h => h) (.inl ⟨by rfl, fun _ _ => rfl⟩) hS ?_
                  simp only [Act.put, List.setIfInBounds_toArray, List.set_cons_zero, List.set_cons_succ, List.getElem_toArray, List.getElem_cons_succ, List.getElem_cons_zero]
                  refine wpAnyH_take (i := 1) (v := .bool false) rfl (by kernel_rfl) (by kernel_rfl) (by kernel_rfl) (fun _ _ _ h => h) (.inl ⟨by rfl, fun _ _ => by go_simp⟩) hS ?_
                  simp only [Act.put, List.setIfInBounds_toArray, List.set_cons_zero, List.set_cons_succ, List.getElem_toArray, List.getElem_cons_succ, List.getElem_cons_zero]
                  refine wpAnyH_take (i := 2) (v := .bool false) rfl (by kernel_rfl) (by kernel_rfl) (by kernel_rfl) (fun _ _ _ h => h) (.inl ⟨by rfl, fun _ _ => rfl⟩) hS ?_
                  simp only [Act.put, List.setIfInBounds_toArray, List.set_cons_zero, List.set_cons_succ, List.getElem_toArray, List.getElem_cons_succ, List.getElem_cons_zero]
                  refine wpAnyH_take (i := 3) (v := undef) rfl (by kernel_rfl) (by kernel_rfl) (by kernel_rfl) (fun _ _ _ h => h) (.inr ⟨by rfl, rfl⟩) hS ?_
                  simp only [Act.put, List.setIfInBounds_toArray, List.set_cons_zero, List.set_cons_succ, List.getElem_toArray, List.getElem_cons_succ, List.getElem_cons_zero]
                  refine wpAnyH_take (i := 4) (v := undef) rfl (by kernel_rfl) (by kernel_rfl) (by kernel_rfl) (fun _ _ _ h => h) (.inr ⟨by rfl, rfl⟩) hS ?_
                  simp only [Act.put, List.setIfInBounds_toArray, List.set_cons_zero, List.set_cons_succ, List.getElem_toArray, List.getElem_cons_succ, List.getElem_cons_zero]
                  refine wpAnyH_take (i := 5) (v := undef) rfl (by kernel_rfl) (by kernel_rfl) (by kernel_rfl) (fun _ _ _ h => h) (.inr ⟨by rfl, rfl⟩) hS ?_
                  simp only [Act.put, List.setIfInBounds_toArray, List.set_cons_zero, List.set_cons_succ, List.getElem_toArray, List.getElem_cons_succ, List.getElem_cons_zero]
                  refine wpAnyH_take (i := 6) (v := undef) rfl (by kernel_rfl) (by kernel_rfl) (by kernel_rfl) (fun _ _ _ h => h) (.inr ⟨by rfl, rfl⟩) hS ?_
                  simp only [Act.put, List.setIfInBounds_toArray, List.set_cons_zero, List.set_cons_succ, List.getElem_toArray, List.getElem_cons_succ, List.getElem_cons_zero]
                  refine wpAnyH_take (i := 7) (v := undef) rfl (by kernel_rfl) (by kernel_rfl) (by kernel_rfl) (fun _ _ _ h => h) (.inr ⟨by rfl, rfl⟩) hS ?_
                  simp only [Act.put, List.setIfInBounds_toArray, List.set_cons_zero, List.set_cons_succ, List.getElem_toArray, List.getElem_cons_succ, List.getElem_cons_zero]
                  refine wpAnyH_take (i := 8) (v := undef) rfl (by kernel_rfl) (by kernel_rfl) (by kernel_rfl) (fun _ _ _ h => h) (.inr ⟨by rfl, rfl⟩) hS ?_
                  simp only [Act.put, List.setIfInBounds_toArray, List.set_cons_zero, List.set_cons_succ, List.getElem_toArray, List.getElem_cons_succ, List.getElem_cons_zero]
                  refine wpAnyH_take (i := 9) (v := .bool false) rfl (by kernel_rfl) (by kernel_rfl) (by kernel_rfl) (fun _ _ _ h => h) (.inl ⟨by rfl, fun _ _ => rfl⟩) hS ?_
                  simp only [Act.put, List.setIfInBounds_toArray, List.set_cons_zero, List.set_cons_succ, List.getElem_toArray, List.getElem_cons_succ, List.getElem_cons_zero]
                  refine wpAnyH_done (by kernel_rfl) ?_ _
                  have HKR := Lib.hid (HSE.out _ hS)
                  clear hS HSE HSI
                  have HBu := Lib.hid (HKR.out.blk HBu.out id)
                  have HBv := Lib.hid (HKR.out.blk HBv.out id)
                  have HK := Lib.hid (HK.out.trans HKR.out)
                  have HUu := Lib.hid (HUu.out.keep HKR.out fun _ _ => id)
                  have HUv := Lib.hid (HUv.out.keep HKR.out fun _ _ => id)
                  have HG := Lib.hid (HG.out.keep HKR.out)
                  have HOa := Lib.hid (HKR.out.owns HOa.out fun _ _ => id)
                  have HOb := Lib.hid (HKR.out.owns HOb.out fun _ _ => id)
                  have HOs := Lib.hid (HKR.out.owns HOs.out fun _ _ => id)
                  have HR1 := Lib.hid (HR1.out.keep HKR.out fun _ _ => id)
                  have HR2 := Lib.hid (HR2.out.keep HKR.out fun _ _ => id)
                  have HR3 := Lib.hid (HR3.out.keep HKR.out fun _ _ => id)
                  have HR4 := Lib.hid (HR4.out.keep HKR.out fun _ _ => id)
                  have HB15 := Lib.hid (HKR.out.blk HB15.out id)
                  go_wp2_with fail
                  clear HKR
                  have et : unpackU s = (zUb, 11) := torn_plain HUu.out.pool HUu.out.root.sum HMU.out HBL.out htl (by rw [HAL.out]; exact HSS.out.symm) (by rw [HAL.out]; exact HEA.out) HEB.out (fun _ h => absurd (show s.take 224 = bl.take 224 by rw [HS2.out, HB2.out]; exact HE2.out) h)
                  have ET := Lib.hid et
                  clear et
                  go_wp2_with fail
                  refine ((uunpack_any wg aF aR HG.out _ s (by rw [HSL.out]; exact Rd.of_owns HOs.out) (by rw [HSL.out]; omega)).mono fun e w' h => UUnpackPost.V h).mono ?_
                  rintro e wh ⟨vm, rfl, hu_, ho_, hk⟩
                  rw [ET.out] at hu_ ⊢
                  clear ho_
                  have HBu := Lib.hid (hk.blk HBu.out id)
                  have HBv := Lib.hid (hk.blk HBv.out id)
                  have HK := Lib.hid (HK.out.trans hk)
                  have HUu := Lib.hid (HUu.out.keep hk fun _ _ => id)
                  have HUv := Lib.hid (HUv.out.keep hk fun _ _ => id)
                  have HG := Lib.hid (HG.out.keep hk)
                  have HOa := Lib.hid (hk.owns HOa.out fun _ _ => id)
                  have HOb := Lib.hid (hk.owns HOb.out fun _ _ => id)
                  have HOs := Lib.hid (hk.owns HOs.out fun _ _ => id)
                  have HR1 := Lib.hid (HR1.out.keep hk fun _ _ => id)
                  have HR2 := Lib.hid (HR2.out.keep hk fun _ _ => id)
                  have HR3 := Lib.hid (HR3.out.keep hk fun _ _ => id)
                  have HR4 := Lib.hid (HR4.out.keep hk fun _ _ => id)
                  have HB15 := Lib.hid (hk.blk HB15.out id)
                  clear hk
                  have hu2 : UbV wh vm zUb := hu_
                  clear hu_
                  obtain ⟨am, cm, hv_, -, -⟩ := hu2.root.rd.form
                  have hv2_ : vm = .slice am (zUb).root.addrs.length cm := hv_
                  clear hv_
                  subst hv2_
                  have hlm := ubCs_len (v := .slice am (zUb).root.addrs.length cm) hu2.root.sum hu2.pool
                  have HCm := Lib.hid (oneCell_ub (oa := am) (n := (zUb).root.addrs.length) (ca := cm) (zUb))
                  have HUm := Lib.hid hu2
                  obtain ⟨lcm, hlcm⟩ : ∃ x, ubCs (.slice am (zUb).root.addrs.length cm) (zUb) = x := ⟨_, rfl⟩
                  rw [hlcm] at hlm HCm
                  try rw [hlcm]
                  have HLCm := Lib.hid hlcm
                  clear hlcm
                  clear hu2
                  try rw [show (zUb, (11 : Int)).1 = zUb from rfl]
                  try rw [HLCm.out]
                  go_wp2_with (first
                    | ((with_reducible show wpList _ _ _ (⟨_, .alloc 28, _, _, _, _⟩ :: _) _ _); refine wpList_alloc_at rfl 28 rfl _ HZV.out zc.toArray rfl ?_)
                    | ((with_reducible show wpList _ _ _ (⟨none, .store 28 (.tmp 17) (.tmp 109), _, _, _, _⟩ :: _) _ _)
                       refine wpList_store_agg rfl 28 (.tmp 17) (.tmp 109) rfl wh.heap.size 0 lcm rfl rfl zc.toArray _ (heap_alloc_new _ _) (by rw [hlm, List.size_toArray, hzl]; exact Nat.le_refl _) (sizeUbL hlm) HCm.out ?_
                       intro wi hb5 hk5
                       rw [spl_whole _ _ (by rw [hlm, List.size_toArray, hzl])] at hb5
                       have hkb : Keep noBlk wh wi := ((Keep.refl noBlk wh).alloc _).trans' hk5 (fun _ _ h => h.elim) (fun i hi e => by omega)
                       clear hk5
                       obtain ⟨bm, hb_⟩ : ∃ b, wh.heap.size = b := ⟨_, rfl⟩
                       rw [hb_] at hb5 ⊢
                       have HBSm := Lib.hid hb_; clear hb_
                       have HBm := Lib.hid hb5; clear hb5)
                    | ((with_reducible show wpList _ _ _ (⟨_, .load 28 (.tmp 17), _, _, _, _⟩ :: _) _ _); refine wpList_load_g (by rfl) 28 (.tmp 17) rfl bm 0 rfl lcm _ (rangeAt_whole HBm.out) ubUnder rfl (sizeUbL hlm) ?_))
                  have HBu := Lib.hid (hkb.blk HBu.out id)
                  have HBv := Lib.hid (hkb.blk HBv.out id)
                  have HK := Lib.hid (HK.out.trans hkb)
                  have HUu := Lib.hid (HUu.out.keep hkb fun _ _ => id)
                  have HUv := Lib.hid (HUv.out.keep hkb fun _ _ => id)
                  have HG := Lib.hid (HG.out.keep hkb)
                  have HOa := Lib.hid (hkb.owns HOa.out fun _ _ => id)
                  have HOb := Lib.hid (hkb.owns HOb.out fun _ _ => id)
                  have HOs := Lib.hid (hkb.owns HOs.out fun _ _ => id)
                  have HR1 := Lib.hid (HR1.out.keep hkb fun _ _ => id)
                  have HR2 := Lib.hid (HR2.out.keep hkb fun _ _ => id)
                  have HR3 := Lib.hid (HR3.out.keep hkb fun _ _ => id)
                  have HR4 := Lib.hid (HR4.out.keep hkb fun _ _ => id)
                  have HB15 := Lib.hid (hkb.blk HB15.out id)
                  have HUm := Lib.hid (HUm.out.keep hkb fun _ _ => id)
                  clear hkb
                  have CC : Calls Tryd.prog 12 #[.agg lcm.toArray, .agg Tryd.zeroCells28] wi (TherePost wi true) := by
                    have h := kitU_any wi _ _ zUb zUb HUm.out (ubV_flat wi 0 0)
                    rw [eqB_refl] at h
                    rw [← HLCm.out, zeroUbCells]
                    exact h
                  refine CC.mono ?_
                  clear CC
                  rintro e wj ⟨rfl, hk⟩
                  have HBu := Lib.hid (hk.blk HBu.out id)
                  have HBv := Lib.hid (hk.blk HBv.out id)
                  have HK := Lib.hid (HK.out.trans hk)
                  have HUu := Lib.hid (HUu.out.keep hk fun _ _ => id)
                  have HUv := Lib.hid (HUv.out.keep hk fun _ _ => id)
                  have HG := Lib.hid (HG.out.keep hk)
                  have HOa := Lib.hid (hk.owns HOa.out fun _ _ => id)
                  have HOb := Lib.hid (hk.owns HOb.out fun _ _ => id)
                  have HOs := Lib.hid (hk.owns HOs.out fun _ _ => id)
                  have HR1 := Lib.hid (HR1.out.keep hk fun _ _ => id)
                  have HR2 := Lib.hid (HR2.out.keep hk fun _ _ => id)
                  have HR3 := Lib.hid (HR3.out.keep hk fun _ _ => id)
                  have HR4 := Lib.hid (HR4.out.keep hk fun _ _ => id)
                  have HB15 := Lib.hid (hk.blk HB15.out id)
                  have HUm := Lib.hid (HUm.out.keep hk fun _ _ => id)
                  have HBm := Lib.hid (hk.blk HBm.out id)
                  clear hk
                  go_wp2_with fail
                  go_ret
                  exact ⟨rfl, HK.out⟩
                · have C1 := Lib.hid (show ∀ wx, Keep noBlk wc wx → Calls Tryd.prog 13 #[.slice (some ⟨gs, 0, none⟩) 224 c2, .slice (some ⟨ga, 0, none⟩) 224 ca] wx (TherePost wx false) from fun wx k =>
                    (same_any wx _ _ s2 a2 (HR1.out.keep k fun _ _ => id) (HR2.out.keep k fun _ _ => id) false (decide_eq_false e1)).mono fun e w' ⟨h1, h2⟩ => ⟨h1, by rw [← h2]; exact Keep.refl _ _⟩)
                  have C2 := Lib.hid (show ∀ wx, Keep noBlk wc wx → Calls Tryd.prog 13 #[.slice (some ⟨gs, 0, none⟩) 224 c2, .slice (some ⟨gb, 0, none⟩) 224 cb] wx (TherePost wx false) from fun wx k =>
                    (same_any wx _ _ s2 b2 (HR1.out.keep k fun _ _ => id) (HR3.out.keep k fun _ _ => id) false (decide_eq_false e2)).mono fun e w' ⟨h1, h2⟩ => ⟨h1, by rw [← h2]; exact Keep.refl _ _⟩)
                  have HE1 := Lib.hid e1
                  clear e1
                  have HE2 := Lib.hid e2
                  clear e2
                  obtain ⟨S, hS0⟩ : ∃ S : World → Prop, S = fun w' => Keep noBlk wc w' := ⟨_, rfl⟩
                  have HSE := Lib.hid (show ∀ w', S w' → Keep noBlk wc w' from fun w' h => by rw [hS0] at h; exact h)
                  have HSI := Lib.hid (show ∀ w', Keep noBlk wc w' → S w' from fun w' h => by rw [hS0]; exact h)
                  have hS : S wc.drew := by rw [hS0]; exact (Keep.refl _ _).drew
                  clear hS0
                  refine wp_region_held (S := S) (by kernel_rfl) ?_
                  change wpAnyH _ _ _ _ _ _ _ _ wc.drew
                  generalize wc.drew = wd at hS ⊢
                  refine wpAnyH_take (i := 0) (v := .slice (some ⟨gs, 0, none⟩) 256 c2) rfl (by kernel_rfl) (by kernel_rfl) (by kernel_rfl) (fun _ _ _ h => h) (.inl ⟨by rfl, fun _ _ => rfl⟩) hS ?_
                  simp only [Act.put, List.setIfInBounds_toArray, List.set_cons_zero, List.set_cons_succ, List.getElem_toArray, List.getElem_cons_succ, List.getElem_cons_zero]
                  refine wpAnyH_take (i := 1) (v := .slice (some ⟨gs, 0, none⟩) 224 c2) rfl (by kernel_rfl) (by kernel_rfl) (by kernel_rfl) (fun _ _ _ h => h) (yieldsIf_slice (by rfl) 36 (.tmp 83) none (some (.const (.int .i64 224))) none rfl (.slice (some ⟨gs, 0, none⟩) 256 c2) none (some (.int .i64 224)) none rfl rfl rfl rfl HT1.out) hS ?_
                  simp only [Act.put, List.setIfInBounds_toArray, List.set_cons_zero, List.set_cons_succ, List.getElem_toArray, List.getElem_cons_succ, List.getElem_cons_zero]
                  refine wpAnyH_take (i := 2) (v := .slice (some ⟨ga, 0, none⟩) 256 ca) rfl (by kernel_rfl) (by kernel_rfl) (by kernel_rfl) (fun _ _ _ h => h) (.inl ⟨by rfl, fun _ _ => rfl⟩) hS ?_
                  simp only [Act.put, List.setIfInBounds_toArray, List.set_cons_zero, List.set_cons_succ, List.getElem_toArray, List.getElem_cons_succ, List.getElem_cons_zero]
                  refine wpAnyH_take (i := 3) (v := .slice (some ⟨ga, 0, none⟩) 224 ca) rfl (by kernel_rfl) (by kernel_rfl) (by kernel_rfl) (fun _ _ _ h => h) (yieldsIf_slice (by rfl) 36 (.tmp 85) none (some (.const (.int .i64 224))) none rfl (.slice (some ⟨ga, 0, none⟩) 256 ca) none (some (.int .i64 224)) none rfl rfl rfl rfl HT2.out) hS ?_
                  simp only [Act.put, List.setIfInBounds_toArray, List.set_cons_zero, List.set_cons_succ, List.getElem_toArray, List.getElem_cons_succ, List.getElem_cons_zero]
                  refine wpAnyH_one (k := 4) rfl (by kernel_rfl) ?_
                  go_wp2_with fail
                  refine (C1.out wd (HSE.out _ hS)).mono ?_
                  rintro e we ⟨rfl, hk⟩
                  have hS1 := HSI.out _ ((HSE.out _ hS).trans hk)
                  clear hS hk
                  go_wp2_with fail
                  refine ⟨hS1, ?_⟩
                  refine wpAnyH_take (i := 5) (v := .bool false) rfl (by kernel_rfl) (by kernel_rfl) (by kernel_rfl) (fun _ _ _ h => h) (.inl ⟨by rfl, fun _ _ => rfl⟩) hS1 ?_
                  simp only [Act.put, List.setIfInBounds_toArray, List.set_cons_zero, List.set_cons_succ, List.getElem_toArray, List.getElem_cons_succ, List.getElem_cons_zero]
                  refine wpAnyH_take (i := 6) (v := .slice (some ⟨gs, 0, none⟩) 256 c2) rfl (by kernel_rfl) (by kernel_rfl) (by kernel_rfl) (fun _ _ _ h => h) (.inl ⟨by rfl, fun _ _ => rfl⟩) hS1 ?_
                  simp only [Act.put, List.setIfInBounds_toArray, List.set_cons_zero, List.set_cons_succ, List.getElem_toArray, List.getElem_cons_succ, List.getElem_cons_zero]
                  refine wpAnyH_take (i := 7) (v := .slice (some ⟨gs, 0, none⟩) 224 c2) rfl (by kernel_rfl) (by kernel_rfl) (by kernel_rfl) (fun _ _ _ h => h) (yieldsIf_slice (by rfl) 36 (.tmp 89) none (some (.const (.int .i64 224))) none rfl (.slice (some ⟨gs, 0, none⟩) 256 c2) none (some (.int .i64 224)) none rfl rfl rfl rfl HT1.out) hS1 ?_
                  simp only [Act.put, List.setIfInBounds_toArray, List.set_cons_zero, List.set_cons_succ, List.getElem_toArray, List.getElem_cons_succ, List.getElem_cons_zero]
                  refine wpAnyH_take (i := 8) (v := .slice (some ⟨gb, 0, none⟩) 256 cb) rfl (by kernel_rfl) (by kernel_rfl) (by kernel_rfl) (fun _ _ _ h => h) (.inl ⟨by rfl, fun _ _ => rfl⟩) hS1 ?_
                  simp only [Act.put, List.setIfInBounds_toArray, List.set_cons_zero, List.set_cons_succ, List.getElem_toArray, List.getElem_cons_succ, List.getElem_cons_zero]
                  refine wpAnyH_take (i := 9) (v := .slice (some ⟨gb, 0, none⟩) 224 cb) rfl (by kernel_rfl) (by kernel_rfl) (by kernel_rfl) (fun _ _ _ h => h) (yieldsIf_slice (by rfl) 36 (.tmp 91) none (some (.const (.int .i64 224))) none rfl (.slice (some ⟨gb, 0, none⟩) 256 cb) none (some (.int .i64 224)) none rfl rfl rfl rfl HT3.out) hS1 ?_
                  simp only [Act.put, List.setIfInBounds_toArray, List.set_cons_zero, List.set_cons_succ, List.getElem_toArray, List.getElem_cons_succ, List.getElem_cons_zero]
                  refine wpAnyH_one (k := 10) rfl (by kernel_rfl) ?_
                  go_wp2_with fail
                  refine (C2.out we (HSE.out _ hS1)).mono ?_
                  rintro e wf ⟨rfl, hk⟩
                  have hS2 := HSI.out _ ((HSE.out _ hS1).trans hk)
                  clear hS1 hk
                  go_wp2_with fail
                  refine ⟨hS2, ?_⟩
                  refine wpAnyH_take (i := 11) (v := .bool false) rfl (by kernel_rfl) (by kernel_rfl) (by kernel_rfl) (fun _ _ _ h => h) (.inl ⟨by rfl, fun _ _ => rfl⟩) hS2 ?_
                  simp only [Act.put, List.setIfInBounds_toArray, List.set_cons_zero, List.set_cons_succ, List.getElem_toArray, List.getElem_cons_succ, List.getElem_cons_zero]
                  refine wpAnyH_take (i := 12) (v := .bool false) rfl (by kernel_rfl) (by kernel_rfl) (by kernel_rfl) (fun _ _ _ h => h) (.inl ⟨by rfl, fun _ _ => rfl⟩) hS2 ?_
                  simp only [Act.put, List.setIfInBounds_toArray, List.set_cons_zero, List.set_cons_succ, List.getElem_toArray, List.getElem_cons_succ, List.getElem_cons_zero]
                  refine wpAnyH_done (by kernel_rfl) ?_ _
                  have HKR := Lib.hid (HSE.out _ hS2)
                  clear hS2 HSE HSI
                  have HBu := Lib.hid (HKR.out.blk HBu.out id)
                  have HBv := Lib.hid (HKR.out.blk HBv.out id)
                  have HK := Lib.hid (HK.out.trans HKR.out)
                  have HUu := Lib.hid (HUu.out.keep HKR.out fun _ _ => id)
                  have HUv := Lib.hid (HUv.out.keep HKR.out fun _ _ => id)
                  have HG := Lib.hid (HG.out.keep HKR.out)
                  have HOa := Lib.hid (HKR.out.owns HOa.out fun _ _ => id)
                  have HOb := Lib.hid (HKR.out.owns HOb.out fun _ _ => id)
                  have HOs := Lib.hid (HKR.out.owns HOs.out fun _ _ => id)
                  have HR1 := Lib.hid (HR1.out.keep HKR.out fun _ _ => id)
                  have HR2 := Lib.hid (HR2.out.keep HKR.out fun _ _ => id)
                  have HR3 := Lib.hid (HR3.out.keep HKR.out fun _ _ => id)
                  have HR4 := Lib.hid (HR4.out.keep HKR.out fun _ _ => id)
                  have HB15 := Lib.hid (HKR.out.blk HB15.out id)
                  go_wp2_with fail
                  clear HKR
                  by_cases ed : dg = d2
                  · have hrd : Rd wf 1 (.slice (some ⟨b15, 0, none⟩) 32 32) 32 dc := rd_blk (n := 32) (size := 1) HB15.out (by rw [hdcl]) (by unfold maxLen; omega)
                    have HRD := Lib.hid hrd
                    clear hrd
                    obtain ⟨S, hS0⟩ : ∃ S : World → Prop, S = fun w' => Keep noBlk wf w' := ⟨_, rfl⟩
                    have HSE := Lib.hid (show ∀ w', S w' → Keep noBlk wf w' from fun w' h => by rw [hS0] at h; exact h)
                    have HSI := Lib.hid (show ∀ w', Keep noBlk wf w' → S w' from fun w' h => by rw [hS0]; exact h)
                    have hS : S wf.drew := by rw [hS0]; exact (Keep.refl _ _).drew
                    clear hS0
                    refine wp_region_held (S := S) (by kernel_rfl) ?_
                    change wpAnyH _ _ _ _ _ _ _ _ wf.drew
                    generalize wf.drew = wg at hS ⊢
                    refine wpAnyH_take (i := 0) (v := .bool false) rfl (by kernel_rfl) (by kernel_rfl) (by kernel_rfl) (fun _ _ _ h => h) (.inl ⟨by rfl, fun _ _ => rfl⟩) hS ?_
                    simp only [Act.put, List.setIfInBounds_toArray, List.set_cons_zero, List.set_cons_succ, List.getElem_toArray, List.getElem_cons_succ, List.getElem_cons_zero]
                    refine wpAnyH_take (i := 1) (v := .bool true) rfl (by kernel_rfl) (by kernel_rfl) (by kernel_rfl) (fun _ _ _ h => h) (.inl ⟨by rfl, fun _ _ => by go_simp⟩) hS ?_
                    simp only [Act.put, List.setIfInBounds_toArray, List.set_cons_zero, List.set_cons_succ, List.getElem_toArray, List.getElem_cons_succ, List.getElem_cons_zero]
                    refine wpAnyH_take (i := 2) (v := .bool true) rfl (by kernel_rfl) (by kernel_rfl) (by kernel_rfl) (fun _ _ _ h => h) (.inl ⟨by rfl, fun _ _ => rfl⟩) hS ?_
                    simp only [Act.put, List.setIfInBounds_toArray, List.set_cons_zero, List.set_cons_succ, List.getElem_toArray, List.getElem_cons_succ, List.getElem_cons_zero]
                    refine wpAnyH_take (i := 4) (v := .slice (some ⟨b15, 0, none⟩) 32 32) rfl (by kernel_rfl) (by kernel_rfl) (by kernel_rfl) (fun _ _ _ h => h) (.inl ⟨by rfl, fun _ _ => by go_simp⟩) hS ?_
                    simp only [Act.put, List.setIfInBounds_toArray, List.set_cons_zero, List.set_cons_succ, List.getElem_toArray, List.getElem_cons_succ, List.getElem_cons_zero]
                    refine wpAnyH_take (i := 6) (v := .slice (some ⟨gs, 0, none⟩) 256 c2) rfl (by kernel_rfl) (by kernel_rfl) (by kernel_rfl) (fun _ _ _ h => h) (.inl ⟨by rfl, fun _ _ => rfl⟩) hS ?_
                    simp only [Act.put, List.setIfInBounds_toArray, List.set_cons_zero, List.set_cons_succ, List.getElem_toArray, List.getElem_cons_succ, List.getElem_cons_zero]
                    refine wpAnyH_take (i := 7) (v := .slice sx 32 sxc) rfl (by kernel_rfl) (by kernel_rfl) (by kernel_rfl) (fun _ _ _ h => h) (yieldsIf_slice (by rfl) 36 (.tmp 101) (some (.const (.int .i64 224))) none none rfl (.slice (some ⟨gs, 0, none⟩) 256 c2) (some (.int .i64 224)) none none rfl rfl rfl rfl HSW.out) hS ?_
                    simp only [Act.put, List.setIfInBounds_toArray, List.set_cons_zero, List.set_cons_succ, List.getElem_toArray, List.getElem_cons_succ, List.getElem_cons_zero]
                    refine wpAnyH_one (k := 3) rfl (by kernel_rfl) ?_
                    have hsl_ := (HSE.out _ hS).size
                    obtain ⟨wh, hw9, hk, hb9, hs9⟩ := alloc_facts wg #[] 5
                    have H3 : Hid (wh.ownsRow wf.heap.size 5 1 (.slice (some ⟨wg.heap.size, 0, none⟩) 0 0) 0 []) := Lib.hid (by rw [← hw9]; exact World.ownsRow_made wg #[] 0 hsl_ (by unfold maxLen; omega) rfl)
                    have hsz_ : wg.heap.size < wh.heap.size := by omega
                    clear hb9 hs9 hsl_
                    go_wp2_with fail
                    try rw [hw9]
                    clear hw9
                    obtain ⟨eH3, he_⟩ : ∃ e, wg.heap.size = e := ⟨_, rfl⟩
                    rw [he_] at H3 ⊢
                    clear he_ hsz_
                    have hS1 := HSI.out _ ((HSE.out _ hS).trans hk)
                    clear hS hk
                    refine ⟨hS1, ?_⟩
                    refine wpAnyH_one (k := 5) rfl (by kernel_rfl) ?_
                    have hbs_ : wf.heap.size ≤ wh.heap.size := (HSE.out _ hS1).size
                    have hrd_ := (HRD.out.keep (HSE.out _ hS1) fun _ _ => id)
                    refine wpList_unguard (by rfl) ?_
                    refine wpList_append_rd rfl (.tmp 98) (.tmp 99) 36 rfl wf.heap.size 5 (.int .u8 0) 1 1 Tryd.underlying36 infoU8 rfl (by decide) (.slice (some ⟨eH3, 0, none⟩) 0 0) (0) ([]) rfl H3.out (.slice (some ⟨b15, 0, none⟩) 32 32) (32) (dc) rfl hrd_ HDO.out (by unfold maxLen; omega) (by omega) hbs_ ?_
                    intro v' wi ho5 hk5 hn5 hb5
                    have hk2 := (HSE.out _ hS1).trans' hk5 (U := noBlk) (fun _ _ h => h) (fun i hi e => by have := owns_base H3.out e; omega)
                    rw [Nat.zero_add, List.nil_append, ← HDC.out] at ho5
                    obtain ⟨x4, c4, hvf, -, -⟩ := (Rd.of_owns ho5).form
                    subst hvf
                    have H4 := Lib.hid ho5
                    clear ho5 hk5 hn5 hb5 hrd_ hbs_
                    have hS2 := HSI.out _ hk2
                    clear hS1 hk2
                    go_wp2_with fail
                    refine ⟨hS2, ?_⟩
                    refine wpAnyH_one (k := 8) rfl (by kernel_rfl) ?_
                    go_wp2_with fail
                    refine (same_any wi _ _ dg d2 (by rw [hdl]; exact Rd.of_owns H4.out) (HR4.out.keep (HSE.out _ hS2) fun _ _ => id) true (decide_eq_true ed)).mono ?_
                    rintro e wj ⟨rfl, hw_⟩
                    have hk : Keep noBlk wi wj := by rw [← hw_]; exact Keep.refl _ _
                    clear hw_
                    have hS3 := HSI.out _ ((HSE.out _ hS2).trans hk)
                    clear hS2 hk
                    go_wp2_with fail
                    refine ⟨hS3, ?_⟩
                    refine wpAnyH_take (i := 9) (v := .bool true) rfl (by kernel_rfl) (by kernel_rfl) (by kernel_rfl) (fun _ _ _ h => h) (.inl ⟨by rfl, fun _ _ => rfl⟩) hS3 ?_
                    simp only [Act.put, List.setIfInBounds_toArray, List.set_cons_zero, List.set_cons_succ, List.getElem_toArray, List.getElem_cons_succ, List.getElem_cons_zero]
                    refine wpAnyH_done (by kernel_rfl) ?_ _
                    have HKR := Lib.hid (HSE.out _ hS3)
                    clear hS3 HSE HSI
                    have HBu := Lib.hid (HKR.out.blk HBu.out id)
                    have HBv := Lib.hid (HKR.out.blk HBv.out id)
                    have HK := Lib.hid (HK.out.trans HKR.out)
                    have HUu := Lib.hid (HUu.out.keep HKR.out fun _ _ => id)
                    have HUv := Lib.hid (HUv.out.keep HKR.out fun _ _ => id)
                    have HG := Lib.hid (HG.out.keep HKR.out)
                    have HOa := Lib.hid (HKR.out.owns HOa.out fun _ _ => id)
                    have HOb := Lib.hid (HKR.out.owns HOb.out fun _ _ => id)
                    have HOs := Lib.hid (HKR.out.owns HOs.out fun _ _ => id)
                    have HR1 := Lib.hid (HR1.out.keep HKR.out fun _ _ => id)
                    have HR2 := Lib.hid (HR2.out.keep HKR.out fun _ _ => id)
                    have HR3 := Lib.hid (HR3.out.keep HKR.out fun _ _ => id)
                    have HR4 := Lib.hid (HR4.out.keep HKR.out fun _ _ => id)
                    have HB15 := Lib.hid (HKR.out.blk HB15.out id)
                    have HRD := Lib.hid (HRD.out.keep HKR.out fun _ _ => id)
                    clear HKR
                    go_wp2_with fail
                    go_ret
                    exact ⟨rfl, HK.out⟩
                  · have hrd : Rd wf 1 (.slice (some ⟨b15, 0, none⟩) 32 32) 32 dc := rd_blk (n := 32) (size := 1) HB15.out (by rw [hdcl]) (by unfold maxLen; omega)
                    have HRD := Lib.hid hrd
                    clear hrd
                    obtain ⟨S, hS0⟩ : ∃ S : World → Prop, S = fun w' => Keep noBlk wf w' := ⟨_, rfl⟩
                    have HSE := Lib.hid (show ∀ w', S w' → Keep noBlk wf w' from fun w' h => by rw [hS0] at h; exact h)
                    have HSI := Lib.hid (show ∀ w', Keep noBlk wf w' → S w' from fun w' h => by rw [hS0]; exact h)
                    have hS : S wf.drew := by rw [hS0]; exact (Keep.refl _ _).drew
                    clear hS0
                    refine wp_region_held (S := S) (by kernel_rfl) ?_
                    change wpAnyH _ _ _ _ _ _ _ _ wf.drew
                    generalize wf.drew = wg at hS ⊢
                    refine wpAnyH_take (i := 0) (v := .bool false) rfl (by kernel_rfl) (by kernel_rfl) (by kernel_rfl) (fun _ _ _ h => h) (.inl ⟨by rfl, fun _ _ => rfl⟩) hS ?_
                    simp only [Act.put, List.setIfInBounds_toArray, List.set_cons_zero, List.set_cons_succ, List.getElem_toArray, List.getElem_cons_succ, List.getElem_cons_zero]
                    refine wpAnyH_take (i := 1) (v := .bool true) rfl (by kernel_rfl) (by kernel_rfl) (by kernel_rfl) (fun _ _ _ h => h) (.inl ⟨by rfl, fun _ _ => by go_simp⟩) hS ?_
                    simp only [Act.put, List.setIfInBounds_toArray, List.set_cons_zero, List.set_cons_succ, List.getElem_toArray, List.getElem_cons_succ, List.getElem_cons_zero]
                    refine wpAnyH_take (i := 2) (v := .bool true) rfl (by kernel_rfl) (by kernel_rfl) (by kernel_rfl) (fun _ _ _ h => h) (.inl ⟨by rfl, fun _ _ => rfl⟩) hS ?_
                    simp only [Act.put, List.setIfInBounds_toArray, List.set_cons_zero, List.set_cons_succ, List.getElem_toArray, List.getElem_cons_succ, List.getElem_cons_zero]
                    refine wpAnyH_take (i := 4) (v := .slice (some ⟨b15, 0, none⟩) 32 32) rfl (by kernel_rfl) (by kernel_rfl) (by kernel_rfl) (fun _ _ _ h => h) (.inl ⟨by rfl, fun _ _ => by go_simp⟩) hS ?_
                    simp only [Act.put, List.setIfInBounds_toArray, List.set_cons_zero, List.set_cons_succ, List.getElem_toArray, List.getElem_cons_succ, List.getElem_cons_zero]
                    refine wpAnyH_take (i := 6) (v := .slice (some ⟨gs, 0, none⟩) 256 c2) rfl (by kernel_rfl) (by kernel_rfl) (by kernel_rfl) (fun _ _ _ h => h) (.inl ⟨by rfl, fun _ _ => rfl⟩) hS ?_
                    simp only [Act.put, List.setIfInBounds_toArray, List.set_cons_zero, List.set_cons_succ, List.getElem_toArray, List.getElem_cons_succ, List.getElem_cons_zero]
                    refine wpAnyH_take (i := 7) (v := .slice sx 32 sxc) rfl (by kernel_rfl) (by kernel_rfl) (by kernel_rfl) (fun _ _ _ h => h) (yieldsIf_slice (by rfl) 36 (.tmp 101) (some (.const (.int .i64 224))) none none rfl (.slice (some ⟨gs, 0, none⟩) 256 c2) (some (.int .i64 224)) none none rfl rfl rfl rfl HSW.out) hS ?_
                    simp only [Act.put, List.setIfInBounds_toArray, List.set_cons_zero, List.set_cons_succ, List.getElem_toArray, List.getElem_cons_succ, List.getElem_cons_zero]
                    refine wpAnyH_one (k := 3) rfl (by kernel_rfl) ?_
                    have hsl_ := (HSE.out _ hS).size
                    obtain ⟨wh, hw9, hk, hb9, hs9⟩ := alloc_facts wg #[] 5
                    have H3 : Hid (wh.ownsRow wf.heap.size 5 1 (.slice (some ⟨wg.heap.size, 0, none⟩) 0 0) 0 []) := Lib.hid (by rw [← hw9]; exact World.ownsRow_made wg #[] 0 hsl_ (by unfold maxLen; omega) rfl)
                    have hsz_ : wg.heap.size < wh.heap.size := by omega
                    clear hb9 hs9 hsl_
                    go_wp2_with fail
                    try rw [hw9]
                    clear hw9
                    obtain ⟨eH3, he_⟩ : ∃ e, wg.heap.size = e := ⟨_, rfl⟩
                    rw [he_] at H3 ⊢
                    clear he_ hsz_
                    have hS1 := HSI.out _ ((HSE.out _ hS).trans hk)
                    clear hS hk
                    refine ⟨hS1, ?_⟩
                    refine wpAnyH_one (k := 5) rfl (by kernel_rfl) ?_
                    have hbs_ : wf.heap.size ≤ wh.heap.size := (HSE.out _ hS1).size
                    have hrd_ := (HRD.out.keep (HSE.out _ hS1) fun _ _ => id)
                    refine wpList_unguard (by rfl) ?_
                    refine wpList_append_rd rfl (.tmp 98) (.tmp 99) 36 rfl wf.heap.size 5 (.int .u8 0) 1 1 Tryd.underlying36 infoU8 rfl (by decide) (.slice (some ⟨eH3, 0, none⟩) 0 0) (0) ([]) rfl H3.out (.slice (some ⟨b15, 0, none⟩) 32 32) (32) (dc) rfl hrd_ HDO.out (by unfold maxLen; omega) (by omega) hbs_ ?_
                    intro v' wi ho5 hk5 hn5 hb5
                    have hk2 := (HSE.out _ hS1).trans' hk5 (U := noBlk) (fun _ _ h => h) (fun i hi e => by have := owns_base H3.out e; omega)
                    rw [Nat.zero_add, List.nil_append, ← HDC.out] at ho5
                    obtain ⟨x4, c4, hvf, -, -⟩ := (Rd.of_owns ho5).form
                    subst hvf
                    have H4 := Lib.hid ho5
                    clear ho5 hk5 hn5 hb5 hrd_ hbs_
                    have hS2 := HSI.out _ hk2
                    clear hS1 hk2
                    go_wp2_with fail
                    refine ⟨hS2, ?_⟩
                    refine wpAnyH_one (k := 8) rfl (by kernel_rfl) ?_
                    go_wp2_with fail
                    refine (same_any wi _ _ dg d2 (by rw [hdl]; exact Rd.of_owns H4.out) (HR4.out.keep (HSE.out _ hS2) fun _ _ => id) false (decide_eq_false ed)).mono ?_
                    rintro e wj ⟨rfl, hw_⟩
                    have hk : Keep noBlk wi wj := by rw [← hw_]; exact Keep.refl _ _
                    clear hw_
                    have hS3 := HSI.out _ ((HSE.out _ hS2).trans hk)
                    clear hS2 hk
                    go_wp2_with fail
                    refine ⟨hS3, ?_⟩
                    refine wpAnyH_take (i := 9) (v := .bool false) rfl (by kernel_rfl) (by kernel_rfl) (by kernel_rfl) (fun _ _ _ h => h) (.inl ⟨by rfl, fun _ _ => rfl⟩) hS3 ?_
                    simp only [Act.put, List.setIfInBounds_toArray, List.set_cons_zero, List.set_cons_succ, List.getElem_toArray, List.getElem_cons_succ, List.getElem_cons_zero]
                    refine wpAnyH_done (by kernel_rfl) ?_ _
                    have HKR := Lib.hid (HSE.out _ hS3)
                    clear hS3 HSE HSI
                    have HBu := Lib.hid (HKR.out.blk HBu.out id)
                    have HBv := Lib.hid (HKR.out.blk HBv.out id)
                    have HK := Lib.hid (HK.out.trans HKR.out)
                    have HUu := Lib.hid (HUu.out.keep HKR.out fun _ _ => id)
                    have HUv := Lib.hid (HUv.out.keep HKR.out fun _ _ => id)
                    have HG := Lib.hid (HG.out.keep HKR.out)
                    have HOa := Lib.hid (HKR.out.owns HOa.out fun _ _ => id)
                    have HOb := Lib.hid (HKR.out.owns HOb.out fun _ _ => id)
                    have HOs := Lib.hid (HKR.out.owns HOs.out fun _ _ => id)
                    have HR1 := Lib.hid (HR1.out.keep HKR.out fun _ _ => id)
                    have HR2 := Lib.hid (HR2.out.keep HKR.out fun _ _ => id)
                    have HR3 := Lib.hid (HR3.out.keep HKR.out fun _ _ => id)
                    have HR4 := Lib.hid (HR4.out.keep HKR.out fun _ _ => id)
                    have HB15 := Lib.hid (HKR.out.blk HB15.out id)
                    have HRD := Lib.hid (HRD.out.keep HKR.out fun _ _ => id)
                    clear HKR
                    have et : unpackU s = (zUb, 11) := torn_plain HUu.out.pool HUu.out.root.sum HMU.out HBL.out htl (by rw [HAL.out]; exact HSS.out.symm) (by rw [HAL.out]; exact HEA.out) HEB.out (fun _ _ h => ed (by rw [← HDG.out, ← HS2.out, ← HD2.out]; exact h))
                    have ET := Lib.hid et
                    clear et
                    go_wp2_with fail
                    refine ((uunpack_any wj aF aR HG.out _ s (by rw [HSL.out]; exact Rd.of_owns HOs.out) (by rw [HSL.out]; omega)).mono fun e w' h => UUnpackPost.V h).mono ?_
                    rintro e wk ⟨vm, rfl, hu_, ho_, hk⟩
                    rw [ET.out] at hu_ ⊢
                    clear ho_
                    have HBu := Lib.hid (hk.blk HBu.out id)
                    have HBv := Lib.hid (hk.blk HBv.out id)
                    have HK := Lib.hid (HK.out.trans hk)
                    have HUu := Lib.hid (HUu.out.keep hk fun _ _ => id)
                    have HUv := Lib.hid (HUv.out.keep hk fun _ _ => id)
                    have HG := Lib.hid (HG.out.keep hk)
                    have HOa := Lib.hid (hk.owns HOa.out fun _ _ => id)
                    have HOb := Lib.hid (hk.owns HOb.out fun _ _ => id)
                    have HOs := Lib.hid (hk.owns HOs.out fun _ _ => id)
                    have HR1 := Lib.hid (HR1.out.keep hk fun _ _ => id)
                    have HR2 := Lib.hid (HR2.out.keep hk fun _ _ => id)
                    have HR3 := Lib.hid (HR3.out.keep hk fun _ _ => id)
                    have HR4 := Lib.hid (HR4.out.keep hk fun _ _ => id)
                    have HB15 := Lib.hid (hk.blk HB15.out id)
                    have HRD := Lib.hid (HRD.out.keep hk fun _ _ => id)
                    clear hk
                    have hu2 : UbV wk vm zUb := hu_
                    clear hu_
                    obtain ⟨am, cm, hv_, -, -⟩ := hu2.root.rd.form
                    have hv2_ : vm = .slice am (zUb).root.addrs.length cm := hv_
                    clear hv_
                    subst hv2_
                    have hlm := ubCs_len (v := .slice am (zUb).root.addrs.length cm) hu2.root.sum hu2.pool
                    have HCm := Lib.hid (oneCell_ub (oa := am) (n := (zUb).root.addrs.length) (ca := cm) (zUb))
                    have HUm := Lib.hid hu2
                    obtain ⟨lcm, hlcm⟩ : ∃ x, ubCs (.slice am (zUb).root.addrs.length cm) (zUb) = x := ⟨_, rfl⟩
                    rw [hlcm] at hlm HCm
                    try rw [hlcm]
                    have HLCm := Lib.hid hlcm
                    clear hlcm
                    clear hu2
                    try rw [show (zUb, (11 : Int)).1 = zUb from rfl]
                    try rw [HLCm.out]
                    go_wp2_with (first
                      | ((with_reducible show wpList _ _ _ (⟨_, .alloc 28, _, _, _, _⟩ :: _) _ _); refine wpList_alloc_at rfl 28 rfl _ HZV.out zc.toArray rfl ?_)
                      | ((with_reducible show wpList _ _ _ (⟨none, .store 28 (.tmp 17) (.tmp 109), _, _, _, _⟩ :: _) _ _)
                         refine wpList_store_agg rfl 28 (.tmp 17) (.tmp 109) rfl wk.heap.size 0 lcm rfl rfl zc.toArray _ (heap_alloc_new _ _) (by rw [hlm, List.size_toArray, hzl]; exact Nat.le_refl _) (sizeUbL hlm) HCm.out ?_
                         intro wl hb5 hk5
                         rw [spl_whole _ _ (by rw [hlm, List.size_toArray, hzl])] at hb5
                         have hkb : Keep noBlk wk wl := ((Keep.refl noBlk wk).alloc _).trans' hk5 (fun _ _ h => h.elim) (fun i hi e => by omega)
                         clear hk5
                         obtain ⟨bm, hb_⟩ : ∃ b, wk.heap.size = b := ⟨_, rfl⟩
                         rw [hb_] at hb5 ⊢
                         have HBSm := Lib.hid hb_; clear hb_
                         have HBm := Lib.hid hb5; clear hb5)
                      | ((with_reducible show wpList _ _ _ (⟨_, .load 28 (.tmp 17), _, _, _, _⟩ :: _) _ _); refine wpList_load_g (by rfl) 28 (.tmp 17) rfl bm 0 rfl lcm _ (rangeAt_whole HBm.out) ubUnder rfl (sizeUbL hlm) ?_))
                    have HBu := Lib.hid (hkb.blk HBu.out id)
                    have HBv := Lib.hid (hkb.blk HBv.out id)
                    have HK := Lib.hid (HK.out.trans hkb)
                    have HUu := Lib.hid (HUu.out.keep hkb fun _ _ => id)
                    have HUv := Lib.hid (HUv.out.keep hkb fun _ _ => id)
                    have HG := Lib.hid (HG.out.keep hkb)
                    have HOa := Lib.hid (hkb.owns HOa.out fun _ _ => id)
                    have HOb := Lib.hid (hkb.owns HOb.out fun _ _ => id)
                    have HOs := Lib.hid (hkb.owns HOs.out fun _ _ => id)
                    have HR1 := Lib.hid (HR1.out.keep hkb fun _ _ => id)
                    have HR2 := Lib.hid (HR2.out.keep hkb fun _ _ => id)
                    have HR3 := Lib.hid (HR3.out.keep hkb fun _ _ => id)
                    have HR4 := Lib.hid (HR4.out.keep hkb fun _ _ => id)
                    have HB15 := Lib.hid (hkb.blk HB15.out id)
                    have HRD := Lib.hid (HRD.out.keep hkb fun _ _ => id)
                    have HUm := Lib.hid (HUm.out.keep hkb fun _ _ => id)
                    clear hkb
                    have CC : Calls Tryd.prog 12 #[.agg lcm.toArray, .agg Tryd.zeroCells28] wl (TherePost wl true) := by
                      have h := kitU_any wl _ _ zUb zUb HUm.out (ubV_flat wl 0 0)
                      rw [eqB_refl] at h
                      rw [← HLCm.out, zeroUbCells]
                      exact h
                    refine CC.mono ?_
                    clear CC
                    rintro e wm ⟨rfl, hk⟩
                    have HBu := Lib.hid (hk.blk HBu.out id)
                    have HBv := Lib.hid (hk.blk HBv.out id)
                    have HK := Lib.hid (HK.out.trans hk)
                    have HUu := Lib.hid (HUu.out.keep hk fun _ _ => id)
                    have HUv := Lib.hid (HUv.out.keep hk fun _ _ => id)
                    have HG := Lib.hid (HG.out.keep hk)
                    have HOa := Lib.hid (hk.owns HOa.out fun _ _ => id)
                    have HOb := Lib.hid (hk.owns HOb.out fun _ _ => id)
                    have HOs := Lib.hid (hk.owns HOs.out fun _ _ => id)
                    have HR1 := Lib.hid (HR1.out.keep hk fun _ _ => id)
                    have HR2 := Lib.hid (HR2.out.keep hk fun _ _ => id)
                    have HR3 := Lib.hid (HR3.out.keep hk fun _ _ => id)
                    have HR4 := Lib.hid (HR4.out.keep hk fun _ _ => id)
                    have HB15 := Lib.hid (hk.blk HB15.out id)
                    have HRD := Lib.hid (HRD.out.keep hk fun _ _ => id)
                    have HUm := Lib.hid (HUm.out.keep hk fun _ _ => id)
                    have HBm := Lib.hid (hk.blk HBm.out id)
                    clear hk
                    go_wp2_with fail
                    go_ret
                    exact ⟨rfl, HK.out⟩
    · have hu20 : (nu : Int) ≤ 20 := by omega
      have hv20 : (20 : Int) < (nv : Int) := by omega
      go_wp2_with fail
      go_ret
      exact ⟨rfl, HK.out⟩
  · have hu20 : (20 : Int) < (nu : Int) := by omega
    go_wp2_with fail
    go_ret
    exact ⟨rfl, HK.out⟩
set_option maxHeartbeats 32000000 in
theorem utorn_yes (w : World) (aF aR : Addr) (hg : ErrG w aF aR) (uv : Value) (U : Ub) (hu : UbV w uv U) (vv : Value) (V : Ub) (hv : UbV w vv V) (x : Int) (HX1 : Hid (-9223372036854775808 ≤ x)) (HX2 : Hid (x ≤ 9223372036854775807)) :
    Calls Tryd.prog 5 #[.agg (ubCs uv U).toArray, .agg (ubCs vv V).toArray, .bool true, .int .i64 x] w (TherePost w true) := by
  obtain ⟨zc, hzc, hzl⟩ : ∃ zc, ubCs (.slice none 0 0) zUb = zc ∧ zc.length = 69 := ⟨_, rfl, rfl⟩
  have hzv : ∀ w, (zeroValue 28).run Tryd.prog w = .ok (.agg zc.toArray) w := by rw [← hzc]; exact zeroValUb
  have HZV := Lib.hid hzv; have HZC := Lib.hid hzc
  clear hzc hzv
  obtain ⟨au, cu, hv_, -, -⟩ := hu.root.rd.form
  have hv2_ : uv = .slice au (U).root.addrs.length cu := hv_
  clear hv_
  subst hv2_
  have hlu := ubCs_len (v := .slice au (U).root.addrs.length cu) hu.root.sum hu.pool
  have HCu := Lib.hid (oneCell_ub (oa := au) (n := (U).root.addrs.length) (ca := cu) (U))
  have HUu := Lib.hid hu
  obtain ⟨lcu, hlcu⟩ : ∃ x, ubCs (.slice au (U).root.addrs.length cu) (U) = x := ⟨_, rfl⟩
  rw [hlcu] at hlu HCu
  try rw [hlcu]
  have HLCu := Lib.hid hlcu
  clear hlcu
  clear hu
  obtain ⟨av, cv, hv_, -, -⟩ := hv.root.rd.form
  have hv2_ : vv = .slice av (V).root.addrs.length cv := hv_
  clear hv_
  subst hv2_
  have hlv := ubCs_len (v := .slice av (V).root.addrs.length cv) hv.root.sum hv.pool
  have HCv := Lib.hid (oneCell_ub (oa := av) (n := (V).root.addrs.length) (ca := cv) (V))
  have HUv := Lib.hid hv
  obtain ⟨lcv, hlcv⟩ : ∃ x, ubCs (.slice av (V).root.addrs.length cv) (V) = x := ⟨_, rfl⟩
  rw [hlcv] at hlv HCv
  try rw [hlcv]
  have HLCv := Lib.hid hlcv
  clear hlcv
  clear hv
  obtain ⟨w1, hw1, k1, hb1, s1⟩ := alloc_facts w lcu.toArray 28
  obtain ⟨w2, hw2, k2, hb2, s2⟩ := alloc_facts w1 lcv.toArray 28
  rw [s1] at hb2
  have HBu := Lib.hid (k2.blk hb1 id); have HBv := Lib.hid hb2
  have HK := Lib.hid (k1.trans k2)
  have HUu := Lib.hid (HUu.out.keep HK.out fun _ _ => id); have HUv := Lib.hid (HUv.out.keep HK.out fun _ _ => id)
  have HG := Lib.hid (hg.keep HK.out)
  have hs2 : w2.heap.size = w.heap.size + 2 := by omega
  have hbl : w.heap.size + 1 < w2.heap.size := by omega
  obtain ⟨bu, hbu⟩ : ∃ b, w.heap.size = b := ⟨_, rfl⟩
  have HBN := Lib.hid hbu
  obtain ⟨nu, hnu⟩ : ∃ n, U.root.addrs.length = n := ⟨_, rfl⟩
  obtain ⟨nv, hnv⟩ : ∃ n, V.root.addrs.length = n := ⟨_, rfl⟩
  have HNu := Lib.hid hnu; have HNv := Lib.hid hnv
  have hmu : nu ≤ maxLen := by obtain ⟨a', c', h1, h2, h3⟩ := HUu.out.root.rd.form; omega
  have hmv : nv ≤ maxLen := by obtain ⟨a', c', h1, h2, h3⟩ := HUv.out.root.rd.form; omega
  unfold maxLen at hmu hmv
  clear k1 k2 hb1 hb2 hg s2
  have hcu := blk_cell (i := 1) (v := .slice au U.root.addrs.length cu) HBu.out (by rw [← HLCu.out]; rfl)
  have hcv := blk_cell (i := 1) (v := .slice av V.root.addrs.length cv) HBv.out (by rw [← HLCv.out]; rfl)
  rw [HNu.out] at hcu
  rw [HNv.out] at hcv
  rw [hbu] at hcu hcv s1 hs2 hbl HBu HBv
  clear hnu hnv
  go_enter Tryd.func5, Tryd.ntmps5
  go_wp2_with fail
  clear hw1 hw2 s1 hbu hs2
  refine (awakeB_any w2 aF aR HG.out).mono ?_
  rintro e w3 ⟨rfl, hk⟩
  have hcu := hk.cell hcu id; have hcv := hk.cell hcv id
  have HBu := Lib.hid (hk.blk HBu.out id)
  have HBv := Lib.hid (hk.blk HBv.out id)
  have HK := Lib.hid (HK.out.trans hk)
  have HUu := Lib.hid (HUu.out.keep hk fun _ _ => id)
  have HUv := Lib.hid (HUv.out.keep hk fun _ _ => id)
  have HG := Lib.hid (HG.out.keep hk)
  clear hk
  by_cases hu : nu ≤ 20
  · by_cases hv : nv ≤ 20
    · have hu20 : (nu : Int) ≤ 20 := by omega
      have hv20 : (nv : Int) ≤ 20 := by omega
      go_wp2_with (first
        | ((with_reducible show wpList _ _ _ (⟨_, .load 28 (.tmp 4), _, _, _, _⟩ :: _) _ _); refine wpList_load_g (by rfl) 28 (.tmp 4) rfl bu 0 rfl lcu _ (rangeAt_whole HBu.out) ubUnder rfl (sizeUbL hlu) ?_))
      refine (show Calls Tryd.prog 11 #[.agg lcu.toArray] w3 (UPackPost w3 U) from by rw [← HLCu.out]; exact upack_any w3 _ U HUu.out).mono ?_
      rintro e w4 ⟨va, rfl, hoa, hk⟩
      have HBu := Lib.hid (hk.blk HBu.out id)
      have HBv := Lib.hid (hk.blk HBv.out id)
      have HK := Lib.hid (HK.out.trans hk)
      have HUu := Lib.hid (HUu.out.keep hk fun _ _ => id)
      have HUv := Lib.hid (HUv.out.keep hk fun _ _ => id)
      have HG := Lib.hid (HG.out.keep hk)
      clear hk
      cases hmU : U.may
      · obtain ⟨aa', ca', hva, -, -⟩ := (Rd.of_owns hoa).form
        subst hva
        rw [if_neg Bool.false_ne_true]
        go_wp2_with (first
          | ((with_reducible show wpList _ _ _ (⟨_, .load 28 (.tmp 5), _, _, _, _⟩ :: _) _ _); refine wpList_load_g (by rfl) 28 (.tmp 5) rfl (bu + 1) 0 rfl lcv _ (rangeAt_whole HBv.out) ubUnder rfl (sizeUbL hlv) ?_))
        refine (show Calls Tryd.prog 11 #[.agg lcv.toArray] w4 (UPackPost w4 V) from by rw [← HLCv.out]; exact upack_any w4 _ V HUv.out).mono ?_
        rintro e w5 ⟨vb, rfl, hob, hk⟩
        have HBu := Lib.hid (hk.blk HBu.out id)
        have HBv := Lib.hid (hk.blk HBv.out id)
        have HK := Lib.hid (HK.out.trans hk)
        have HUu := Lib.hid (HUu.out.keep hk fun _ _ => id)
        have HUv := Lib.hid (HUv.out.keep hk fun _ _ => id)
        have HG := Lib.hid (HG.out.keep hk)
        clear hk
        generalize (if V.may = true then (0 : Int) else 2) = er2
        obtain ⟨ab', cb', hvb, -, -⟩ := (Rd.of_owns hob).form
        subst hvb
        go_wp2_with fail
        go_ret
        exact ⟨rfl, HK.out⟩
      · rw [if_pos rfl]
        rw [packU_len HUu.out.pool HUu.out.root.sum hmU] at hoa
        obtain ⟨ga, ca, rfl, hca, hcam⟩ := own256 hoa rfl
        unfold maxLen at hcam
        have HOa := Lib.hid hoa; have HMU := Lib.hid hmU
        clear hoa hmU
        go_wp2_with (first
          | ((with_reducible show wpList _ _ _ (⟨_, .load 28 (.tmp 5), _, _, _, _⟩ :: _) _ _); refine wpList_load_g (by rfl) 28 (.tmp 5) rfl (bu + 1) 0 rfl lcv _ (rangeAt_whole HBv.out) ubUnder rfl (sizeUbL hlv) ?_))
        refine (show Calls Tryd.prog 11 #[.agg lcv.toArray] w4 (UPackPost w4 V) from by rw [← HLCv.out]; exact upack_any w4 _ V HUv.out).mono ?_
        rintro e w5 ⟨vb, rfl, hob, hk⟩
        have HBu := Lib.hid (hk.blk HBu.out id)
        have HBv := Lib.hid (hk.blk HBv.out id)
        have HK := Lib.hid (HK.out.trans hk)
        have HUu := Lib.hid (HUu.out.keep hk fun _ _ => id)
        have HUv := Lib.hid (HUv.out.keep hk fun _ _ => id)
        have HG := Lib.hid (HG.out.keep hk)
        have HOa := Lib.hid (hk.owns HOa.out fun _ _ => id)
        clear hk
        cases hmV : V.may
        · obtain ⟨ab', cb', hvb, -, -⟩ := (Rd.of_owns hob).form
          subst hvb
          go_wp2_with fail
          go_ret
          exact ⟨rfl, HK.out⟩
        · rw [if_pos rfl]
          rw [packU_len HUv.out.pool HUv.out.root.sum hmV] at hob
          obtain ⟨gb, cb, rfl, hcb, hcbm⟩ := own256 hob rfl
          unfold maxLen at hcbm
          have HOb := Lib.hid hob; have HMV := Lib.hid hmV
          clear hob hmV
          clear HOb hcb hcbm
          go_wp2_with (first
            | (refine wpList_make_one rfl (.const (.int .i64 256)) (.const (.int .i64 256)) 36 rfl w5.heap.size 5 _ 1 Tryd.underlying36 infoU8 rfl 256 rfl rfl (by decide) (by decide) (Nat.le_refl _) ?_; intro wm hom hkm; have HOM := Lib.hid hom; have HKM := Lib.hid hkm; clear hom hkm))
          have HBu := Lib.hid (HKM.out.blk HBu.out id)
          have HBv := Lib.hid (HKM.out.blk HBv.out id)
          have HK := Lib.hid (HK.out.trans HKM.out)
          have HUu := Lib.hid (HUu.out.keep HKM.out fun _ _ => id)
          have HUv := Lib.hid (HUv.out.keep HKM.out fun _ _ => id)
          have HG := Lib.hid (HG.out.keep HKM.out)
          have HOa := Lib.hid (HKM.out.owns HOa.out fun _ _ => id)
          obtain ⟨bl, hbl_⟩ : ∃ l, List.replicate 256 (0 : UInt8) = l := ⟨_, rfl⟩
          have HOb := HOM.out
          rw [show List.replicate 256 (Value.int .u8 0) = bl.map vb by rw [← hbl_, List.map_replicate]; rfl] at HOb
          have HOb := Lib.hid HOb
          have HBL : Hid ((∃ v : Ub, v.pool.length = 32 ∧ v.root.sum.length = 32 ∧ v.may = true ∧ bl = packU v) ∨ bl = List.replicate 256 0) := Lib.hid (.inr hbl_.symm)
          have HLB : Hid (bl.length = 256) := Lib.hid (by rw [← hbl_, List.length_replicate])
          obtain ⟨gb, hgb⟩ : ∃ b, w5.heap.size = b := ⟨_, rfl⟩
          rw [hgb] at HOb ⊢
          clear hbl_ hgb HOM HKM
          obtain ⟨cb, hcb_⟩ : ∃ c : Nat, 256 = c := ⟨_, rfl⟩
          have hcb : 256 ≤ cb := by omega
          have hcbm : cb ≤ 9223372036854775807 := by omega
          have HOb : Hid (wm.ownsRow _ 5 1 (.slice (some ⟨gb, 0, none⟩) 256 256) 256 (bl.map vb)) := HOb
          clear hcb_ hcb hcbm cb
          have hcb : 256 ≤ 256 := Nat.le_refl _
          have hp0 := Int.emod_nonneg x (show (257 : Int) ≠ 0 by omega)
          have hp1 := Int.emod_lt_of_pos x (show (0 : Int) < 257 by omega)
          obtain ⟨tn, htn⟩ : ∃ tn : Nat, x % 257 = (tn : Int) := ⟨(x % 257).toNat, by omega⟩
          have htl : tn ≤ 256 := by omega
          refine (pick_any wm x 257 (by omega) (by omega) HX1.out HX2.out).mono ?_
          rintro e wz ⟨rfl, hw_⟩
          rw [htn]
          subst hw_
          clear hp0 hp1 htn
          obtain ⟨al, hal_⟩ : ∃ l, packU U = l := ⟨_, rfl⟩
          have HLA : Hid (al.length = 256) := Lib.hid (by rw [← hal_]; exact packU_len HUu.out.pool HUu.out.root.sum HMU.out)
          have HAL := Lib.hid hal_
          rw [hal_] at HOa
          clear hal_
          go_wp2_with fail
          have HTV : Hid (∀ w', (Instr.sliceAt 36 (.slice (some ⟨ga, 0, none⟩) 256 ca) none (some (.int .i64 tn)) none).run Tryd.prog w' = .ok (.slice (some ⟨ga, 0, none⟩) tn ca) w') := Lib.hid (fun w' => run_cut_to Tryd.underlying36 _ 256 ca tn (by omega) sizeOfU8 w')
          obtain ⟨sv, hsv⟩ : ∃ v, sliced (some ⟨gb, 0, none⟩) tn 256 256 1 = v := ⟨_, rfl⟩
          have HSV : Hid (∀ w', (Instr.sliceAt 36 (.slice (some ⟨gb, 0, none⟩) 256 256) (some (.int .i64 tn)) none none).run Tryd.prog w' = .ok sv w') := Lib.hid (fun w' => by rw [← hsv]; exact run_cut_from Tryd.underlying36 _ 256 256 tn (by omega) sizeOfU8 w')
          have hra := (Rd.of_owns HOa.out).cut_to (k := tn) (by omega)
          have hrb := (Rd.of_owns HOb.out).cut_from (k := tn) (by omega)
          rw [Nat.mul_one, ← List.map_take] at hra
          rw [hsv, Nat.mul_one, ← List.map_drop] at hrb
          have HRA := Lib.hid hra; have HRB := Lib.hid hrb
          obtain ⟨sa, sc, hsf, -, -⟩ := hrb.form
          subst hsf
          have hta : (al.take tn).length = tn := by rw [List.length_take, HLA.out]; omega
          clear hra hrb hsv
          obtain ⟨S, hS0⟩ : ∃ S : World → Prop, S = fun w' => Keep noBlk wm w' := ⟨_, rfl⟩
          have HSE := Lib.hid (show ∀ w', S w' → Keep noBlk wm w' from fun w' h => by rw [hS0] at h; exact h)
          have HSI := Lib.hid (show ∀ w', Keep noBlk wm w' → S w' from fun w' h => by rw [hS0]; exact h)
          have hS : S wm.drew := by rw [hS0]; exact (Keep.refl _ _).drew
          clear hS0
          refine wp_region_held (S := S) (by kernel_rfl) ?_
          change wpAnyH _ _ _ _ _ _ _ _ wm.drew
          generalize wm.drew = w7 at hS ⊢
          refine wpAnyH_take (i := 1) (v := .slice (some ⟨ga, 0, none⟩) 256 ca) rfl (by kernel_rfl) (by kernel_rfl) (by kernel_rfl) (fun _ _ _ h => h) (.inl ⟨by rfl, fun _ _ => rfl⟩) hS ?_
          simp only [Act.put, List.setIfInBounds_toArray, List.set_cons_zero, List.set_cons_succ, List.getElem_toArray, List.getElem_cons_succ, List.getElem_cons_zero]
          refine wpAnyH_take (i := 2) (v := .int .i64 tn) rfl (by kernel_rfl) (by kernel_rfl) (by kernel_rfl) (fun _ _ _ h => h) (.inl ⟨by rfl, fun _ _ => rfl⟩) hS ?_
          simp only [Act.put, List.setIfInBounds_toArray, List.set_cons_zero, List.set_cons_succ, List.getElem_toArray, List.getElem_cons_succ, List.getElem_cons_zero]
          refine wpAnyH_take (i := 3) (v := .slice (some ⟨ga, 0, none⟩) tn ca) rfl (by kernel_rfl) (by kernel_rfl) (by kernel_rfl) (fun _ _ _ h => h) (yieldsIf_slice (by rfl) 36 (.tmp 63) none (some (.tmp 64)) none rfl (.slice (some ⟨ga, 0, none⟩) 256 ca) none (some (.int .i64 tn)) none rfl rfl rfl rfl HTV.out) hS ?_
          simp only [Act.put, List.setIfInBounds_toArray, List.set_cons_zero, List.set_cons_succ, List.getElem_toArray, List.getElem_cons_succ, List.getElem_cons_zero]
          refine wpAnyH_take (i := 5) (v := .slice (some ⟨gb, 0, none⟩) 256 256) rfl (by kernel_rfl) (by kernel_rfl) (by kernel_rfl) (fun _ _ _ h => h) (.inl ⟨by rfl, fun _ _ => rfl⟩) hS ?_
          simp only [Act.put, List.setIfInBounds_toArray, List.set_cons_zero, List.set_cons_succ, List.getElem_toArray, List.getElem_cons_succ, List.getElem_cons_zero]
          refine wpAnyH_take (i := 6) (v := .int .i64 tn) rfl (by kernel_rfl) (by kernel_rfl) (by kernel_rfl) (fun _ _ _ h => h) (.inl ⟨by rfl, fun _ _ => rfl⟩) hS ?_
          simp only [Act.put, List.setIfInBounds_toArray, List.set_cons_zero, List.set_cons_succ, List.getElem_toArray, List.getElem_cons_succ, List.getElem_cons_zero]
          refine wpAnyH_take (i := 7) (v := .slice sa (256 - tn) sc) rfl (by kernel_rfl) (by kernel_rfl) (by kernel_rfl) (fun _ _ _ h => h) (yieldsIf_slice (by rfl) 36 (.tmp 67) (some (.tmp 68)) none none rfl (.slice (some ⟨gb, 0, none⟩) 256 256) (some (.int .i64 tn)) none none rfl rfl rfl rfl HSV.out) hS ?_
          simp only [Act.put, List.setIfInBounds_toArray, List.set_cons_zero, List.set_cons_succ, List.getElem_toArray, List.getElem_cons_succ, List.getElem_cons_zero]
          refine wpAnyH_one (k := 0) rfl (by kernel_rfl) ?_
          have hsl_ := (HSE.out _ hS).size
          obtain ⟨w8, hw9, hk, hb9, hs9⟩ := alloc_facts w7 #[] 5
          have H0 : Hid (w8.ownsRow wm.heap.size 5 1 (.slice (some ⟨w7.heap.size, 0, none⟩) 0 0) 0 []) := Lib.hid (by rw [← hw9]; exact World.ownsRow_made w7 #[] 0 hsl_ (by unfold maxLen; omega) rfl)
          have hsz_ : w7.heap.size < w8.heap.size := by omega
          clear hb9 hs9 hsl_
          go_wp2_with fail
          try rw [hw9]
          clear hw9
          obtain ⟨eH0, he_⟩ : ∃ e, w7.heap.size = e := ⟨_, rfl⟩
          rw [he_] at H0 ⊢
          clear he_ hsz_
          have hS1 := HSI.out _ ((HSE.out _ hS).trans hk)
          clear hS hk
          refine ⟨hS1, ?_⟩
          refine wpAnyH_one (k := 4) rfl (by kernel_rfl) ?_
          have hbs_ : wm.heap.size ≤ w8.heap.size := (HSE.out _ hS1).size
          have hrd_ := (HRA.out.keep (HSE.out _ hS1) fun _ _ => id)
          skip
          refine wpList_append_rd rfl (.tmp 62) (.tmp 65) 36 rfl wm.heap.size 5 (.int .u8 0) 1 1 Tryd.underlying36 infoU8 rfl (by decide) (.slice (some ⟨eH0, 0, none⟩) 0 0) (0) ([]) rfl H0.out (.slice (some ⟨ga, 0, none⟩) tn ca) (tn) ((al.take tn).map vb) rfl hrd_ (oneCell_vb _) (by unfold maxLen; omega) (by omega) hbs_ ?_
          intro v' w9 ho5 hk5 hn5 hb5
          have hk2 := (HSE.out _ hS1).trans' hk5 (U := noBlk) (fun _ _ h => h) (fun i hi e => by have := owns_base H0.out e; omega)
          rw [Nat.zero_add, List.nil_append] at ho5
          obtain ⟨x1, c1, hvf, -, -⟩ := (Rd.of_owns ho5).form
          subst hvf
          have H1 := Lib.hid ho5
          clear ho5 hk5 hn5 hb5 hrd_ hbs_
          have hS2 := HSI.out _ hk2
          clear hS1 hk2
          go_wp2_with fail
          refine ⟨hS2, ?_⟩
          refine wpAnyH_one (k := 8) rfl (by kernel_rfl) ?_
          have hbs_ : wm.heap.size ≤ w9.heap.size := (HSE.out _ hS2).size
          have hrd_ := (HRB.out.keep (HSE.out _ hS2) fun _ _ => id)
          skip
          refine wpList_append_rd rfl (.tmp 66) (.tmp 69) 36 rfl wm.heap.size 5 (.int .u8 0) 1 1 Tryd.underlying36 infoU8 rfl (by decide) (.slice x1 tn c1) (tn) ((al.take tn).map vb) rfl H1.out (.slice sa (256 - tn) sc) (256 - tn) ((bl.drop tn).map vb) rfl hrd_ (oneCell_vb _) (by unfold maxLen; omega) (by omega) hbs_ ?_
          intro v' wa ho5 hk5 hn5 hb5
          have hk2 := (HSE.out _ hS2).trans' hk5 (U := noBlk) (fun _ _ h => h) (fun i hi e => by have := owns_base H1.out e; omega)
          rw [show tn + (256 - tn) = 256 by omega, ← List.map_append] at ho5
          obtain ⟨x2, c2, hvf, -, -⟩ := (Rd.of_owns ho5).form
          subst hvf
          have H2 := Lib.hid ho5
          clear ho5 hk5 hn5 hb5 hrd_ hbs_
          have hS3 := HSI.out _ hk2
          clear hS2 hk2
          go_wp2_with fail
          refine ⟨hS3, ?_⟩
          refine wpAnyH_take (i := 9) (v := .slice x2 256 c2) rfl (by kernel_rfl) (by kernel_rfl) (by kernel_rfl) (fun _ _ _ h => h) (.inl ⟨by rfl, fun _ _ => rfl⟩) hS3 ?_
          simp only [Act.put, List.setIfInBounds_toArray, List.set_cons_zero, List.set_cons_succ, List.getElem_toArray, List.getElem_cons_succ, List.getElem_cons_zero]
          refine wpAnyH_done (by kernel_rfl) ?_ _
          have HKR := Lib.hid (HSE.out _ hS3)
          clear hS3 HSE HSI
          have HBu := Lib.hid (HKR.out.blk HBu.out id)
          have HBv := Lib.hid (HKR.out.blk HBv.out id)
          have HK := Lib.hid (HK.out.trans HKR.out)
          have HUu := Lib.hid (HUu.out.keep HKR.out fun _ _ => id)
          have HUv := Lib.hid (HUv.out.keep HKR.out fun _ _ => id)
          have HG := Lib.hid (HG.out.keep HKR.out)
          have HOa := Lib.hid (HKR.out.owns HOa.out fun _ _ => id)
          have HOb := Lib.hid (HKR.out.owns HOb.out fun _ _ => id)
          have HRA := Lib.hid (HRA.out.keep HKR.out fun _ _ => id)
          have HRB := Lib.hid (HRB.out.keep HKR.out fun _ _ => id)
          clear HRA HRB HTV HSV H0 H1
          obtain ⟨s, hs_⟩ : ∃ l, al.take tn ++ bl.drop tn = l := ⟨_, rfl⟩
          have HSS := Lib.hid hs_
          have hsl : s.length = 256 := by rw [← hs_, List.length_append, List.length_take, List.length_drop, HLA.out, HLB.out]; omega
          rw [hs_] at H2
          obtain ⟨gs, cs, hvs, hcs, hcsm⟩ := own256 H2.out rfl
          unfold maxLen at hcsm
          obtain ⟨rfl, rfl⟩ : x2 = some ⟨gs, 0, none⟩ ∧ c2 = cs := by cases hvs; exact ⟨rfl, rfl⟩
          have HOs := H2
          have HSL := Lib.hid hsl
          clear H2 hs_ hvs hsl
          go_wp2_with fail
          by_cases ea : s = al
          · refine (same_any wa _ _ s al (by rw [HSL.out]; exact Rd.of_owns HOs.out) (by rw [HLA.out]; exact Rd.of_owns HOa.out) true (decide_eq_true ea)).mono ?_
            rintro e wz ⟨rfl, hw_⟩
            subst hw_
            go_wp2_with fail
            go_ret
            exact ⟨rfl, HK.out⟩
          · refine (same_any wa _ _ s al (by rw [HSL.out]; exact Rd.of_owns HOs.out) (by rw [HLA.out]; exact Rd.of_owns HOa.out) false (decide_eq_false ea)).mono ?_
            rintro e wz ⟨rfl, hw_⟩
            subst hw_
            go_wp2_with fail
            by_cases eb : s = bl
            · refine (same_any wa _ _ s bl (by rw [HSL.out]; exact Rd.of_owns HOs.out) (by rw [HLB.out]; exact Rd.of_owns HOb.out) true (decide_eq_true eb)).mono ?_
              rintro e wz ⟨rfl, hw_⟩
              subst hw_
              go_wp2_with fail
              go_ret
              exact ⟨rfl, HK.out⟩
            · refine (same_any wa _ _ s bl (by rw [HSL.out]; exact Rd.of_owns HOs.out) (by rw [HLB.out]; exact Rd.of_owns HOb.out) false (decide_eq_false eb)).mono ?_
              rintro e wz ⟨rfl, hw_⟩
              subst hw_
              have HEA := Lib.hid ea; have HEB := Lib.hid eb
              clear ea eb
              go_wp2_with fail
              obtain ⟨s2, hs2⟩ : ∃ l, s.take 224 = l := ⟨_, rfl⟩
              obtain ⟨a2, ha2⟩ : ∃ l, al.take 224 = l := ⟨_, rfl⟩
              obtain ⟨b2, hb2⟩ : ∃ l, bl.take 224 = l := ⟨_, rfl⟩
              obtain ⟨d2, hd2⟩ : ∃ l, s.drop 224 = l := ⟨_, rfl⟩
              have HS2 := Lib.hid hs2; have HA2 := Lib.hid ha2; have HB2 := Lib.hid hb2; have HD2 := Lib.hid hd2
              have ls2 : s2.length = 224 := by rw [← hs2, List.length_take, HSL.out]; rfl
              have la2 : a2.length = 224 := by rw [← ha2, List.length_take, HLA.out]; rfl
              have lb2 : b2.length = 224 := by rw [← hb2, List.length_take, HLB.out]; rfl
              have ld2 : d2.length = 32 := by rw [← hd2, List.length_drop, HSL.out]
              have hr1 := (Rd.of_owns HOs.out).cut_to (k := 224) (by omega)
              have hr2 := (Rd.of_owns HOa.out).cut_to (k := 224) (by omega)
              have hr3 := (Rd.of_owns HOb.out).cut_to (k := 224) (by omega)
              have hr4 := (Rd.of_owns HOs.out).cut_from (k := 224) (by omega)
              rw [Nat.mul_one, ← List.map_take, hs2] at hr1
              rw [Nat.mul_one, ← List.map_take, ha2] at hr2
              rw [Nat.mul_one, ← List.map_take, hb2] at hr3
              rw [Nat.mul_one, ← List.map_drop, hd2] at hr4
              obtain ⟨sw, hsw⟩ : ∃ v, sliced (some ⟨gs, 0, none⟩) 224 256 c2 1 = v := ⟨_, rfl⟩
              have HSW : Hid (∀ w', (Instr.sliceAt 36 (.slice (some ⟨gs, 0, none⟩) 256 c2) (some (.int .i64 224)) none none).run Tryd.prog w' = .ok sw w') := Lib.hid (fun w' => by rw [← hsw]; exact run_cut_from Tryd.underlying36 _ 256 c2 224 (by omega) sizeOfU8 w')
              rw [hsw] at hr4
              obtain ⟨sx, sxc, hsf, -, -⟩ := hr4.form
              have hsf2 : sw = .slice sx 32 sxc := hsf
              clear hsf
              subst hsf2
              have HR1 := Lib.hid (show Rd wa 1 (.slice (some ⟨gs, 0, none⟩) 224 c2) s2.length (s2.map vb) by rw [ls2]; exact hr1)
              have HR2 := Lib.hid (show Rd wa 1 (.slice (some ⟨ga, 0, none⟩) 224 ca) a2.length (a2.map vb) by rw [la2]; exact hr2)
              have HR3 := Lib.hid (show Rd wa 1 (.slice (some ⟨gb, 0, none⟩) 224 256) b2.length (b2.map vb) by rw [lb2]; exact hr3)
              have HR4 := Lib.hid (show Rd wa 1 (.slice sx 32 sxc) d2.length (d2.map vb) by rw [ld2]; exact hr4)
              clear hr1 hr2 hr3 hr4 hsw hs2 ha2 hb2 hd2
              have HT1 : Hid (∀ w', (Instr.sliceAt 36 (.slice (some ⟨gs, 0, none⟩) 256 c2) none (some (.int .i64 224)) none).run Tryd.prog w' = .ok (.slice (some ⟨gs, 0, none⟩) 224 c2) w') := Lib.hid (fun w' => run_cut_to Tryd.underlying36 _ 256 c2 224 (by omega) sizeOfU8 w')
              have HT2 : Hid (∀ w', (Instr.sliceAt 36 (.slice (some ⟨ga, 0, none⟩) 256 ca) none (some (.int .i64 224)) none).run Tryd.prog w' = .ok (.slice (some ⟨ga, 0, none⟩) 224 ca) w') := Lib.hid (fun w' => run_cut_to Tryd.underlying36 _ 256 ca 224 (by omega) sizeOfU8 w')
              have HT3 : Hid (∀ w', (Instr.sliceAt 36 (.slice (some ⟨gb, 0, none⟩) 256 256) none (some (.int .i64 224)) none).run Tryd.prog w' = .ok (.slice (some ⟨gb, 0, none⟩) 224 256) w') := Lib.hid (fun w' => run_cut_to Tryd.underlying36 _ 256 256 224 (by omega) sizeOfU8 w')
              refine (rsum_any _ s2 wa HR1.out (by rw [ls2]; omega)).mono ?_
              rintro e wb ⟨rfl, hk⟩
              obtain ⟨dg, hdg⟩ : ∃ l, digest s2 = l := ⟨_, rfl⟩
              have HDG := Lib.hid hdg
              have hdl : dg.length = 32 := by rw [← hdg]; exact digest_length _
              rw [hdg]
              obtain ⟨dc, hdc⟩ : ∃ l, dg.map vb = l := ⟨_, rfl⟩
              have HDC := Lib.hid hdc
              have hdcl : dc.length = 32 := by rw [← hdc, List.length_map, hdl]
              have HDO := Lib.hid (show ∀ u ∈ dc, u.oneCell' = true by rw [← hdc]; exact oneCell_vb _)
              rw [hdc]
              clear hdg hdc
              have HBu := Lib.hid (hk.blk HBu.out id)
              have HBv := Lib.hid (hk.blk HBv.out id)
              have HK := Lib.hid (HK.out.trans hk)
              have HUu := Lib.hid (HUu.out.keep hk fun _ _ => id)
              have HUv := Lib.hid (HUv.out.keep hk fun _ _ => id)
              have HG := Lib.hid (HG.out.keep hk)
              have HOa := Lib.hid (hk.owns HOa.out fun _ _ => id)
              have HOb := Lib.hid (hk.owns HOb.out fun _ _ => id)
              have HOs := Lib.hid (hk.owns HOs.out fun _ _ => id)
              have HR1 := Lib.hid (HR1.out.keep hk fun _ _ => id)
              have HR2 := Lib.hid (HR2.out.keep hk fun _ _ => id)
              have HR3 := Lib.hid (HR3.out.keep hk fun _ _ => id)
              have HR4 := Lib.hid (HR4.out.keep hk fun _ _ => id)
              clear hk
              go_wp2_with (first
                | ((with_reducible show wpList _ _ _ (⟨_, .alloc 24, _, _, _, _⟩ :: _) _ _); refine wpList_alloc_at rfl 24 rfl zero32 zeroID (Array.replicate 32 (.int .u8 0)) rfl ?_)
                | ((with_reducible show wpList _ _ _ (⟨none, .store 24 (.tmp 15) (.tmp 82), _, _, _, _⟩ :: _) _ _)
                   refine wpList_store_agg rfl 24 (.tmp 15) (.tmp 82) rfl wb.heap.size 0 dc rfl rfl (Array.replicate 32 (.int .u8 0)) _ (heap_alloc_new _ _) (by rw [hdcl, Array.size_replicate]; exact Nat.le_refl _) (sizeIDL hdcl) HDO.out ?_
                   intro wc hb5 hk5
                   rw [spl_whole _ _ (by rw [hdcl, Array.size_replicate])] at hb5
                   have hkb : Keep noBlk wb wc := ((Keep.refl noBlk wb).alloc _).trans' hk5 (fun _ _ h => h.elim) (fun i hi e => by omega)
                   clear hk5
                   obtain ⟨b15, hb_⟩ : ∃ b, wb.heap.size = b := ⟨_, rfl⟩
                   rw [hb_] at hb5 ⊢
                   clear hb_
                   have HB15 := Lib.hid hb5; clear hb5))
              have HBu := Lib.hid (hkb.blk HBu.out id)
              have HBv := Lib.hid (hkb.blk HBv.out id)
              have HK := Lib.hid (HK.out.trans hkb)
              have HUu := Lib.hid (HUu.out.keep hkb fun _ _ => id)
              have HUv := Lib.hid (HUv.out.keep hkb fun _ _ => id)
              have HG := Lib.hid (HG.out.keep hkb)
              have HOa := Lib.hid (hkb.owns HOa.out fun _ _ => id)
              have HOb := Lib.hid (hkb.owns HOb.out fun _ _ => id)
              have HOs := Lib.hid (hkb.owns HOs.out fun _ _ => id)
              have HR1 := Lib.hid (HR1.out.keep hkb fun _ _ => id)
              have HR2 := Lib.hid (HR2.out.keep hkb fun _ _ => id)
              have HR3 := Lib.hid (HR3.out.keep hkb fun _ _ => id)
              have HR4 := Lib.hid (HR4.out.keep hkb fun _ _ => id)
              clear hkb
              by_cases e1 : s2 = a2
              · have C1 := Lib.hid (show ∀ wx, Keep noBlk wc wx → Calls Tryd.prog 13 #[.slice (some ⟨gs, 0, none⟩) 224 c2, .slice (some ⟨ga, 0, none⟩) 224 ca] wx (TherePost wx true) from fun wx k =>
                  (same_any wx _ _ s2 a2 (HR1.out.keep k fun _ _ => id) (HR2.out.keep k fun _ _ => id) true (decide_eq_true e1)).mono fun e w' ⟨h1, h2⟩ => ⟨h1, by rw [← h2]; exact Keep.refl _ _⟩)
                have HE1 := Lib.hid e1
                clear e1
                obtain ⟨S, hS0⟩ : ∃ S : World → Prop, S = fun w' => Keep noBlk wc w' := ⟨_, rfl⟩
                have HSE := Lib.hid (show ∀ w', S w' → Keep noBlk wc w' from fun w' h => by rw [hS0] at h; exact h)
                have HSI := Lib.hid (show ∀ w', Keep noBlk wc w' → S w' from fun w' h => by rw [hS0]; exact h)
                have hS : S wc.drew := by rw [hS0]; exact (Keep.refl _ _).drew
                clear hS0
                refine wp_region_held (S := S) (by kernel_rfl) ?_
                change wpAnyH _ _ _ _ _ _ _ _ wc.drew
                generalize wc.drew = wd at hS ⊢
                refine wpAnyH_take (i := 0) (v := .slice (some ⟨gs, 0, none⟩) 256 c2) rfl (by kernel_rfl) (by kernel_rfl) (by kernel_rfl) (fun _ _ _ h => h) (.inl ⟨by rfl, fun _ _ => rfl⟩) hS ?_
                simp only [Act.put, List.setIfInBounds_toArray, List.set_cons_zero, List.set_cons_succ, List.getElem_toArray, List.getElem_cons_succ, List.getElem_cons_zero]
                refine wpAnyH_take (i := 1) (v := .slice (some ⟨gs, 0, none⟩) 224 c2) rfl (by kernel_rfl) (by kernel_rfl) (by kernel_rfl) (fun _ _ _ h => h) (yieldsIf_slice (by rfl) 36 (.tmp 83) none (some (.const (.int .i64 224))) none rfl (.slice (some ⟨gs, 0, none⟩) 256 c2) none (some (.int .i64 224)) none rfl rfl rfl rfl HT1.out) hS ?_
                simp only [Act.put, List.setIfInBounds_toArray, List.set_cons_zero, List.set_cons_succ, List.getElem_toArray, List.getElem_cons_succ, List.getElem_cons_zero]
                refine wpAnyH_take (i := 2) (v := .slice (some ⟨ga, 0, none⟩) 256 ca) rfl (by kernel_rfl) (by kernel_rfl) (by kernel_rfl) (fun _ _ _ h => h) (.inl ⟨by rfl, fun _ _ => rfl⟩) hS ?_
                simp only [Act.put, List.setIfInBounds_toArray, List.set_cons_zero, List.set_cons_succ, List.getElem_toArray, List.getElem_cons_succ, List.getElem_cons_zero]
                refine wpAnyH_take (i := 3) (v := .slice (some ⟨ga, 0, none⟩) 224 ca) rfl (by kernel_rfl) (by kernel_rfl) (by kernel_rfl) (fun _ _ _ h => h) (yieldsIf_slice (by rfl) 36 (.tmp 85) none (some (.const (.int .i64 224))) none rfl (.slice (some ⟨ga, 0, none⟩) 256 ca) none (some (.int .i64 224)) none rfl rfl rfl rfl HT2.out) hS ?_
                simp only [Act.put, List.setIfInBounds_toArray, List.set_cons_zero, List.set_cons_succ, List.getElem_toArray, List.getElem_cons_succ, List.getElem_cons_zero]
                refine wpAnyH_one (k := 4) rfl (by kernel_rfl) ?_
                go_wp2_with fail
                refine (C1.out wd (HSE.out _ hS)).mono ?_
                rintro e we ⟨rfl, hk⟩
                have hS1 := HSI.out _ ((HSE.out _ hS).trans hk)
                clear hS hk
                go_wp2_with fail
                refine ⟨hS1, ?_⟩
                refine wpAnyH_take (i := 5) (v := .bool true) rfl (by kernel_rfl) (by kernel_rfl) (by kernel_rfl) (fun _ _ _ h => h) (.inl ⟨by rfl, fun _ _ => rfl⟩) hS1 ?_
                simp only [Act.put, List.setIfInBounds_toArray, List.set_cons_zero, List.set_cons_succ, List.getElem_toArray, List.getElem_cons_succ, List.getElem_cons_zero]
                refine wpAnyH_take (i := 6) (v := undef) rfl (by kernel_rfl) (by kernel_rfl) (by kernel_rfl) (fun _ _ _ h => h) (.inr ⟨by rfl, rfl⟩) hS1 ?_
                simp only [Act.put, List.setIfInBounds_toArray, List.set_cons_zero, List.set_cons_succ, List.getElem_toArray, List.getElem_cons_succ, List.getElem_cons_zero]
                refine wpAnyH_take (i := 7) (v := undef) rfl (by kernel_rfl) (by kernel_rfl) (by kernel_rfl) (fun _ _ _ h => h) (.inr ⟨by rfl, rfl⟩) hS1 ?_
                simp only [Act.put, List.setIfInBounds_toArray, List.set_cons_zero, List.set_cons_succ, List.getElem_toArray, List.getElem_cons_succ, List.getElem_cons_zero]
                refine wpAnyH_take (i := 8) (v := undef) rfl (by kernel_rfl) (by kernel_rfl) (by kernel_rfl) (fun _ _ _ h => h) (.inr ⟨by rfl, rfl⟩) hS1 ?_
                simp only [Act.put, List.setIfInBounds_toArray, List.set_cons_zero, List.set_cons_succ, List.getElem_toArray, List.getElem_cons_succ, List.getElem_cons_zero]
                refine wpAnyH_take (i := 9) (v := undef) rfl (by kernel_rfl) (by kernel_rfl) (by kernel_rfl) (fun _ _ _ h => h) (.inr ⟨by rfl, rfl⟩) hS1 ?_
                simp only [Act.put, List.setIfInBounds_toArray, List.set_cons_zero, List.set_cons_succ, List.getElem_toArray, List.getElem_cons_succ, List.getElem_cons_zero]
                refine wpAnyH_take (i := 10) (v := undef) rfl (by kernel_rfl) (by kernel_rfl) (by kernel_rfl) (fun _ _ _ h => h) (.inr ⟨by rfl, rfl⟩) hS1 ?_
                simp only [Act.put, List.setIfInBounds_toArray, List.set_cons_zero, List.set_cons_succ, List.getElem_toArray, List.getElem_cons_succ, List.getElem_cons_zero]
                refine wpAnyH_take (i := 11) (v := .bool true) rfl (by kernel_rfl) (by kernel_rfl) (by kernel_rfl) (fun _ _ _ h => h) (.inl ⟨by rfl, fun _ _ => rfl⟩) hS1 ?_
                simp only [Act.put, List.setIfInBounds_toArray, List.set_cons_zero, List.set_cons_succ, List.getElem_toArray, List.getElem_cons_succ, List.getElem_cons_zero]
                refine wpAnyH_take (i := 12) (v := .bool true) rfl (by kernel_rfl) (by kernel_rfl) (by kernel_rfl) (fun _ _ _ h => h) (.inl ⟨by rfl, fun _ _ => rfl⟩) hS1 ?_
                simp only [Act.put, List.setIfInBounds_toArray, List.set_cons_zero, List.set_cons_succ, List.getElem_toArray, List.getElem_cons_succ, List.getElem_cons_zero]
                refine wpAnyH_done (by kernel_rfl) ?_ _
                have HKR := Lib.hid (HSE.out _ hS1)
                clear hS1 HSE HSI
                have HBu := Lib.hid (HKR.out.blk HBu.out id)
                have HBv := Lib.hid (HKR.out.blk HBv.out id)
                have HK := Lib.hid (HK.out.trans HKR.out)
                have HUu := Lib.hid (HUu.out.keep HKR.out fun _ _ => id)
                have HUv := Lib.hid (HUv.out.keep HKR.out fun _ _ => id)
                have HG := Lib.hid (HG.out.keep HKR.out)
                have HOa := Lib.hid (HKR.out.owns HOa.out fun _ _ => id)
                have HOb := Lib.hid (HKR.out.owns HOb.out fun _ _ => id)
                have HOs := Lib.hid (HKR.out.owns HOs.out fun _ _ => id)
                have HR1 := Lib.hid (HR1.out.keep HKR.out fun _ _ => id)
                have HR2 := Lib.hid (HR2.out.keep HKR.out fun _ _ => id)
                have HR3 := Lib.hid (HR3.out.keep HKR.out fun _ _ => id)
                have HR4 := Lib.hid (HR4.out.keep HKR.out fun _ _ => id)
                have HB15 := Lib.hid (HKR.out.blk HB15.out id)
                go_wp2_with fail
                clear HKR
                obtain ⟨S, hS0⟩ : ∃ S : World → Prop, S = fun w' => Keep noBlk we w' := ⟨_, rfl⟩
                have HSE := Lib.hid (show ∀ w', S w' → Keep noBlk we w' from fun w' h => by rw [hS0] at h; exact h)
                have HSI := Lib.hid (show ∀ w', Keep noBlk we w' → S w' from fun w' h => by rw [hS0]; exact h)
                have hS : S we.drew := by rw [hS0]; exact (Keep.refl _ _).drew
                clear hS0
                refine wp_region_held (S := S) (by kernel_rfl) ?_
                change wpAnyH _ _ _ _ _ _ _ _ we.drew
                generalize we.drew = wf at hS ⊢
                refine wpAnyH_take (i := 0) (v := .bool true) rfl (by kernel_rfl) (by kernel_rfl) (by kernel_rfl) (fun _ _ _ h => h) (.inl ⟨by rfl, fun _ _ => rfl⟩) hS ?_
                simp only [Act.put, List.setIfInBounds_toArray, List.set_cons_zero, List.set_cons_succ, List.getElem_toArray, List.getElem_cons_succ, List.getElem_cons_zero]
                refine wpAnyH_take (i := 1) (v := .bool false) rfl (by kernel_rfl) (by kernel_rfl) (by kernel_rfl) (fun _ _ _ h => h) (.inl ⟨by rfl, fun _ _ => by go_simp⟩) hS ?_
                simp only [Act.put, List.setIfInBounds_toArray, List.set_cons_zero, List.set_cons_succ, List.getElem_toArray, List.getElem_cons_succ, List.getElem_cons_zero]
                refine wpAnyH_take (i := 2) (v := .bool false) rfl (by kernel_rfl) (by kernel_rfl) (by kernel_rfl) (fun _ _ _ h => h) (.inl ⟨by rfl, fun _ _ => rfl⟩) hS ?_
                simp only [Act.put, List.setIfInBounds_toArray, List.set_cons_zero, List.set_cons_succ, List.getElem_toArray, List.getElem_cons_succ, List.getElem_cons_zero]
                refine wpAnyH_take (i := 3) (v := undef) rfl (by kernel_rfl) (by kernel_rfl) (by kernel_rfl) (fun _ _ _ h => h) (.inr ⟨by rfl, rfl⟩) hS ?_
                simp only [Act.put, List.setIfInBounds_toArray, List.set_cons_zero, List.set_cons_succ, List.getElem_toArray, List.getElem_cons_succ, List.getElem_cons_zero]
                refine wpAnyH_take (i := 4) (v := undef) rfl (by kernel_rfl) (by kernel_rfl) (by kernel_rfl) (fun _ _ _ h => h) (.inr ⟨by rfl, rfl⟩) hS ?_
                simp only [Act.put, List.setIfInBounds_toArray, List.set_cons_zero, List.set_cons_succ, List.getElem_toArray, List.getElem_cons_succ, List.getElem_cons_zero]
                refine wpAnyH_take (i := 5) (v := undef) rfl (by kernel_rfl) (by kernel_rfl) (by kernel_rfl) (fun _ _ _ h => h) (.inr ⟨by rfl, rfl⟩) hS ?_
                simp only [Act.put, List.setIfInBounds_toArray, List.set_cons_zero, List.set_cons_succ, List.getElem_toArray, List.getElem_cons_succ, List.getElem_cons_zero]
                refine wpAnyH_take (i := 6) (v := undef) rfl (by kernel_rfl) (by kernel_rfl) (by kernel_rfl) (fun _ _ _ h => h) (.inr ⟨by rfl, rfl⟩) hS ?_
                simp only [Act.put, List.setIfInBounds_toArray, List.set_cons_zero, List.set_cons_succ, List.getElem_toArray, List.getElem_cons_succ, List.getElem_cons_zero]
                refine wpAnyH_take (i := 7) (v := undef) rfl (by kernel_rfl) (by kernel_rfl) (by kernel_rfl) (fun _ _ _ h => h) (.inr ⟨by rfl, rfl⟩) hS ?_
                simp only [Act.put, List.setIfInBounds_toArray, List.set_cons_zero, List.set_cons_succ, List.getElem_toArray, List.getElem_cons_succ, List.getElem_cons_zero]
                refine wpAnyH_take (i := 8) (v := undef) rfl (by kernel_rfl) (by kernel_rfl) (by kernel_rfl) (fun _ _ _ h => h) (.inr ⟨by rfl, rfl⟩) hS ?_
                simp only [Act.put, List.setIfInBounds_toArray, List.set_cons_zero, List.set_cons_succ, List.getElem_toArray, List.getElem_cons_succ, List.getElem_cons_zero]
                refine wpAnyH_take (i := 9) (v := .bool false) rfl (by kernel_rfl) (by kernel_rfl) (by kernel_rfl) (fun _ _ _ h => h) (.inl ⟨by rfl, fun _ _ => rfl⟩) hS ?_
                simp only [Act.put, List.setIfInBounds_toArray, List.set_cons_zero, List.set_cons_succ, List.getElem_toArray, List.getElem_cons_succ, List.getElem_cons_zero]
                refine wpAnyH_done (by kernel_rfl) ?_ _
                have HKR := Lib.hid (HSE.out _ hS)
                clear hS HSE HSI
                have HBu := Lib.hid (HKR.out.blk HBu.out id)
                have HBv := Lib.hid (HKR.out.blk HBv.out id)
                have HK := Lib.hid (HK.out.trans HKR.out)
                have HUu := Lib.hid (HUu.out.keep HKR.out fun _ _ => id)
                have HUv := Lib.hid (HUv.out.keep HKR.out fun _ _ => id)
                have HG := Lib.hid (HG.out.keep HKR.out)
                have HOa := Lib.hid (HKR.out.owns HOa.out fun _ _ => id)
                have HOb := Lib.hid (HKR.out.owns HOb.out fun _ _ => id)
                have HOs := Lib.hid (HKR.out.owns HOs.out fun _ _ => id)
                have HR1 := Lib.hid (HR1.out.keep HKR.out fun _ _ => id)
                have HR2 := Lib.hid (HR2.out.keep HKR.out fun _ _ => id)
                have HR3 := Lib.hid (HR3.out.keep HKR.out fun _ _ => id)
                have HR4 := Lib.hid (HR4.out.keep HKR.out fun _ _ => id)
                have HB15 := Lib.hid (HKR.out.blk HB15.out id)
                go_wp2_with fail
                clear HKR
                have et : unpackU s = (zUb, 11) := torn_plain HUu.out.pool HUu.out.root.sum HMU.out HBL.out htl (by rw [HAL.out]; exact HSS.out.symm) (by rw [HAL.out]; exact HEA.out) HEB.out (fun h => absurd (show s.take 224 = (packU U).take 224 by rw [HS2.out, HAL.out, HA2.out]; exact HE1.out) h)
                have ET := Lib.hid et
                clear et
                go_wp2_with fail
                refine ((uunpack_any wf aF aR HG.out _ s (by rw [HSL.out]; exact Rd.of_owns HOs.out) (by rw [HSL.out]; omega)).mono fun e w' h => UUnpackPost.V h).mono ?_
                rintro e wg ⟨vm, rfl, hu_, ho_, hk⟩
                rw [ET.out] at hu_ ⊢
                clear ho_
                have HBu := Lib.hid (hk.blk HBu.out id)
                have HBv := Lib.hid (hk.blk HBv.out id)
                have HK := Lib.hid (HK.out.trans hk)
                have HUu := Lib.hid (HUu.out.keep hk fun _ _ => id)
                have HUv := Lib.hid (HUv.out.keep hk fun _ _ => id)
                have HG := Lib.hid (HG.out.keep hk)
                have HOa := Lib.hid (hk.owns HOa.out fun _ _ => id)
                have HOb := Lib.hid (hk.owns HOb.out fun _ _ => id)
                have HOs := Lib.hid (hk.owns HOs.out fun _ _ => id)
                have HR1 := Lib.hid (HR1.out.keep hk fun _ _ => id)
                have HR2 := Lib.hid (HR2.out.keep hk fun _ _ => id)
                have HR3 := Lib.hid (HR3.out.keep hk fun _ _ => id)
                have HR4 := Lib.hid (HR4.out.keep hk fun _ _ => id)
                have HB15 := Lib.hid (hk.blk HB15.out id)
                clear hk
                have hu2 : UbV wg vm zUb := hu_
                clear hu_
                obtain ⟨am, cm, hv_, -, -⟩ := hu2.root.rd.form
                have hv2_ : vm = .slice am (zUb).root.addrs.length cm := hv_
                clear hv_
                subst hv2_
                have hlm := ubCs_len (v := .slice am (zUb).root.addrs.length cm) hu2.root.sum hu2.pool
                have HCm := Lib.hid (oneCell_ub (oa := am) (n := (zUb).root.addrs.length) (ca := cm) (zUb))
                have HUm := Lib.hid hu2
                obtain ⟨lcm, hlcm⟩ : ∃ x, ubCs (.slice am (zUb).root.addrs.length cm) (zUb) = x := ⟨_, rfl⟩
                rw [hlcm] at hlm HCm
                try rw [hlcm]
                have HLCm := Lib.hid hlcm
                clear hlcm
                clear hu2
                try rw [show (zUb, (11 : Int)).1 = zUb from rfl]
                try rw [HLCm.out]
                go_wp2_with (first
                  | ((with_reducible show wpList _ _ _ (⟨_, .alloc 28, _, _, _, _⟩ :: _) _ _); refine wpList_alloc_at rfl 28 rfl _ HZV.out zc.toArray rfl ?_)
                  | ((with_reducible show wpList _ _ _ (⟨none, .store 28 (.tmp 17) (.tmp 109), _, _, _, _⟩ :: _) _ _)
                     refine wpList_store_agg rfl 28 (.tmp 17) (.tmp 109) rfl wg.heap.size 0 lcm rfl rfl zc.toArray _ (heap_alloc_new _ _) (by rw [hlm, List.size_toArray, hzl]; exact Nat.le_refl _) (sizeUbL hlm) HCm.out ?_
                     intro wh hb5 hk5
                     rw [spl_whole _ _ (by rw [hlm, List.size_toArray, hzl])] at hb5
                     have hkb : Keep noBlk wg wh := ((Keep.refl noBlk wg).alloc _).trans' hk5 (fun _ _ h => h.elim) (fun i hi e => by omega)
                     clear hk5
                     obtain ⟨bm, hb_⟩ : ∃ b, wg.heap.size = b := ⟨_, rfl⟩
                     rw [hb_] at hb5 ⊢
                     have HBSm := Lib.hid hb_; clear hb_
                     have HBm := Lib.hid hb5; clear hb5)
                  | ((with_reducible show wpList _ _ _ (⟨_, .load 28 (.tmp 17), _, _, _, _⟩ :: _) _ _); refine wpList_load_g (by rfl) 28 (.tmp 17) rfl bm 0 rfl lcm _ (rangeAt_whole HBm.out) ubUnder rfl (sizeUbL hlm) ?_))
                have HBu := Lib.hid (hkb.blk HBu.out id)
                have HBv := Lib.hid (hkb.blk HBv.out id)
                have HK := Lib.hid (HK.out.trans hkb)
                have HUu := Lib.hid (HUu.out.keep hkb fun _ _ => id)
                have HUv := Lib.hid (HUv.out.keep hkb fun _ _ => id)
                have HG := Lib.hid (HG.out.keep hkb)
                have HOa := Lib.hid (hkb.owns HOa.out fun _ _ => id)
                have HOb := Lib.hid (hkb.owns HOb.out fun _ _ => id)
                have HOs := Lib.hid (hkb.owns HOs.out fun _ _ => id)
                have HR1 := Lib.hid (HR1.out.keep hkb fun _ _ => id)
                have HR2 := Lib.hid (HR2.out.keep hkb fun _ _ => id)
                have HR3 := Lib.hid (HR3.out.keep hkb fun _ _ => id)
                have HR4 := Lib.hid (HR4.out.keep hkb fun _ _ => id)
                have HB15 := Lib.hid (hkb.blk HB15.out id)
                have HUm := Lib.hid (HUm.out.keep hkb fun _ _ => id)
                clear hkb
                have CC : Calls Tryd.prog 12 #[.agg lcm.toArray, .agg Tryd.zeroCells28] wh (TherePost wh true) := by
                  have h := kitU_any wh _ _ zUb zUb HUm.out (ubV_flat wh 0 0)
                  rw [eqB_refl] at h
                  rw [← HLCm.out, zeroUbCells]
                  exact h
                refine CC.mono ?_
                clear CC
                rintro e wi ⟨rfl, hk⟩
                have HBu := Lib.hid (hk.blk HBu.out id)
                have HBv := Lib.hid (hk.blk HBv.out id)
                have HK := Lib.hid (HK.out.trans hk)
                have HUu := Lib.hid (HUu.out.keep hk fun _ _ => id)
                have HUv := Lib.hid (HUv.out.keep hk fun _ _ => id)
                have HG := Lib.hid (HG.out.keep hk)
                have HOa := Lib.hid (hk.owns HOa.out fun _ _ => id)
                have HOb := Lib.hid (hk.owns HOb.out fun _ _ => id)
                have HOs := Lib.hid (hk.owns HOs.out fun _ _ => id)
                have HR1 := Lib.hid (HR1.out.keep hk fun _ _ => id)
                have HR2 := Lib.hid (HR2.out.keep hk fun _ _ => id)
                have HR3 := Lib.hid (HR3.out.keep hk fun _ _ => id)
                have HR4 := Lib.hid (HR4.out.keep hk fun _ _ => id)
                have HB15 := Lib.hid (hk.blk HB15.out id)
                have HUm := Lib.hid (HUm.out.keep hk fun _ _ => id)
                have HBm := Lib.hid (hk.blk HBm.out id)
                clear hk
                go_wp2_with fail
                go_ret
                exact ⟨rfl, HK.out⟩
              · by_cases e2 : s2 = b2
                · have C1 := Lib.hid (show ∀ wx, Keep noBlk wc wx → Calls Tryd.prog 13 #[.slice (some ⟨gs, 0, none⟩) 224 c2, .slice (some ⟨ga, 0, none⟩) 224 ca] wx (TherePost wx false) from fun wx k =>
                    (same_any wx _ _ s2 a2 (HR1.out.keep k fun _ _ => id) (HR2.out.keep k fun _ _ => id) false (decide_eq_false e1)).mono fun e w' ⟨h1, h2⟩ => ⟨h1, by rw [← h2]; exact Keep.refl _ _⟩)
                  have C2 := Lib.hid (show ∀ wx, Keep noBlk wc wx → Calls Tryd.prog 13 #[.slice (some ⟨gs, 0, none⟩) 224 c2, .slice (some ⟨gb, 0, none⟩) 224 256] wx (TherePost wx true) from fun wx k =>
                    (same_any wx _ _ s2 b2 (HR1.out.keep k fun _ _ => id) (HR3.out.keep k fun _ _ => id) true (decide_eq_true e2)).mono fun e w' ⟨h1, h2⟩ => ⟨h1, by rw [← h2]; exact Keep.refl _ _⟩)
                  have HE1 := Lib.hid e1
                  clear e1
                  have HE2 := Lib.hid e2
                  clear e2
                  obtain ⟨S, hS0⟩ : ∃ S : World → Prop, S = fun w' => Keep noBlk wc w' := ⟨_, rfl⟩
                  have HSE := Lib.hid (show ∀ w', S w' → Keep noBlk wc w' from fun w' h => by rw [hS0] at h; exact h)
                  have HSI := Lib.hid (show ∀ w', Keep noBlk wc w' → S w' from fun w' h => by rw [hS0]; exact h)
                  have hS : S wc.drew := by rw [hS0]; exact (Keep.refl _ _).drew
                  clear hS0
                  refine wp_region_held (S := S) (by kernel_rfl) ?_
                  change wpAnyH _ _ _ _ _ _ _ _ wc.drew
                  generalize wc.drew = wd at hS ⊢
                  refine wpAnyH_take (i := 0) (v := .slice (some ⟨gs, 0, none⟩) 256 c2) rfl (by kernel_rfl) (by kernel_rfl) (by kernel_rfl) (fun _ _ _ h => h) (.inl ⟨by rfl, fun _ _ => rfl⟩) hS ?_
                  simp only [Act.put, List.setIfInBounds_toArray, List.set_cons_zero, List.set_cons_succ, List.getElem_toArray, List.getElem_cons_succ, List.getElem_cons_zero]
                  refine wpAnyH_take (i := 1) (v := .slice (some ⟨gs, 0, none⟩) 224 c2) rfl (by kernel_rfl) (by kernel_rfl) (by kernel_rfl) (fun _ _ _ h => h) (yieldsIf_slice (by rfl) 36 (.tmp 83) none (some (.const (.int .i64 224))) none rfl (.slice (some ⟨gs, 0, none⟩) 256 c2) none (some (.int .i64 224)) none rfl rfl rfl rfl HT1.out) hS ?_
                  simp only [Act.put, List.setIfInBounds_toArray, List.set_cons_zero, List.set_cons_succ, List.getElem_toArray, List.getElem_cons_succ, List.getElem_cons_zero]
                  refine wpAnyH_take (i := 2) (v := .slice (some ⟨ga, 0, none⟩) 256 ca) rfl (by kernel_rfl) (by kernel_rfl) (by kernel_rfl) (fun _ _ _ h => h) (.inl ⟨by rfl, fun _ _ => rfl⟩) hS ?_
                  simp only [Act.put, List.setIfInBounds_toArray, List.set_cons_zero, List.set_cons_succ, List.getElem_toArray, List.getElem_cons_succ, List.getElem_cons_zero]
                  refine wpAnyH_take (i := 3) (v := .slice (some ⟨ga, 0, none⟩) 224 ca) rfl (by kernel_rfl) (by kernel_rfl) (by kernel_rfl) (fun _ _ _ h => h) (yieldsIf_slice (by rfl) 36 (.tmp 85) none (some (.const (.int .i64 224))) none rfl (.slice (some ⟨ga, 0, none⟩) 256 ca) none (some (.int .i64 224)) none rfl rfl rfl rfl HT2.out) hS ?_
                  simp only [Act.put, List.setIfInBounds_toArray, List.set_cons_zero, List.set_cons_succ, List.getElem_toArray, List.getElem_cons_succ, List.getElem_cons_zero]
                  refine wpAnyH_one (k := 4) rfl (by kernel_rfl) ?_
                  go_wp2_with fail
                  refine (C1.out wd (HSE.out _ hS)).mono ?_
                  rintro e we ⟨rfl, hk⟩
                  have hS1 := HSI.out _ ((HSE.out _ hS).trans hk)
                  clear hS hk
                  go_wp2_with fail
                  refine ⟨hS1, ?_⟩
                  refine wpAnyH_take (i := 5) (v := .bool false) rfl (by kernel_rfl) (by kernel_rfl) (by kernel_rfl) (fun _ _ _ h => h) (.inl ⟨by rfl, fun _ _ => rfl⟩) hS1 ?_
                  simp only [Act.put, List.setIfInBounds_toArray, List.set_cons_zero, List.set_cons_succ, List.getElem_toArray, List.getElem_cons_succ, List.getElem_cons_zero]
                  refine wpAnyH_take (i := 6) (v := .slice (some ⟨gs, 0, none⟩) 256 c2) rfl (by kernel_rfl) (by kernel_rfl) (by kernel_rfl) (fun _ _ _ h => h) (.inl ⟨by rfl, fun _ _ => rfl⟩) hS1 ?_
                  simp only [Act.put, List.setIfInBounds_toArray, List.set_cons_zero, List.set_cons_succ, List.getElem_toArray, List.getElem_cons_succ, List.getElem_cons_zero]
                  refine wpAnyH_take (i := 7) (v := .slice (some ⟨gs, 0, none⟩) 224 c2) rfl (by kernel_rfl) (by kernel_rfl) (by kernel_rfl) (fun _ _ _ h => h) (yieldsIf_slice (by rfl) 36 (.tmp 89) none (some (.const (.int .i64 224))) none rfl (.slice (some ⟨gs, 0, none⟩) 256 c2) none (some (.int .i64 224)) none rfl rfl rfl rfl HT1.out) hS1 ?_
                  simp only [Act.put, List.setIfInBounds_toArray, List.set_cons_zero, List.set_cons_succ, List.getElem_toArray, List.getElem_cons_succ, List.getElem_cons_zero]
                  refine wpAnyH_take (i := 8) (v := .slice (some ⟨gb, 0, none⟩) 256 256) rfl (by kernel_rfl) (by kernel_rfl) (by kernel_rfl) (fun _ _ _ h => h) (.inl ⟨by rfl, fun _ _ => rfl⟩) hS1 ?_
                  simp only [Act.put, List.setIfInBounds_toArray, List.set_cons_zero, List.set_cons_succ, List.getElem_toArray, List.getElem_cons_succ, List.getElem_cons_zero]
                  refine wpAnyH_take (i := 9) (v := .slice (some ⟨gb, 0, none⟩) 224 256) rfl (by kernel_rfl) (by kernel_rfl) (by kernel_rfl) (fun _ _ _ h => h) (yieldsIf_slice (by rfl) 36 (.tmp 91) none (some (.const (.int .i64 224))) none rfl (.slice (some ⟨gb, 0, none⟩) 256 256) none (some (.int .i64 224)) none rfl rfl rfl rfl HT3.out) hS1 ?_
                  simp only [Act.put, List.setIfInBounds_toArray, List.set_cons_zero, List.set_cons_succ, List.getElem_toArray, List.getElem_cons_succ, List.getElem_cons_zero]
                  refine wpAnyH_one (k := 10) rfl (by kernel_rfl) ?_
                  go_wp2_with fail
                  refine (C2.out we (HSE.out _ hS1)).mono ?_
                  rintro e wf ⟨rfl, hk⟩
                  have hS2 := HSI.out _ ((HSE.out _ hS1).trans hk)
                  clear hS1 hk
                  go_wp2_with fail
                  refine ⟨hS2, ?_⟩
                  refine wpAnyH_take (i := 11) (v := .bool true) rfl (by kernel_rfl) (by kernel_rfl) (by kernel_rfl) (fun _ _ _ h => h) (.inl ⟨by rfl, fun _ _ => rfl⟩) hS2 ?_
                  simp only [Act.put, List.setIfInBounds_toArray, List.set_cons_zero, List.set_cons_succ, List.getElem_toArray, List.getElem_cons_succ, List.getElem_cons_zero]
                  refine wpAnyH_take (i := 12) (v := .bool true) rfl (by kernel_rfl) (by kernel_rfl) (by kernel_rfl) (fun _ _ _ h => h) (.inl ⟨by rfl, fun _ _ => rfl⟩) hS2 ?_
                  simp only [Act.put, List.setIfInBounds_toArray, List.set_cons_zero, List.set_cons_succ, List.getElem_toArray, List.getElem_cons_succ, List.getElem_cons_zero]
                  refine wpAnyH_done (by kernel_rfl) ?_ _
                  have HKR := Lib.hid (HSE.out _ hS2)
                  clear hS2 HSE HSI
                  have HBu := Lib.hid (HKR.out.blk HBu.out id)
                  have HBv := Lib.hid (HKR.out.blk HBv.out id)
                  have HK := Lib.hid (HK.out.trans HKR.out)
                  have HUu := Lib.hid (HUu.out.keep HKR.out fun _ _ => id)
                  have HUv := Lib.hid (HUv.out.keep HKR.out fun _ _ => id)
                  have HG := Lib.hid (HG.out.keep HKR.out)
                  have HOa := Lib.hid (HKR.out.owns HOa.out fun _ _ => id)
                  have HOb := Lib.hid (HKR.out.owns HOb.out fun _ _ => id)
                  have HOs := Lib.hid (HKR.out.owns HOs.out fun _ _ => id)
                  have HR1 := Lib.hid (HR1.out.keep HKR.out fun _ _ => id)
                  have HR2 := Lib.hid (HR2.out.keep HKR.out fun _ _ => id)
                  have HR3 := Lib.hid (HR3.out.keep HKR.out fun _ _ => id)
                  have HR4 := Lib.hid (HR4.out.keep HKR.out fun _ _ => id)
                  have HB15 := Lib.hid (HKR.out.blk HB15.out id)
                  go_wp2_with fail
                  clear HKR
                  obtain ⟨S, hS0⟩ : ∃ S : World → Prop, S = fun w' => Keep noBlk wf w' := ⟨_, rfl⟩
                  have HSE := Lib.hid (show ∀ w', S w' → Keep noBlk wf w' from fun w' h => by rw [hS0] at h; exact h)
                  have HSI := Lib.hid (show ∀ w', Keep noBlk wf w' → S w' from fun w' h => by rw [hS0]; exact h)
                  have hS : S wf.drew := by rw [hS0]; exact (Keep.refl _ _).drew
                  clear hS0
                  refine wp_region_held (S := S) (by kernel_rfl) ?_
                  change wpAnyH _ _ _ _ _ _ _ _ wf.drew
                  generalize wf.drew = wg at hS ⊢
                  refine wpAnyH_take (i := 0) (v := .bool true) rfl (by kernel_rfl) (by kernel_rfl) (by kernel_rfl) (fun _ _ _ h => h) (.inl ⟨by rfl, fun _ _ => rfl⟩) hS ?_
                  simp only [Act.put, List.setIfInBounds_toArray, List.set_cons_zero, List.set_cons_succ, List.getElem_toArray, List.getElem_cons_succ, List.getElem_cons_zero]
                  refine wpAnyH_take (i := 1) (v := .bool false) rfl (by kernel_rfl) (by kernel_rfl) (by kernel_rfl) (fun _ _ _ h => h) (.inl ⟨by rfl, fun _ _ => by go_simp⟩) hS ?_
                  simp only [Act.put, List.setIfInBounds_toArray, List.set_cons_zero, List.set_cons_succ, List.getElem_toArray, List.getElem_cons_succ, List.getElem_cons_zero]
                  refine wpAnyH_take (i := 2) (v := .bool false) rfl (by kernel_rfl) (by kernel_rfl) (by kernel_rfl) (fun _ _ _ h => h) (.inl ⟨by rfl, fun _ _ => rfl⟩) hS ?_
                  simp only [Act.put, List.setIfInBounds_toArray, List.set_cons_zero, List.set_cons_succ, List.getElem_toArray, List.getElem_cons_succ, List.getElem_cons_zero]
                  refine wpAnyH_take (i := 3) (v := undef) rfl (by kernel_rfl) (by kernel_rfl) (by kernel_rfl) (fun _ _ _ h => h) (.inr ⟨by rfl, rfl⟩) hS ?_
                  simp only [Act.put, List.setIfInBounds_toArray, List.set_cons_zero, List.set_cons_succ, List.getElem_toArray, List.getElem_cons_succ, List.getElem_cons_zero]
                  refine wpAnyH_take (i := 4) (v := undef) rfl (by kernel_rfl) (by kernel_rfl) (by kernel_rfl) (fun _ _ _ h => h) (.inr ⟨by rfl, rfl⟩) hS ?_
                  simp only [Act.put, List.setIfInBounds_toArray, List.set_cons_zero, List.set_cons_succ, List.getElem_toArray, List.getElem_cons_succ, List.getElem_cons_zero]
                  refine wpAnyH_take (i := 5) (v := undef) rfl (by kernel_rfl) (by kernel_rfl) (by kernel_rfl) (fun _ _ _ h => h) (.inr ⟨by rfl, rfl⟩) hS ?_
                  simp only [Act.put, List.setIfInBounds_toArray, List.set_cons_zero, List.set_cons_succ, List.getElem_toArray, List.getElem_cons_succ, List.getElem_cons_zero]
                  refine wpAnyH_take (i := 6) (v := undef) rfl (by kernel_rfl) (by kernel_rfl) (by kernel_rfl) (fun _ _ _ h => h) (.inr ⟨by rfl, rfl⟩) hS ?_
                  simp only [Act.put, List.setIfInBounds_toArray, List.set_cons_zero, List.set_cons_succ, List.getElem_toArray, List.getElem_cons_succ, List.getElem_cons_zero]
                  refine wpAnyH_take (i := 7) (v := undef) rfl (by kernel_rfl) (by kernel_rfl) (by kernel_rfl) (fun _ _ _ h => h) (.inr ⟨by rfl, rfl⟩) hS ?_
                  simp only [Act.put, List.setIfInBounds_toArray, List.set_cons_zero, List.set_cons_succ, List.getElem_toArray, List.getElem_cons_succ, List.getElem_cons_zero]
                  refine wpAnyH_take (i := 8) (v := undef) rfl (by kernel_rfl) (by kernel_rfl) (by kernel_rfl) (fun _ _ _ h => h) (.inr ⟨by rfl, rfl⟩) hS ?_
                  simp only [Act.put, List.setIfInBounds_toArray, List.set_cons_zero, List.set_cons_succ, List.getElem_toArray, List.getElem_cons_succ, List.getElem_cons_zero]
                  refine wpAnyH_take (i := 9) (v := .bool false) rfl (by kernel_rfl) (by kernel_rfl) (by kernel_rfl) (fun _ _ _ h => h) (.inl ⟨by rfl, fun _ _ => rfl⟩) hS ?_
                  simp only [Act.put, List.setIfInBounds_toArray, List.set_cons_zero, List.set_cons_succ, List.getElem_toArray, List.getElem_cons_succ, List.getElem_cons_zero]
                  refine wpAnyH_done (by kernel_rfl) ?_ _
                  have HKR := Lib.hid (HSE.out _ hS)
                  clear hS HSE HSI
                  have HBu := Lib.hid (HKR.out.blk HBu.out id)
                  have HBv := Lib.hid (HKR.out.blk HBv.out id)
                  have HK := Lib.hid (HK.out.trans HKR.out)
                  have HUu := Lib.hid (HUu.out.keep HKR.out fun _ _ => id)
                  have HUv := Lib.hid (HUv.out.keep HKR.out fun _ _ => id)
                  have HG := Lib.hid (HG.out.keep HKR.out)
                  have HOa := Lib.hid (HKR.out.owns HOa.out fun _ _ => id)
                  have HOb := Lib.hid (HKR.out.owns HOb.out fun _ _ => id)
                  have HOs := Lib.hid (HKR.out.owns HOs.out fun _ _ => id)
                  have HR1 := Lib.hid (HR1.out.keep HKR.out fun _ _ => id)
                  have HR2 := Lib.hid (HR2.out.keep HKR.out fun _ _ => id)
                  have HR3 := Lib.hid (HR3.out.keep HKR.out fun _ _ => id)
                  have HR4 := Lib.hid (HR4.out.keep HKR.out fun _ _ => id)
                  have HB15 := Lib.hid (HKR.out.blk HB15.out id)
                  go_wp2_with fail
                  clear HKR
                  have et : unpackU s = (zUb, 11) := torn_plain HUu.out.pool HUu.out.root.sum HMU.out HBL.out htl (by rw [HAL.out]; exact HSS.out.symm) (by rw [HAL.out]; exact HEA.out) HEB.out (fun _ h => absurd (show s.take 224 = bl.take 224 by rw [HS2.out, HB2.out]; exact HE2.out) h)
                  have ET := Lib.hid et
                  clear et
                  go_wp2_with fail
                  refine ((uunpack_any wg aF aR HG.out _ s (by rw [HSL.out]; exact Rd.of_owns HOs.out) (by rw [HSL.out]; omega)).mono fun e w' h => UUnpackPost.V h).mono ?_
                  rintro e wh ⟨vm, rfl, hu_, ho_, hk⟩
                  rw [ET.out] at hu_ ⊢
                  clear ho_
                  have HBu := Lib.hid (hk.blk HBu.out id)
                  have HBv := Lib.hid (hk.blk HBv.out id)
                  have HK := Lib.hid (HK.out.trans hk)
                  have HUu := Lib.hid (HUu.out.keep hk fun _ _ => id)
                  have HUv := Lib.hid (HUv.out.keep hk fun _ _ => id)
                  have HG := Lib.hid (HG.out.keep hk)
                  have HOa := Lib.hid (hk.owns HOa.out fun _ _ => id)
                  have HOb := Lib.hid (hk.owns HOb.out fun _ _ => id)
                  have HOs := Lib.hid (hk.owns HOs.out fun _ _ => id)
                  have HR1 := Lib.hid (HR1.out.keep hk fun _ _ => id)
                  have HR2 := Lib.hid (HR2.out.keep hk fun _ _ => id)
                  have HR3 := Lib.hid (HR3.out.keep hk fun _ _ => id)
                  have HR4 := Lib.hid (HR4.out.keep hk fun _ _ => id)
                  have HB15 := Lib.hid (hk.blk HB15.out id)
                  clear hk
                  have hu2 : UbV wh vm zUb := hu_
                  clear hu_
                  obtain ⟨am, cm, hv_, -, -⟩ := hu2.root.rd.form
                  have hv2_ : vm = .slice am (zUb).root.addrs.length cm := hv_
                  clear hv_
                  subst hv2_
                  have hlm := ubCs_len (v := .slice am (zUb).root.addrs.length cm) hu2.root.sum hu2.pool
                  have HCm := Lib.hid (oneCell_ub (oa := am) (n := (zUb).root.addrs.length) (ca := cm) (zUb))
                  have HUm := Lib.hid hu2
                  obtain ⟨lcm, hlcm⟩ : ∃ x, ubCs (.slice am (zUb).root.addrs.length cm) (zUb) = x := ⟨_, rfl⟩
                  rw [hlcm] at hlm HCm
                  try rw [hlcm]
                  have HLCm := Lib.hid hlcm
                  clear hlcm
                  clear hu2
                  try rw [show (zUb, (11 : Int)).1 = zUb from rfl]
                  try rw [HLCm.out]
                  go_wp2_with (first
                    | ((with_reducible show wpList _ _ _ (⟨_, .alloc 28, _, _, _, _⟩ :: _) _ _); refine wpList_alloc_at rfl 28 rfl _ HZV.out zc.toArray rfl ?_)
                    | ((with_reducible show wpList _ _ _ (⟨none, .store 28 (.tmp 17) (.tmp 109), _, _, _, _⟩ :: _) _ _)
                       refine wpList_store_agg rfl 28 (.tmp 17) (.tmp 109) rfl wh.heap.size 0 lcm rfl rfl zc.toArray _ (heap_alloc_new _ _) (by rw [hlm, List.size_toArray, hzl]; exact Nat.le_refl _) (sizeUbL hlm) HCm.out ?_
                       intro wi hb5 hk5
                       rw [spl_whole _ _ (by rw [hlm, List.size_toArray, hzl])] at hb5
                       have hkb : Keep noBlk wh wi := ((Keep.refl noBlk wh).alloc _).trans' hk5 (fun _ _ h => h.elim) (fun i hi e => by omega)
                       clear hk5
                       obtain ⟨bm, hb_⟩ : ∃ b, wh.heap.size = b := ⟨_, rfl⟩
                       rw [hb_] at hb5 ⊢
                       have HBSm := Lib.hid hb_; clear hb_
                       have HBm := Lib.hid hb5; clear hb5)
                    | ((with_reducible show wpList _ _ _ (⟨_, .load 28 (.tmp 17), _, _, _, _⟩ :: _) _ _); refine wpList_load_g (by rfl) 28 (.tmp 17) rfl bm 0 rfl lcm _ (rangeAt_whole HBm.out) ubUnder rfl (sizeUbL hlm) ?_))
                  have HBu := Lib.hid (hkb.blk HBu.out id)
                  have HBv := Lib.hid (hkb.blk HBv.out id)
                  have HK := Lib.hid (HK.out.trans hkb)
                  have HUu := Lib.hid (HUu.out.keep hkb fun _ _ => id)
                  have HUv := Lib.hid (HUv.out.keep hkb fun _ _ => id)
                  have HG := Lib.hid (HG.out.keep hkb)
                  have HOa := Lib.hid (hkb.owns HOa.out fun _ _ => id)
                  have HOb := Lib.hid (hkb.owns HOb.out fun _ _ => id)
                  have HOs := Lib.hid (hkb.owns HOs.out fun _ _ => id)
                  have HR1 := Lib.hid (HR1.out.keep hkb fun _ _ => id)
                  have HR2 := Lib.hid (HR2.out.keep hkb fun _ _ => id)
                  have HR3 := Lib.hid (HR3.out.keep hkb fun _ _ => id)
                  have HR4 := Lib.hid (HR4.out.keep hkb fun _ _ => id)
                  have HB15 := Lib.hid (hkb.blk HB15.out id)
                  have HUm := Lib.hid (HUm.out.keep hkb fun _ _ => id)
                  clear hkb
                  have CC : Calls Tryd.prog 12 #[.agg lcm.toArray, .agg Tryd.zeroCells28] wi (TherePost wi true) := by
                    have h := kitU_any wi _ _ zUb zUb HUm.out (ubV_flat wi 0 0)
                    rw [eqB_refl] at h
                    rw [← HLCm.out, zeroUbCells]
                    exact h
                  refine CC.mono ?_
                  clear CC
                  rintro e wj ⟨rfl, hk⟩
                  have HBu := Lib.hid (hk.blk HBu.out id)
                  have HBv := Lib.hid (hk.blk HBv.out id)
                  have HK := Lib.hid (HK.out.trans hk)
                  have HUu := Lib.hid (HUu.out.keep hk fun _ _ => id)
                  have HUv := Lib.hid (HUv.out.keep hk fun _ _ => id)
                  have HG := Lib.hid (HG.out.keep hk)
                  have HOa := Lib.hid (hk.owns HOa.out fun _ _ => id)
                  have HOb := Lib.hid (hk.owns HOb.out fun _ _ => id)
                  have HOs := Lib.hid (hk.owns HOs.out fun _ _ => id)
                  have HR1 := Lib.hid (HR1.out.keep hk fun _ _ => id)
                  have HR2 := Lib.hid (HR2.out.keep hk fun _ _ => id)
                  have HR3 := Lib.hid (HR3.out.keep hk fun _ _ => id)
                  have HR4 := Lib.hid (HR4.out.keep hk fun _ _ => id)
                  have HB15 := Lib.hid (hk.blk HB15.out id)
                  have HUm := Lib.hid (HUm.out.keep hk fun _ _ => id)
                  have HBm := Lib.hid (hk.blk HBm.out id)
                  clear hk
                  go_wp2_with fail
                  go_ret
                  exact ⟨rfl, HK.out⟩
                · have C1 := Lib.hid (show ∀ wx, Keep noBlk wc wx → Calls Tryd.prog 13 #[.slice (some ⟨gs, 0, none⟩) 224 c2, .slice (some ⟨ga, 0, none⟩) 224 ca] wx (TherePost wx false) from fun wx k =>
                    (same_any wx _ _ s2 a2 (HR1.out.keep k fun _ _ => id) (HR2.out.keep k fun _ _ => id) false (decide_eq_false e1)).mono fun e w' ⟨h1, h2⟩ => ⟨h1, by rw [← h2]; exact Keep.refl _ _⟩)
                  have C2 := Lib.hid (show ∀ wx, Keep noBlk wc wx → Calls Tryd.prog 13 #[.slice (some ⟨gs, 0, none⟩) 224 c2, .slice (some ⟨gb, 0, none⟩) 224 256] wx (TherePost wx false) from fun wx k =>
                    (same_any wx _ _ s2 b2 (HR1.out.keep k fun _ _ => id) (HR3.out.keep k fun _ _ => id) false (decide_eq_false e2)).mono fun e w' ⟨h1, h2⟩ => ⟨h1, by rw [← h2]; exact Keep.refl _ _⟩)
                  have HE1 := Lib.hid e1
                  clear e1
                  have HE2 := Lib.hid e2
                  clear e2
                  obtain ⟨S, hS0⟩ : ∃ S : World → Prop, S = fun w' => Keep noBlk wc w' := ⟨_, rfl⟩
                  have HSE := Lib.hid (show ∀ w', S w' → Keep noBlk wc w' from fun w' h => by rw [hS0] at h; exact h)
                  have HSI := Lib.hid (show ∀ w', Keep noBlk wc w' → S w' from fun w' h => by rw [hS0]; exact h)
                  have hS : S wc.drew := by rw [hS0]; exact (Keep.refl _ _).drew
                  clear hS0
                  refine wp_region_held (S := S) (by kernel_rfl) ?_
                  change wpAnyH _ _ _ _ _ _ _ _ wc.drew
                  generalize wc.drew = wd at hS ⊢
                  refine wpAnyH_take (i := 0) (v := .slice (some ⟨gs, 0, none⟩) 256 c2) rfl (by kernel_rfl) (by kernel_rfl) (by kernel_rfl) (fun _ _ _ h => h) (.inl ⟨by rfl, fun _ _ => rfl⟩) hS ?_
                  simp only [Act.put, List.setIfInBounds_toArray, List.set_cons_zero, List.set_cons_succ, List.getElem_toArray, List.getElem_cons_succ, List.getElem_cons_zero]
                  refine wpAnyH_take (i := 1) (v := .slice (some ⟨gs, 0, none⟩) 224 c2) rfl (by kernel_rfl) (by kernel_rfl) (by kernel_rfl) (fun _ _ _ h => h) (yieldsIf_slice (by rfl) 36 (.tmp 83) none (some (.const (.int .i64 224))) none rfl (.slice (some ⟨gs, 0, none⟩) 256 c2) none (some (.int .i64 224)) none rfl rfl rfl rfl HT1.out) hS ?_
                  simp only [Act.put, List.setIfInBounds_toArray, List.set_cons_zero, List.set_cons_succ, List.getElem_toArray, List.getElem_cons_succ, List.getElem_cons_zero]
                  refine wpAnyH_take (i := 2) (v := .slice (some ⟨ga, 0, none⟩) 256 ca) rfl (by kernel_rfl) (by kernel_rfl) (by kernel_rfl) (fun _ _ _ h => h) (.inl ⟨by rfl, fun _ _ => rfl⟩) hS ?_
                  simp only [Act.put, List.setIfInBounds_toArray, List.set_cons_zero, List.set_cons_succ, List.getElem_toArray, List.getElem_cons_succ, List.getElem_cons_zero]
                  refine wpAnyH_take (i := 3) (v := .slice (some ⟨ga, 0, none⟩) 224 ca) rfl (by kernel_rfl) (by kernel_rfl) (by kernel_rfl) (fun _ _ _ h => h) (yieldsIf_slice (by rfl) 36 (.tmp 85) none (some (.const (.int .i64 224))) none rfl (.slice (some ⟨ga, 0, none⟩) 256 ca) none (some (.int .i64 224)) none rfl rfl rfl rfl HT2.out) hS ?_
                  simp only [Act.put, List.setIfInBounds_toArray, List.set_cons_zero, List.set_cons_succ, List.getElem_toArray, List.getElem_cons_succ, List.getElem_cons_zero]
                  refine wpAnyH_one (k := 4) rfl (by kernel_rfl) ?_
                  go_wp2_with fail
                  refine (C1.out wd (HSE.out _ hS)).mono ?_
                  rintro e we ⟨rfl, hk⟩
                  have hS1 := HSI.out _ ((HSE.out _ hS).trans hk)
                  clear hS hk
                  go_wp2_with fail
                  refine ⟨hS1, ?_⟩
                  refine wpAnyH_take (i := 5) (v := .bool false) rfl (by kernel_rfl) (by kernel_rfl) (by kernel_rfl) (fun _ _ _ h => h) (.inl ⟨by rfl, fun _ _ => rfl⟩) hS1 ?_
                  simp only [Act.put, List.setIfInBounds_toArray, List.set_cons_zero, List.set_cons_succ, List.getElem_toArray, List.getElem_cons_succ, List.getElem_cons_zero]
                  refine wpAnyH_take (i := 6) (v := .slice (some ⟨gs, 0, none⟩) 256 c2) rfl (by kernel_rfl) (by kernel_rfl) (by kernel_rfl) (fun _ _ _ h => h) (.inl ⟨by rfl, fun _ _ => rfl⟩) hS1 ?_
                  simp only [Act.put, List.setIfInBounds_toArray, List.set_cons_zero, List.set_cons_succ, List.getElem_toArray, List.getElem_cons_succ, List.getElem_cons_zero]
                  refine wpAnyH_take (i := 7) (v := .slice (some ⟨gs, 0, none⟩) 224 c2) rfl (by kernel_rfl) (by kernel_rfl) (by kernel_rfl) (fun _ _ _ h => h) (yieldsIf_slice (by rfl) 36 (.tmp 89) none (some (.const (.int .i64 224))) none rfl (.slice (some ⟨gs, 0, none⟩) 256 c2) none (some (.int .i64 224)) none rfl rfl rfl rfl HT1.out) hS1 ?_
                  simp only [Act.put, List.setIfInBounds_toArray, List.set_cons_zero, List.set_cons_succ, List.getElem_toArray, List.getElem_cons_succ, List.getElem_cons_zero]
                  refine wpAnyH_take (i := 8) (v := .slice (some ⟨gb, 0, none⟩) 256 256) rfl (by kernel_rfl) (by kernel_rfl) (by kernel_rfl) (fun _ _ _ h => h) (.inl ⟨by rfl, fun _ _ => rfl⟩) hS1 ?_
                  simp only [Act.put, List.setIfInBounds_toArray, List.set_cons_zero, List.set_cons_succ, List.getElem_toArray, List.getElem_cons_succ, List.getElem_cons_zero]
                  refine wpAnyH_take (i := 9) (v := .slice (some ⟨gb, 0, none⟩) 224 256) rfl (by kernel_rfl) (by kernel_rfl) (by kernel_rfl) (fun _ _ _ h => h) (yieldsIf_slice (by rfl) 36 (.tmp 91) none (some (.const (.int .i64 224))) none rfl (.slice (some ⟨gb, 0, none⟩) 256 256) none (some (.int .i64 224)) none rfl rfl rfl rfl HT3.out) hS1 ?_
                  simp only [Act.put, List.setIfInBounds_toArray, List.set_cons_zero, List.set_cons_succ, List.getElem_toArray, List.getElem_cons_succ, List.getElem_cons_zero]
                  refine wpAnyH_one (k := 10) rfl (by kernel_rfl) ?_
                  go_wp2_with fail
                  refine (C2.out we (HSE.out _ hS1)).mono ?_
                  rintro e wf ⟨rfl, hk⟩
                  have hS2 := HSI.out _ ((HSE.out _ hS1).trans hk)
                  clear hS1 hk
                  go_wp2_with fail
                  refine ⟨hS2, ?_⟩
                  refine wpAnyH_take (i := 11) (v := .bool false) rfl (by kernel_rfl) (by kernel_rfl) (by kernel_rfl) (fun _ _ _ h => h) (.inl ⟨by rfl, fun _ _ => rfl⟩) hS2 ?_
                  simp only [Act.put, List.setIfInBounds_toArray, List.set_cons_zero, List.set_cons_succ, List.getElem_toArray, List.getElem_cons_succ, List.getElem_cons_zero]
                  refine wpAnyH_take (i := 12) (v := .bool false) rfl (by kernel_rfl) (by kernel_rfl) (by kernel_rfl) (fun _ _ _ h => h) (.inl ⟨by rfl, fun _ _ => rfl⟩) hS2 ?_
                  simp only [Act.put, List.setIfInBounds_toArray, List.set_cons_zero, List.set_cons_succ, List.getElem_toArray, List.getElem_cons_succ, List.getElem_cons_zero]
                  refine wpAnyH_done (by kernel_rfl) ?_ _
                  have HKR := Lib.hid (HSE.out _ hS2)
                  clear hS2 HSE HSI
                  have HBu := Lib.hid (HKR.out.blk HBu.out id)
                  have HBv := Lib.hid (HKR.out.blk HBv.out id)
                  have HK := Lib.hid (HK.out.trans HKR.out)
                  have HUu := Lib.hid (HUu.out.keep HKR.out fun _ _ => id)
                  have HUv := Lib.hid (HUv.out.keep HKR.out fun _ _ => id)
                  have HG := Lib.hid (HG.out.keep HKR.out)
                  have HOa := Lib.hid (HKR.out.owns HOa.out fun _ _ => id)
                  have HOb := Lib.hid (HKR.out.owns HOb.out fun _ _ => id)
                  have HOs := Lib.hid (HKR.out.owns HOs.out fun _ _ => id)
                  have HR1 := Lib.hid (HR1.out.keep HKR.out fun _ _ => id)
                  have HR2 := Lib.hid (HR2.out.keep HKR.out fun _ _ => id)
                  have HR3 := Lib.hid (HR3.out.keep HKR.out fun _ _ => id)
                  have HR4 := Lib.hid (HR4.out.keep HKR.out fun _ _ => id)
                  have HB15 := Lib.hid (HKR.out.blk HB15.out id)
                  go_wp2_with fail
                  clear HKR
                  by_cases ed : dg = d2
                  · have hrd : Rd wf 1 (.slice (some ⟨b15, 0, none⟩) 32 32) 32 dc := rd_blk (n := 32) (size := 1) HB15.out (by rw [hdcl]) (by unfold maxLen; omega)
                    have HRD := Lib.hid hrd
                    clear hrd
                    obtain ⟨S, hS0⟩ : ∃ S : World → Prop, S = fun w' => Keep noBlk wf w' := ⟨_, rfl⟩
                    have HSE := Lib.hid (show ∀ w', S w' → Keep noBlk wf w' from fun w' h => by rw [hS0] at h; exact h)
                    have HSI := Lib.hid (show ∀ w', Keep noBlk wf w' → S w' from fun w' h => by rw [hS0]; exact h)
                    have hS : S wf.drew := by rw [hS0]; exact (Keep.refl _ _).drew
                    clear hS0
                    refine wp_region_held (S := S) (by kernel_rfl) ?_
                    change wpAnyH _ _ _ _ _ _ _ _ wf.drew
                    generalize wf.drew = wg at hS ⊢
                    refine wpAnyH_take (i := 0) (v := .bool false) rfl (by kernel_rfl) (by kernel_rfl) (by kernel_rfl) (fun _ _ _ h => h) (.inl ⟨by rfl, fun _ _ => rfl⟩) hS ?_
                    simp only [Act.put, List.setIfInBounds_toArray, List.set_cons_zero, List.set_cons_succ, List.getElem_toArray, List.getElem_cons_succ, List.getElem_cons_zero]
                    refine wpAnyH_take (i := 1) (v := .bool true) rfl (by kernel_rfl) (by kernel_rfl) (by kernel_rfl) (fun _ _ _ h => h) (.inl ⟨by rfl, fun _ _ => by go_simp⟩) hS ?_
                    simp only [Act.put, List.setIfInBounds_toArray, List.set_cons_zero, List.set_cons_succ, List.getElem_toArray, List.getElem_cons_succ, List.getElem_cons_zero]
                    refine wpAnyH_take (i := 2) (v := .bool true) rfl (by kernel_rfl) (by kernel_rfl) (by kernel_rfl) (fun _ _ _ h => h) (.inl ⟨by rfl, fun _ _ => rfl⟩) hS ?_
                    simp only [Act.put, List.setIfInBounds_toArray, List.set_cons_zero, List.set_cons_succ, List.getElem_toArray, List.getElem_cons_succ, List.getElem_cons_zero]
                    refine wpAnyH_take (i := 4) (v := .slice (some ⟨b15, 0, none⟩) 32 32) rfl (by kernel_rfl) (by kernel_rfl) (by kernel_rfl) (fun _ _ _ h => h) (.inl ⟨by rfl, fun _ _ => by go_simp⟩) hS ?_
                    simp only [Act.put, List.setIfInBounds_toArray, List.set_cons_zero, List.set_cons_succ, List.getElem_toArray, List.getElem_cons_succ, List.getElem_cons_zero]
                    refine wpAnyH_take (i := 6) (v := .slice (some ⟨gs, 0, none⟩) 256 c2) rfl (by kernel_rfl) (by kernel_rfl) (by kernel_rfl) (fun _ _ _ h => h) (.inl ⟨by rfl, fun _ _ => rfl⟩) hS ?_
                    simp only [Act.put, List.setIfInBounds_toArray, List.set_cons_zero, List.set_cons_succ, List.getElem_toArray, List.getElem_cons_succ, List.getElem_cons_zero]
                    refine wpAnyH_take (i := 7) (v := .slice sx 32 sxc) rfl (by kernel_rfl) (by kernel_rfl) (by kernel_rfl) (fun _ _ _ h => h) (yieldsIf_slice (by rfl) 36 (.tmp 101) (some (.const (.int .i64 224))) none none rfl (.slice (some ⟨gs, 0, none⟩) 256 c2) (some (.int .i64 224)) none none rfl rfl rfl rfl HSW.out) hS ?_
                    simp only [Act.put, List.setIfInBounds_toArray, List.set_cons_zero, List.set_cons_succ, List.getElem_toArray, List.getElem_cons_succ, List.getElem_cons_zero]
                    refine wpAnyH_one (k := 3) rfl (by kernel_rfl) ?_
                    have hsl_ := (HSE.out _ hS).size
                    obtain ⟨wh, hw9, hk, hb9, hs9⟩ := alloc_facts wg #[] 5
                    have H3 : Hid (wh.ownsRow wf.heap.size 5 1 (.slice (some ⟨wg.heap.size, 0, none⟩) 0 0) 0 []) := Lib.hid (by rw [← hw9]; exact World.ownsRow_made wg #[] 0 hsl_ (by unfold maxLen; omega) rfl)
                    have hsz_ : wg.heap.size < wh.heap.size := by omega
                    clear hb9 hs9 hsl_
                    go_wp2_with fail
                    try rw [hw9]
                    clear hw9
                    obtain ⟨eH3, he_⟩ : ∃ e, wg.heap.size = e := ⟨_, rfl⟩
                    rw [he_] at H3 ⊢
                    clear he_ hsz_
                    have hS1 := HSI.out _ ((HSE.out _ hS).trans hk)
                    clear hS hk
                    refine ⟨hS1, ?_⟩
                    refine wpAnyH_one (k := 5) rfl (by kernel_rfl) ?_
                    have hbs_ : wf.heap.size ≤ wh.heap.size := (HSE.out _ hS1).size
                    have hrd_ := (HRD.out.keep (HSE.out _ hS1) fun _ _ => id)
                    refine wpList_unguard (by rfl) ?_
                    refine wpList_append_rd rfl (.tmp 98) (.tmp 99) 36 rfl wf.heap.size 5 (.int .u8 0) 1 1 Tryd.underlying36 infoU8 rfl (by decide) (.slice (some ⟨eH3, 0, none⟩) 0 0) (0) ([]) rfl H3.out (.slice (some ⟨b15, 0, none⟩) 32 32) (32) (dc) rfl hrd_ HDO.out (by unfold maxLen; omega) (by omega) hbs_ ?_
                    intro v' wi ho5 hk5 hn5 hb5
                    have hk2 := (HSE.out _ hS1).trans' hk5 (U := noBlk) (fun _ _ h => h) (fun i hi e => by have := owns_base H3.out e; omega)
                    rw [Nat.zero_add, List.nil_append, ← HDC.out] at ho5
                    obtain ⟨x4, c4, hvf, -, -⟩ := (Rd.of_owns ho5).form
                    subst hvf
                    have H4 := Lib.hid ho5
                    clear ho5 hk5 hn5 hb5 hrd_ hbs_
                    have hS2 := HSI.out _ hk2
                    clear hS1 hk2
                    go_wp2_with fail
                    refine ⟨hS2, ?_⟩
                    refine wpAnyH_one (k := 8) rfl (by kernel_rfl) ?_
                    go_wp2_with fail
                    refine (same_any wi _ _ dg d2 (by rw [hdl]; exact Rd.of_owns H4.out) (HR4.out.keep (HSE.out _ hS2) fun _ _ => id) true (decide_eq_true ed)).mono ?_
                    rintro e wj ⟨rfl, hw_⟩
                    have hk : Keep noBlk wi wj := by rw [← hw_]; exact Keep.refl _ _
                    clear hw_
                    have hS3 := HSI.out _ ((HSE.out _ hS2).trans hk)
                    clear hS2 hk
                    go_wp2_with fail
                    refine ⟨hS3, ?_⟩
                    refine wpAnyH_take (i := 9) (v := .bool true) rfl (by kernel_rfl) (by kernel_rfl) (by kernel_rfl) (fun _ _ _ h => h) (.inl ⟨by rfl, fun _ _ => rfl⟩) hS3 ?_
                    simp only [Act.put, List.setIfInBounds_toArray, List.set_cons_zero, List.set_cons_succ, List.getElem_toArray, List.getElem_cons_succ, List.getElem_cons_zero]
                    refine wpAnyH_done (by kernel_rfl) ?_ _
                    have HKR := Lib.hid (HSE.out _ hS3)
                    clear hS3 HSE HSI
                    have HBu := Lib.hid (HKR.out.blk HBu.out id)
                    have HBv := Lib.hid (HKR.out.blk HBv.out id)
                    have HK := Lib.hid (HK.out.trans HKR.out)
                    have HUu := Lib.hid (HUu.out.keep HKR.out fun _ _ => id)
                    have HUv := Lib.hid (HUv.out.keep HKR.out fun _ _ => id)
                    have HG := Lib.hid (HG.out.keep HKR.out)
                    have HOa := Lib.hid (HKR.out.owns HOa.out fun _ _ => id)
                    have HOb := Lib.hid (HKR.out.owns HOb.out fun _ _ => id)
                    have HOs := Lib.hid (HKR.out.owns HOs.out fun _ _ => id)
                    have HR1 := Lib.hid (HR1.out.keep HKR.out fun _ _ => id)
                    have HR2 := Lib.hid (HR2.out.keep HKR.out fun _ _ => id)
                    have HR3 := Lib.hid (HR3.out.keep HKR.out fun _ _ => id)
                    have HR4 := Lib.hid (HR4.out.keep HKR.out fun _ _ => id)
                    have HB15 := Lib.hid (HKR.out.blk HB15.out id)
                    have HRD := Lib.hid (HRD.out.keep HKR.out fun _ _ => id)
                    clear HKR
                    go_wp2_with fail
                    go_ret
                    exact ⟨rfl, HK.out⟩
                  · have hrd : Rd wf 1 (.slice (some ⟨b15, 0, none⟩) 32 32) 32 dc := rd_blk (n := 32) (size := 1) HB15.out (by rw [hdcl]) (by unfold maxLen; omega)
                    have HRD := Lib.hid hrd
                    clear hrd
                    obtain ⟨S, hS0⟩ : ∃ S : World → Prop, S = fun w' => Keep noBlk wf w' := ⟨_, rfl⟩
                    have HSE := Lib.hid (show ∀ w', S w' → Keep noBlk wf w' from fun w' h => by rw [hS0] at h; exact h)
                    have HSI := Lib.hid (show ∀ w', Keep noBlk wf w' → S w' from fun w' h => by rw [hS0]; exact h)
                    have hS : S wf.drew := by rw [hS0]; exact (Keep.refl _ _).drew
                    clear hS0
                    refine wp_region_held (S := S) (by kernel_rfl) ?_
                    change wpAnyH _ _ _ _ _ _ _ _ wf.drew
                    generalize wf.drew = wg at hS ⊢
                    refine wpAnyH_take (i := 0) (v := .bool false) rfl (by kernel_rfl) (by kernel_rfl) (by kernel_rfl) (fun _ _ _ h => h) (.inl ⟨by rfl, fun _ _ => rfl⟩) hS ?_
                    simp only [Act.put, List.setIfInBounds_toArray, List.set_cons_zero, List.set_cons_succ, List.getElem_toArray, List.getElem_cons_succ, List.getElem_cons_zero]
                    refine wpAnyH_take (i := 1) (v := .bool true) rfl (by kernel_rfl) (by kernel_rfl) (by kernel_rfl) (fun _ _ _ h => h) (.inl ⟨by rfl, fun _ _ => by go_simp⟩) hS ?_
                    simp only [Act.put, List.setIfInBounds_toArray, List.set_cons_zero, List.set_cons_succ, List.getElem_toArray, List.getElem_cons_succ, List.getElem_cons_zero]
                    refine wpAnyH_take (i := 2) (v := .bool true) rfl (by kernel_rfl) (by kernel_rfl) (by kernel_rfl) (fun _ _ _ h => h) (.inl ⟨by rfl, fun _ _ => rfl⟩) hS ?_
                    simp only [Act.put, List.setIfInBounds_toArray, List.set_cons_zero, List.set_cons_succ, List.getElem_toArray, List.getElem_cons_succ, List.getElem_cons_zero]
                    refine wpAnyH_take (i := 4) (v := .slice (some ⟨b15, 0, none⟩) 32 32) rfl (by kernel_rfl) (by kernel_rfl) (by kernel_rfl) (fun _ _ _ h => h) (.inl ⟨by rfl, fun _ _ => by go_simp⟩) hS ?_
                    simp only [Act.put, List.setIfInBounds_toArray, List.set_cons_zero, List.set_cons_succ, List.getElem_toArray, List.getElem_cons_succ, List.getElem_cons_zero]
                    refine wpAnyH_take (i := 6) (v := .slice (some ⟨gs, 0, none⟩) 256 c2) rfl (by kernel_rfl) (by kernel_rfl) (by kernel_rfl) (fun _ _ _ h => h) (.inl ⟨by rfl, fun _ _ => rfl⟩) hS ?_
                    simp only [Act.put, List.setIfInBounds_toArray, List.set_cons_zero, List.set_cons_succ, List.getElem_toArray, List.getElem_cons_succ, List.getElem_cons_zero]
                    refine wpAnyH_take (i := 7) (v := .slice sx 32 sxc) rfl (by kernel_rfl) (by kernel_rfl) (by kernel_rfl) (fun _ _ _ h => h) (yieldsIf_slice (by rfl) 36 (.tmp 101) (some (.const (.int .i64 224))) none none rfl (.slice (some ⟨gs, 0, none⟩) 256 c2) (some (.int .i64 224)) none none rfl rfl rfl rfl HSW.out) hS ?_
                    simp only [Act.put, List.setIfInBounds_toArray, List.set_cons_zero, List.set_cons_succ, List.getElem_toArray, List.getElem_cons_succ, List.getElem_cons_zero]
                    refine wpAnyH_one (k := 3) rfl (by kernel_rfl) ?_
                    have hsl_ := (HSE.out _ hS).size
                    obtain ⟨wh, hw9, hk, hb9, hs9⟩ := alloc_facts wg #[] 5
                    have H3 : Hid (wh.ownsRow wf.heap.size 5 1 (.slice (some ⟨wg.heap.size, 0, none⟩) 0 0) 0 []) := Lib.hid (by rw [← hw9]; exact World.ownsRow_made wg #[] 0 hsl_ (by unfold maxLen; omega) rfl)
                    have hsz_ : wg.heap.size < wh.heap.size := by omega
                    clear hb9 hs9 hsl_
                    go_wp2_with fail
                    try rw [hw9]
                    clear hw9
                    obtain ⟨eH3, he_⟩ : ∃ e, wg.heap.size = e := ⟨_, rfl⟩
                    rw [he_] at H3 ⊢
                    clear he_ hsz_
                    have hS1 := HSI.out _ ((HSE.out _ hS).trans hk)
                    clear hS hk
                    refine ⟨hS1, ?_⟩
                    refine wpAnyH_one (k := 5) rfl (by kernel_rfl) ?_
                    have hbs_ : wf.heap.size ≤ wh.heap.size := (HSE.out _ hS1).size
                    have hrd_ := (HRD.out.keep (HSE.out _ hS1) fun _ _ => id)
                    refine wpList_unguard (by rfl) ?_
                    refine wpList_append_rd rfl (.tmp 98) (.tmp 99) 36 rfl wf.heap.size 5 (.int .u8 0) 1 1 Tryd.underlying36 infoU8 rfl (by decide) (.slice (some ⟨eH3, 0, none⟩) 0 0) (0) ([]) rfl H3.out (.slice (some ⟨b15, 0, none⟩) 32 32) (32) (dc) rfl hrd_ HDO.out (by unfold maxLen; omega) (by omega) hbs_ ?_
                    intro v' wi ho5 hk5 hn5 hb5
                    have hk2 := (HSE.out _ hS1).trans' hk5 (U := noBlk) (fun _ _ h => h) (fun i hi e => by have := owns_base H3.out e; omega)
                    rw [Nat.zero_add, List.nil_append, ← HDC.out] at ho5
                    obtain ⟨x4, c4, hvf, -, -⟩ := (Rd.of_owns ho5).form
                    subst hvf
                    have H4 := Lib.hid ho5
                    clear ho5 hk5 hn5 hb5 hrd_ hbs_
                    have hS2 := HSI.out _ hk2
                    clear hS1 hk2
                    go_wp2_with fail
                    refine ⟨hS2, ?_⟩
                    refine wpAnyH_one (k := 8) rfl (by kernel_rfl) ?_
                    go_wp2_with fail
                    refine (same_any wi _ _ dg d2 (by rw [hdl]; exact Rd.of_owns H4.out) (HR4.out.keep (HSE.out _ hS2) fun _ _ => id) false (decide_eq_false ed)).mono ?_
                    rintro e wj ⟨rfl, hw_⟩
                    have hk : Keep noBlk wi wj := by rw [← hw_]; exact Keep.refl _ _
                    clear hw_
                    have hS3 := HSI.out _ ((HSE.out _ hS2).trans hk)
                    clear hS2 hk
                    go_wp2_with fail
                    refine ⟨hS3, ?_⟩
                    refine wpAnyH_take (i := 9) (v := .bool false) rfl (by kernel_rfl) (by kernel_rfl) (by kernel_rfl) (fun _ _ _ h => h) (.inl ⟨by rfl, fun _ _ => rfl⟩) hS3 ?_
                    simp only [Act.put, List.setIfInBounds_toArray, List.set_cons_zero, List.set_cons_succ, List.getElem_toArray, List.getElem_cons_succ, List.getElem_cons_zero]
                    refine wpAnyH_done (by kernel_rfl) ?_ _
                    have HKR := Lib.hid (HSE.out _ hS3)
                    clear hS3 HSE HSI
                    have HBu := Lib.hid (HKR.out.blk HBu.out id)
                    have HBv := Lib.hid (HKR.out.blk HBv.out id)
                    have HK := Lib.hid (HK.out.trans HKR.out)
                    have HUu := Lib.hid (HUu.out.keep HKR.out fun _ _ => id)
                    have HUv := Lib.hid (HUv.out.keep HKR.out fun _ _ => id)
                    have HG := Lib.hid (HG.out.keep HKR.out)
                    have HOa := Lib.hid (HKR.out.owns HOa.out fun _ _ => id)
                    have HOb := Lib.hid (HKR.out.owns HOb.out fun _ _ => id)
                    have HOs := Lib.hid (HKR.out.owns HOs.out fun _ _ => id)
                    have HR1 := Lib.hid (HR1.out.keep HKR.out fun _ _ => id)
                    have HR2 := Lib.hid (HR2.out.keep HKR.out fun _ _ => id)
                    have HR3 := Lib.hid (HR3.out.keep HKR.out fun _ _ => id)
                    have HR4 := Lib.hid (HR4.out.keep HKR.out fun _ _ => id)
                    have HB15 := Lib.hid (HKR.out.blk HB15.out id)
                    have HRD := Lib.hid (HRD.out.keep HKR.out fun _ _ => id)
                    clear HKR
                    have et : unpackU s = (zUb, 11) := torn_plain HUu.out.pool HUu.out.root.sum HMU.out HBL.out htl (by rw [HAL.out]; exact HSS.out.symm) (by rw [HAL.out]; exact HEA.out) HEB.out (fun _ _ h => ed (by rw [← HDG.out, ← HS2.out, ← HD2.out]; exact h))
                    have ET := Lib.hid et
                    clear et
                    go_wp2_with fail
                    refine ((uunpack_any wj aF aR HG.out _ s (by rw [HSL.out]; exact Rd.of_owns HOs.out) (by rw [HSL.out]; omega)).mono fun e w' h => UUnpackPost.V h).mono ?_
                    rintro e wk ⟨vm, rfl, hu_, ho_, hk⟩
                    rw [ET.out] at hu_ ⊢
                    clear ho_
                    have HBu := Lib.hid (hk.blk HBu.out id)
                    have HBv := Lib.hid (hk.blk HBv.out id)
                    have HK := Lib.hid (HK.out.trans hk)
                    have HUu := Lib.hid (HUu.out.keep hk fun _ _ => id)
                    have HUv := Lib.hid (HUv.out.keep hk fun _ _ => id)
                    have HG := Lib.hid (HG.out.keep hk)
                    have HOa := Lib.hid (hk.owns HOa.out fun _ _ => id)
                    have HOb := Lib.hid (hk.owns HOb.out fun _ _ => id)
                    have HOs := Lib.hid (hk.owns HOs.out fun _ _ => id)
                    have HR1 := Lib.hid (HR1.out.keep hk fun _ _ => id)
                    have HR2 := Lib.hid (HR2.out.keep hk fun _ _ => id)
                    have HR3 := Lib.hid (HR3.out.keep hk fun _ _ => id)
                    have HR4 := Lib.hid (HR4.out.keep hk fun _ _ => id)
                    have HB15 := Lib.hid (hk.blk HB15.out id)
                    have HRD := Lib.hid (HRD.out.keep hk fun _ _ => id)
                    clear hk
                    have hu2 : UbV wk vm zUb := hu_
                    clear hu_
                    obtain ⟨am, cm, hv_, -, -⟩ := hu2.root.rd.form
                    have hv2_ : vm = .slice am (zUb).root.addrs.length cm := hv_
                    clear hv_
                    subst hv2_
                    have hlm := ubCs_len (v := .slice am (zUb).root.addrs.length cm) hu2.root.sum hu2.pool
                    have HCm := Lib.hid (oneCell_ub (oa := am) (n := (zUb).root.addrs.length) (ca := cm) (zUb))
                    have HUm := Lib.hid hu2
                    obtain ⟨lcm, hlcm⟩ : ∃ x, ubCs (.slice am (zUb).root.addrs.length cm) (zUb) = x := ⟨_, rfl⟩
                    rw [hlcm] at hlm HCm
                    try rw [hlcm]
                    have HLCm := Lib.hid hlcm
                    clear hlcm
                    clear hu2
                    try rw [show (zUb, (11 : Int)).1 = zUb from rfl]
                    try rw [HLCm.out]
                    go_wp2_with (first
                      | ((with_reducible show wpList _ _ _ (⟨_, .alloc 28, _, _, _, _⟩ :: _) _ _); refine wpList_alloc_at rfl 28 rfl _ HZV.out zc.toArray rfl ?_)
                      | ((with_reducible show wpList _ _ _ (⟨none, .store 28 (.tmp 17) (.tmp 109), _, _, _, _⟩ :: _) _ _)
                         refine wpList_store_agg rfl 28 (.tmp 17) (.tmp 109) rfl wk.heap.size 0 lcm rfl rfl zc.toArray _ (heap_alloc_new _ _) (by rw [hlm, List.size_toArray, hzl]; exact Nat.le_refl _) (sizeUbL hlm) HCm.out ?_
                         intro wl hb5 hk5
                         rw [spl_whole _ _ (by rw [hlm, List.size_toArray, hzl])] at hb5
                         have hkb : Keep noBlk wk wl := ((Keep.refl noBlk wk).alloc _).trans' hk5 (fun _ _ h => h.elim) (fun i hi e => by omega)
                         clear hk5
                         obtain ⟨bm, hb_⟩ : ∃ b, wk.heap.size = b := ⟨_, rfl⟩
                         rw [hb_] at hb5 ⊢
                         have HBSm := Lib.hid hb_; clear hb_
                         have HBm := Lib.hid hb5; clear hb5)
                      | ((with_reducible show wpList _ _ _ (⟨_, .load 28 (.tmp 17), _, _, _, _⟩ :: _) _ _); refine wpList_load_g (by rfl) 28 (.tmp 17) rfl bm 0 rfl lcm _ (rangeAt_whole HBm.out) ubUnder rfl (sizeUbL hlm) ?_))
                    have HBu := Lib.hid (hkb.blk HBu.out id)
                    have HBv := Lib.hid (hkb.blk HBv.out id)
                    have HK := Lib.hid (HK.out.trans hkb)
                    have HUu := Lib.hid (HUu.out.keep hkb fun _ _ => id)
                    have HUv := Lib.hid (HUv.out.keep hkb fun _ _ => id)
                    have HG := Lib.hid (HG.out.keep hkb)
                    have HOa := Lib.hid (hkb.owns HOa.out fun _ _ => id)
                    have HOb := Lib.hid (hkb.owns HOb.out fun _ _ => id)
                    have HOs := Lib.hid (hkb.owns HOs.out fun _ _ => id)
                    have HR1 := Lib.hid (HR1.out.keep hkb fun _ _ => id)
                    have HR2 := Lib.hid (HR2.out.keep hkb fun _ _ => id)
                    have HR3 := Lib.hid (HR3.out.keep hkb fun _ _ => id)
                    have HR4 := Lib.hid (HR4.out.keep hkb fun _ _ => id)
                    have HB15 := Lib.hid (hkb.blk HB15.out id)
                    have HRD := Lib.hid (HRD.out.keep hkb fun _ _ => id)
                    have HUm := Lib.hid (HUm.out.keep hkb fun _ _ => id)
                    clear hkb
                    have CC : Calls Tryd.prog 12 #[.agg lcm.toArray, .agg Tryd.zeroCells28] wl (TherePost wl true) := by
                      have h := kitU_any wl _ _ zUb zUb HUm.out (ubV_flat wl 0 0)
                      rw [eqB_refl] at h
                      rw [← HLCm.out, zeroUbCells]
                      exact h
                    refine CC.mono ?_
                    clear CC
                    rintro e wm ⟨rfl, hk⟩
                    have HBu := Lib.hid (hk.blk HBu.out id)
                    have HBv := Lib.hid (hk.blk HBv.out id)
                    have HK := Lib.hid (HK.out.trans hk)
                    have HUu := Lib.hid (HUu.out.keep hk fun _ _ => id)
                    have HUv := Lib.hid (HUv.out.keep hk fun _ _ => id)
                    have HG := Lib.hid (HG.out.keep hk)
                    have HOa := Lib.hid (hk.owns HOa.out fun _ _ => id)
                    have HOb := Lib.hid (hk.owns HOb.out fun _ _ => id)
                    have HOs := Lib.hid (hk.owns HOs.out fun _ _ => id)
                    have HR1 := Lib.hid (HR1.out.keep hk fun _ _ => id)
                    have HR2 := Lib.hid (HR2.out.keep hk fun _ _ => id)
                    have HR3 := Lib.hid (HR3.out.keep hk fun _ _ => id)
                    have HR4 := Lib.hid (HR4.out.keep hk fun _ _ => id)
                    have HB15 := Lib.hid (hk.blk HB15.out id)
                    have HRD := Lib.hid (HRD.out.keep hk fun _ _ => id)
                    have HUm := Lib.hid (HUm.out.keep hk fun _ _ => id)
                    have HBm := Lib.hid (hk.blk HBm.out id)
                    clear hk
                    go_wp2_with fail
                    go_ret
                    exact ⟨rfl, HK.out⟩
    · have hu20 : (nu : Int) ≤ 20 := by omega
      have hv20 : (20 : Int) < (nv : Int) := by omega
      go_wp2_with fail
      go_ret
      exact ⟨rfl, HK.out⟩
  · have hu20 : (20 : Int) < (nu : Int) := by omega
    go_wp2_with fail
    go_ret
    exact ⟨rfl, HK.out⟩
theorem uberTorn_walk (w : World) (aF aR : Addr) (hg : ErrG w aF aR) (uv : Value) (U : Ub) (hu : UbV w uv U) (vv : Value) (V : Ub) (hv : UbV w vv V) (no : Bool) (x : Int) (h1 : -9223372036854775808 ≤ x) (h2 : x ≤ 9223372036854775807) :
    Calls Tryd.prog 5 #[.agg (ubCs uv U).toArray, .agg (ubCs vv V).toArray, .bool no, .int .i64 x] w (TherePost w true) := by
  cases no
  · exact utorn_no w aF aR hg uv U hu vv V hv x (Lib.hid h1) (Lib.hid h2)
  · exact utorn_yes w aF aR hg uv U hu vv V hv x (Lib.hid h1) (Lib.hid h2)

end Go.Proofs.YtpkpopgcfgonoaaDoor
