/-
  The chapter's uberblock (one).
  Conditions: none.
-/
import Derived.Test.YtpkpopgcfgonoaaDoorUnpackU
import Derived.Test.YtpkpopgcfgonoaaDoorUbP
import Derived.Test.YtpkpopgcfgonoaaDoorPtrN
import Derived.Test.YtpkpopgcfgonoaaDoorPtrC
import Derived.Test.YtpkpopgcfgonoaaDoorBytes
namespace Go.Proofs.YtpkpopgcfgonoaaDoor
open Go.RowKit
set_option maxRecDepth 100000
set_option linter.unusedVariables false

def oneUb : Ub := ⟨258, zPt, 300, zeros32⟩
theorem oneUb_may : oneUb.may = true := by decide
theorem buildOneUb (w : World) : (Instr.build 28 #[(0, .int .i64 258), (2, .int .i64 300)]).run Tryd.prog w = .ok (.agg (ubCs (.slice none 0 0) oneUb).toArray) w := by kernel_rfl
theorem ubV_one (w : World) : UbV w (.slice none 0 0) oneUb := ⟨⟨Rd.of_owns (World.ownsRow_nil w 0 31 2), (fun x hx => by cases hx), rfl⟩, rfl⟩
set_option maxHeartbeats 1000000 in
theorem oneU_any (w : World) : Calls Tryd.prog 6 #[] w fun e w' => e = .returned (.agg (ubCs (.slice none 0 0) oneUb).toArray) ∧ Keep noBlk w w' := by
  obtain ⟨zc, hzc, hzl⟩ : ∃ zc, ubCs (.slice none 0 0) zUb = zc ∧ zc.length = 69 := ⟨_, rfl, rfl⟩
  have hzv : ∀ w, (zeroValue 28).run Tryd.prog w = .ok (.agg zc.toArray) w := by rw [← hzc]; exact zeroValUb
  obtain ⟨oc, hoc, hol, hoo⟩ : ∃ oc, ubCs (.slice none 0 0) oneUb = oc ∧ oc.length = 69 ∧ ∀ u ∈ oc, u.oneCell' = true := ⟨_, rfl, rfl, oneCell_ub _⟩
  have hbd : ∀ w, (Instr.build 28 #[(0, .int .i64 258), (2, .int .i64 300)]).run Tryd.prog w = .ok (.agg oc.toArray) w := by rw [← hoc]; exact buildOneUb
  have hzs2 : (Tryd.zeroCells28.setIfInBounds 0 (.int .i64 258)).setIfInBounds 36 (.int .i64 300) = oc.toArray := by rw [← hoc]; kernel_rfl
  have HZ2 := Lib.hid hzs2
  clear hzs2
  have hzs : (zc.set 0 (.int .i64 258)).set 36 (.int .i64 300) = oc := by rw [← hoc, ← hzc]; rfl
  have HO := Lib.hid hoc
  clear hzc hoc
  go_enter Tryd.func6, Tryd.ntmps6
  go_wp2_with (first
    | (refine wpList_alloc_at rfl 28 rfl _ hzv zc.toArray rfl ?_; clear hzv)
    | ((with_reducible show wpList _ _ _ (⟨none, .store 28 (.tmp 0) (.tmp 1), _, _, _, _⟩ :: _) _ _); (refine wpList_store_agg rfl 28 (.tmp 0) (.tmp 1) rfl w.heap.size 0 oc rfl (by first | rfl | (rw [← HZ2.out]; rfl) | (rw [← hzs]; rfl)) zc.toArray 28 (heap_alloc_new _ _) (by rw [List.size_toArray, hzl, hol]; exact Nat.le_refl _) (sizeUbL hol) hoo ?_); intro w2 hb2 hk2; have HB2 := Lib.hid hb2; have HK2 := Lib.hid hk2; clear hb2 hk2))
  refine bodyPost_ret (results_cell_row rfl _ _ w.heap.size _ _ _ _ rfl HB2.out ubUnder rfl (by rw [spl_size, List.size_toArray]; exact sizeUbL hzl)) rfl ⟨?_, ?_⟩
  · rw [spl_whole _ _ (by rw [List.size_toArray, hzl, hol]), HO.out]
  · exact ((Keep.refl noBlk w).alloc _).trans' HK2.out (fun _ _ h => h) (fun i hi e => by omega)
end Go.Proofs.YtpkpopgcfgonoaaDoor

/-
  Uberblocks that were read; some of the chapter's examples (awake)
  Conditions: none.
-/
namespace Go.Proofs.YtpkpopgcfgonoaaDoor
open Go.RowKit Go.Maps Go.ChangeMaps
set_option maxRecDepth 100000
set_option linter.unusedVariables false

theorem unpackU_lens (b : List UInt8) : (unpackU b).1.root.sum.length = 32 ∧ (unpackU b).1.pool.length = 32 ∧ AdsOk (unpackU b).1.root.addrs := by
  by_cases h : (unpackU b).2 = 0
  · obtain ⟨hl, he, -, -⟩ := unpackU_ok h
    rw [he]
    exact ⟨ubOf_sum hl, ubOf_pool hl, adsOf_ok _ _⟩
  · rw [unpackU_no h]
    exact ⟨rfl, rfl, fun x hx => by cases hx⟩
theorem unpackU_len (b : List UInt8) : (unpackU b).1.root.addrs.length ≤ 3 := by
  by_cases h : (unpackU b).2 = 0
  · obtain ⟨hl, he, -, -⟩ := unpackU_ok h
    rw [he]
    exact adsOf_len _ _
  · rw [unpackU_no h]
    exact Nat.zero_le _
/-- What Unpack tells, told by its parts. -/
theorem UUnpackPost.V {w w' : World} {b : List UInt8} {e : Ending} (h : UUnpackPost w (unpackU b) e w') : ∃ v, e = .returned (.tuple #[.agg (ubCs v (unpackU b).1).toArray, .int .i64 (unpackU b).2]) ∧ UbV w' v (unpackU b).1 ∧
    w'.ownsRow w.heap.size 31 2 v (unpackU b).1.root.addrs.length (adCells (unpackU b).1.root.addrs) ∧ Keep noBlk w w' := by
  obtain ⟨v, he, ho, hk⟩ := h
  obtain ⟨h1, h2, h3⟩ := unpackU_lens b
  exact ⟨v, he, ⟨⟨Rd.of_owns ho, h3, h1⟩, h2⟩, ho, hk⟩
theorem rd_takeU {w : World} {v : Value} {l : List UInt8} (h : Rd w 1 v l.length (l.map vb)) {g : Nat} {o n c : Nat} (hv : v = .slice (some ⟨g, o, none⟩) n c) (i k cap : Nat) (hik : i + k ≤ l.length) (hcap : k ≤ cap) (hm : cap ≤ maxLen) :
    Rd w 1 (.slice (some ⟨g, o + i, none⟩) k cap) ((l.drop i).take k).length (((l.drop i).take k).map vb) := by
  obtain ⟨h0, a, cp, rfl, h1, h2, h3, h4⟩ := h
  have hk : ((l.drop i).take k).length = k := by simp; omega
  refine ⟨by simp, _, cap, by rw [hk], by rw [hk]; exact hcap, hm, (by intro h; cases h), fun hpos => ⟨g, o + i, rfl, fun j u hu => ?_⟩⟩
  have hl0 : 0 < (l.map vb).length := by simp at hpos ⊢; omega
  obtain ⟨g', o', rfl, hc⟩ := h4 hl0
  cases hv
  rw [Nat.add_assoc]
  refine hc _ _ ?_
  rw [List.map_take, List.map_drop, List.getElem?_take] at hu
  split at hu
  · rwa [List.getElem?_drop] at hu
  · cases hu
theorem one_pool : oneUb.pool.length = 32 := rfl
theorem one_sum : oneUb.root.sum.length = 32 := rfl
theorem one_eq : oneUb.eqB oneUb = true := by decide
theorem packOne_len : (packU oneUb).length = 256 := packU_len one_pool one_sum oneUb_may
theorem packOne_mid : ((packU oneUb).drop 40).take 9 = [0, 0, 0, 1, 2, 0, 1, 44, 0] := by
  unfold packU
  rw [oneUb_may, if_pos rfl, List.drop_append_of_le_length (by rw [ubBody_len one_pool one_sum]; omega), List.take_append_of_le_length (by rw [List.length_drop, ubBody_len one_pool one_sum]; omega)]
  decide
/-- A slice of bytes that owns 256 of them. -/
theorem own256 {w : World} {B n : Nat} {v : Value} {l : List UInt8} (h : w.ownsRow B 5 1 v n (l.map vb)) (hn : n = 256) : ∃ g c, v = .slice (some ⟨g, 0, none⟩) 256 c ∧ 256 ≤ c ∧ c ≤ maxLen := by
  obtain ⟨a, cp, h1, h2, h3⟩ := (Rd.of_owns h).form
  rcases h.2 with ⟨-, h0⟩ | ⟨g, cap, cur, e, -⟩
  · have := h.1; rw [h0] at this; simp at this; omega
  · rw [e] at h1; cases h1; exact ⟨g, cp, by rw [e, hn], by omega, h3⟩

set_option maxHeartbeats 8000000 in
theorem awakeB_any (w : World) (aF aR : Addr) (hg : ErrG w aF aR) : Calls Tryd.prog 9 #[] w (TherePost w true) := by
  go_enter Tryd.func9, Tryd.ntmps9
  go_wp2_with fail
  refine (oneU_any w).mono ?_
  rintro e w1 ⟨rfl, hk1⟩
  have HG1 := Lib.hid (hg.keep hk1); have HK1 := Lib.hid hk1
  clear hk1 hg
  obtain ⟨oc, hoc⟩ : ∃ oc, ubCs (.slice none 0 0) oneUb = oc := ⟨_, rfl⟩
  have hol : oc.length = 69 := by rw [← hoc]; rfl
  have CP := upack_any w1 (.slice none 0 0) oneUb (ubV_one w1)
  rw [hoc] at CP ⊢
  have HOC := Lib.hid hoc; have CP := Lib.hid CP
  clear hoc
  go_wp2_with fail
  refine CP.out.mono ?_
  clear CP
  rintro e w2 ⟨v2, rfl, hown, hk2⟩
  rw [oneUb_may]
  obtain ⟨g, c, rfl, hc, hcm⟩ := own256 hown packOne_len
  unfold maxLen at hcm
  have HRD := Lib.hid (Rd.of_owns hown); have HK2 := Lib.hid (HK1.out.trans hk2); have HG2 := Lib.hid (HG1.out.keep hk2)
  clear hown hk2 HK1 HG1
  have k1 := conv_rd (rd_takeU HRD.out rfl 0 8 c (by rw [packOne_len]; omega) (by omega) (by unfold maxLen; omega))
  rw [List.drop_zero, packU_0 oneUb_may, Nat.add_zero] at k1
  have hsl : (strB ubHead).toList = [67, 65, 85, 76, 75, 69, 82, 50] := by unfold strB; rw [ByteArray.toList_mk]; rfl
  go_wp2_with fail
  clear hsl k1
  have hmid := packOne_mid
  have K3 : Keep noBlk w2 (w2.alloc (.cells (([0, 0, 0, 1, 2, 0, 1, 44, 0] : List UInt8).map vb).toArray 5)) := (Keep.refl _ _).alloc _
  have r1 := rd_takeU HRD.out rfl 40 9 (c - 40) (by rw [packOne_len]; omega) (by omega) (by unfold maxLen; omega)
  rw [hmid, Nat.zero_add] at r1
  have r2 := rd_litU w2 [0, 0, 0, 1, 2, 0, 1, 44, 0] 5 (0, 0) (by decide)
  refine (same_any _ _ _ [0, 0, 0, 1, 2, 0, 1, 44, 0] [0, 0, 0, 1, 2, 0, 1, 44, 0] (r1.keep K3 fun _ _ => id) r2 true (by simp)).mono ?_
  rintro e w3 ⟨rfl, hw3⟩
  have HK3 := Lib.hid (show Keep noBlk w2 w3 by rw [← hw3]; exact K3)
  clear hw3 r1 r2 hmid K3
  go_wp2_with fail
  have C4 := (uunpack_any w3 aF aR (HG2.out.keep HK3.out) _ (packU oneUb) (HRD.out.keep HK3.out fun _ _ => id) (by rw [packOne_len]; omega)).mono fun e w' h => UUnpackPost.V h
  rw [unpackU_back one_pool one_sum oneUb_may] at C4
  refine C4.mono ?_
  clear C4
  rintro e w4 ⟨v4, rfl, hu4, ho4, hk4⟩
  obtain ⟨a4, c4, hv4, -, -⟩ := hu4.root.rd.form
  have hv4' : v4 = .slice a4 0 c4 := hv4
  subst hv4'
  clear hv4
  obtain ⟨lc, hlc⟩ : ∃ lc, ubCs (.slice a4 0 c4) (oneUb, (0 : Int)).1 = lc := ⟨_, rfl⟩
  have hlcl : lc.length = 69 := by rw [← hlc]; exact ubCs_len one_sum one_pool
  have hlco : ∀ u ∈ lc, u.oneCell' = true := by rw [← hlc]; exact oneCell_ub _
  have HLC := Lib.hid hlc; have HU4 := Lib.hid hu4
  rw [hlc]
  have HK4 := Lib.hid (HK2.out.trans (HK3.out.trans hk4))
  clear hk4 hlc hu4 ho4 HRD HG2
  obtain ⟨zc, hzc, hzl⟩ : ∃ zc, ubCs (.slice none 0 0) zUb = zc ∧ zc.length = 69 := ⟨_, rfl, rfl⟩
  have hzv : ∀ w, (zeroValue 28).run Tryd.prog w = .ok (.agg zc.toArray) w := by rw [← hzc]; exact zeroValUb
  clear hzc
  go_wp2_with (first
    | (refine wpList_alloc_at rfl 28 rfl _ hzv zc.toArray rfl ?_)
    | ((with_reducible show wpList _ _ _ (⟨none, .store 28 (.tmp 3) (.tmp 33), _, _, _, _⟩ :: _) _ _); refine wpList_store_agg rfl 28 (.tmp 3) (.tmp 33) rfl w4.heap.size 0 lc rfl rfl zc.toArray _ (heap_alloc_new _ _) (by rw [hlcl, List.size_toArray, hzl]; exact Nat.le_refl _) (sizeUbL hlcl) hlco ?_; intro w5 hb5 hk5; have HB5 := Lib.hid hb5; have HK5 := Lib.hid hk5; clear hb5 hk5))
  obtain ⟨b3, hb3⟩ : ∃ b3, w4.heap.size = b3 := ⟨_, rfl⟩
  have HBL : Hid (w5.heap[b3]? = some (.cells lc.toArray 28 (0, 0))) := Lib.hid (by
    have := HB5.out
    rw [spl_whole _ _ (by rw [hlcl, List.size_toArray, hzl]), hb3] at this
    exact this)
  have hk45 : Keep noBlk w4 w5 := ((Keep.refl noBlk w4).alloc _).trans' HK5.out (fun _ _ h => h.elim) (fun i hi e => by omega)
  have HKE := Lib.hid (HK4.out.trans hk45)
  have hu5 := HU4.out.keep hk45 fun _ _ => id
  have CS : ∀ wx, Keep noBlk w5 wx → Calls Tryd.prog 12 #[.agg lc.toArray, .agg oc.toArray] wx (TherePost wx true) := fun wx k => by
    have h := kitU_any wx (.slice a4 0 c4) (.slice none 0 0) oneUb oneUb (hu5.keep k fun _ _ => id) (ubV_one wx)
    rw [one_eq] at h
    rw [← HLC.out, ← HOC.out]
    exact h
  have CT : ∀ wx, Keep noBlk w5 wx → Calls Tryd.prog 10 #[.agg lc.toArray, .agg oc.toArray] wx (TherePost wx true) := fun wx k => by
    have h := sameU_any wx (.slice a4 0 c4) (.slice none 0 0) oneUb oneUb (hu5.keep k fun _ _ => id) (ubV_one wx)
    rw [one_eq] at h
    rw [← HLC.out, ← HOC.out]
    exact h
  have C1 : ∀ wx, Calls Tryd.prog 6 #[] wx (fun e w' => e = .returned (.agg oc.toArray) ∧ Keep noBlk wx w') := fun wx => by rw [← HOC.out]; exact oneU_any wx
  have CS := Lib.hid CS; have CT := Lib.hid CT; have C1 := Lib.hid C1
  rw [hb3]
  clear hb3 HB5 HK5 HK3 HK2 hk45 hu5 hzv HU4 HK4
  obtain ⟨S, hS0⟩ : ∃ S : World → Prop, S = fun w' => Keep noBlk w5 w' := ⟨_, rfl⟩
  have HSE := Lib.hid (show ∀ w', S w' → Keep noBlk w5 w' from fun w' h => by rw [hS0] at h; exact h)
  have HSI := Lib.hid (show ∀ w', Keep noBlk w5 w' → S w' from fun w' h => by rw [hS0]; exact h)
  have hS : S w5.drew := by rw [hS0]; exact (Keep.refl _ _).drew
  clear hS0
  refine wp_region_held (S := S) (by kernel_rfl) ?_
  change wpAnyH _ _ _ _ _ _ _ _ w5.drew
  generalize w5.drew = w6 at hS ⊢
  refine wpAnyH_take (i := 0) (v := .int .i64 0) rfl (by kernel_rfl) (by kernel_rfl) (by kernel_rfl) (fun _ _ _ h => h) (.inl ⟨by rfl, fun _ _ => rfl⟩) hS ?_
  simp only [Act.put, List.setIfInBounds_toArray, List.set_cons_zero, List.set_cons_succ, List.getElem_toArray, List.getElem_cons_zero]
  refine wpAnyH_take (i := 1) (v := .bool true) rfl (by kernel_rfl) (by kernel_rfl) (by kernel_rfl) (fun _ _ _ h => h) (.inl ⟨by rfl, fun _ _ => by go_simp⟩) hS ?_
  simp only [Act.put, List.setIfInBounds_toArray, List.set_cons_zero, List.set_cons_succ, List.getElem_toArray, List.getElem_cons_succ, List.getElem_cons_zero]
  refine wpAnyH_take (i := 2) (v := .bool true) rfl (by kernel_rfl) (by kernel_rfl) (by kernel_rfl) (fun _ _ _ h => h) (.inl ⟨by rfl, fun _ _ => rfl⟩) hS ?_
  simp only [Act.put, List.setIfInBounds_toArray, List.set_cons_zero, List.set_cons_succ, List.getElem_toArray, List.getElem_cons_succ, List.getElem_cons_zero]
  refine wpAnyH_take (i := 3) (v := .agg (lc).toArray) rfl (by kernel_rfl) (by kernel_rfl) (by kernel_rfl) (fun _ _ _ h => h) (yieldsIf_load_mid (by rfl) 28 (.tmp 3) rfl (b3) (0) rfl (lc) _ (fun w' h => rangeAt_whole ((HSE.out w' h).blk HBL.out id)) ubUnder rfl (sizeUbL hlcl)) hS ?_
  simp only [Act.put, List.setIfInBounds_toArray, List.set_cons_zero, List.set_cons_succ, List.getElem_toArray, List.getElem_cons_succ, List.getElem_cons_zero]
  refine wpAnyH_one (k := 4) rfl (by kernel_rfl) ?_
  go_wp2_with fail
  refine (C1.out w6).mono ?_
  rintro e w7 ⟨rfl, hk⟩
  have hS1 := HSI.out _ ((HSE.out _ hS).trans hk)
  clear hS hk
  go_wp2_with fail
  refine ⟨hS1, ?_⟩
  refine wpAnyH_one (k := 5) rfl (by kernel_rfl) ?_
  go_wp2_with fail
  refine (CS.out w7 (HSE.out _ hS1)).mono ?_
  rintro e w8 ⟨rfl, hk⟩
  have hS2 := HSI.out _ ((HSE.out _ hS1).trans hk)
  clear hS1 hk
  go_wp2_with fail
  refine ⟨hS2, ?_⟩
  refine wpAnyH_take (i := 6) (v := .bool true) rfl (by kernel_rfl) (by kernel_rfl) (by kernel_rfl) (fun _ _ _ h => h) (.inl ⟨by rfl, fun _ _ => rfl⟩) hS2 ?_
  simp only [Act.put, List.setIfInBounds_toArray, List.set_cons_zero, List.set_cons_succ, List.getElem_toArray, List.getElem_cons_succ, List.getElem_cons_zero]
  refine wpAnyH_take (i := 7) (v := .bool true) rfl (by kernel_rfl) (by kernel_rfl) (by kernel_rfl) (fun _ _ _ h => h) (.inl ⟨by rfl, fun _ _ => rfl⟩) hS2 ?_
  simp only [Act.put, List.setIfInBounds_toArray, List.set_cons_zero, List.set_cons_succ, List.getElem_toArray, List.getElem_cons_succ, List.getElem_cons_zero]
  refine wpAnyH_take (i := 8) (v := .agg (lc).toArray) rfl (by kernel_rfl) (by kernel_rfl) (by kernel_rfl) (fun _ _ _ h => h) (yieldsIf_load_mid (by rfl) 28 (.tmp 3) rfl (b3) (0) rfl (lc) _ (fun w' h => rangeAt_whole ((HSE.out w' h).blk HBL.out id)) ubUnder rfl (sizeUbL hlcl)) hS2 ?_
  simp only [Act.put, List.setIfInBounds_toArray, List.set_cons_zero, List.set_cons_succ, List.getElem_toArray, List.getElem_cons_succ, List.getElem_cons_zero]
  refine wpAnyH_one (k := 9) rfl (by kernel_rfl) ?_
  go_wp2_with fail
  refine (C1.out w8).mono ?_
  rintro e w9 ⟨rfl, hk⟩
  have hS3 := HSI.out _ ((HSE.out _ hS2).trans hk)
  clear hS2 hk
  go_wp2_with fail
  refine ⟨hS3, ?_⟩
  refine wpAnyH_one (k := 10) rfl (by kernel_rfl) ?_
  go_wp2_with fail
  refine (CT.out w9 (HSE.out _ hS3)).mono ?_
  rintro e wa ⟨rfl, hk⟩
  have hS4 := HSI.out _ ((HSE.out _ hS3).trans hk)
  clear hS3 hk
  go_wp2_with fail
  refine ⟨hS4, ?_⟩
  refine wpAnyH_take (i := 11) (v := .bool true) rfl (by kernel_rfl) (by kernel_rfl) (by kernel_rfl) (fun _ _ _ h => h) (.inl ⟨by rfl, fun _ _ => rfl⟩) hS4 ?_
  simp only [Act.put, List.setIfInBounds_toArray, List.set_cons_zero, List.set_cons_succ, List.getElem_toArray, List.getElem_cons_succ, List.getElem_cons_zero]
  refine wpAnyH_take (i := 12) (v := .bool true) rfl (by kernel_rfl) (by kernel_rfl) (by kernel_rfl) (fun _ _ _ h => h) (.inl ⟨by rfl, fun _ _ => rfl⟩) hS4 ?_
  simp only [Act.put, List.setIfInBounds_toArray, List.set_cons_zero, List.getElem_toArray, List.getElem_cons_succ, List.getElem_cons_zero]
  refine wpAnyH_done (by kernel_rfl) ?_ _
  have HKR := Lib.hid (HSE.out _ hS4)
  clear hS4 HSE HSI
  go_wp2_with fail
  go_ret
  exact ⟨rfl, HKE.out.trans HKR.out⟩
end Go.Proofs.YtpkpopgcfgonoaaDoor
