/-
  AddrMay: which addresses may be and which comes first is the same for the program and the document.
  Conditions: none but those of the given statement.
-/
import Derived.Test.YtnpmiocajmhjoaaAwakeAddr
namespace Go.Proofs.Ytnpmiocajmhjoaa
open Go.RowKit
set_option maxRecDepth 100000
set_option linter.unusedVariables false

set_option maxHeartbeats 8000000 in
theorem addrMay_walk (a b : Ad) (devs sectors : Int) (w : World) : Calls Try.prog 3 #[adV a, adV b, .int .i64 devs, .int .i64 sectors] w (TherePost w true) := by
  have cm := fun w => may_any a devs sectors w
  have cr := fun w => rmay_any a devs sectors w
  have cl := fun w => (less_any a b w).mono fun e w' (h : e = .returned (.bool (adLt a b)) ∧ Gr w w') => And.intro h.1 h.2.keep
  have crl := fun w => rless_any a b w
  have cl2 := fun w => (less_any b a w).mono fun e w' (h : e = .returned (.bool (adLt b a)) ∧ Gr w w') => And.intro h.1 h.2.keep
  have crl2 := fun w => rless_any b a w
  have CW := Lib.hid (fun w => (awake_any w).mono fun e w' (h : TherePost w true e w') => (show e = .returned (.bool true) ∧ Keep noBlk w w' from h))
  obtain ⟨m1, hm1⟩ : ∃ m, mayB a devs sectors = m := ⟨_, rfl⟩
  obtain ⟨m2, hm2⟩ : ∃ m, adLt a b = m := ⟨_, rfl⟩
  obtain ⟨m3, hm3⟩ : ∃ m, adLt b a = m := ⟨_, rfl⟩
  obtain ⟨w2, hw2⟩ : ∃ w2, (w.alloc (.cells (adCs a).toArray 23)).alloc (.cells (adCs b).toArray 23) = w2 := ⟨_, rfl⟩
  have hb1 : w2.heap[w.heap.size]? = some (.cells (adCs a).toArray 23 (0, 0)) := by rw [← hw2]; exact heap_alloc2_old _ _ _
  have hb2 : w2.heap[w.heap.size + 1]? = some (.cells (adCs b).toArray 23 (0, 0)) := by rw [← hw2]; exact heap_alloc2_new _ _ _
  have hk2 : Keep noBlk w w2 := by rw [← hw2]; exact ((Keep.refl _ _).alloc _).alloc _
  unfold adV at cm cr cl crl cl2 crl2 ⊢
  obtain ⟨xa, hxa⟩ : ∃ x, adCs a = x := ⟨_, rfl⟩
  obtain ⟨xb, hxb⟩ : ∃ x, adCs b = x := ⟨_, rfl⟩
  have HSA : Hid ((Try.prog.info? 23).map (·.size) = some xa.length) := Lib.hid (by rw [← hxa]; exact sizeAd)
  have HSB : Hid ((Try.prog.info? 23).map (·.size) = some xb.length) := Lib.hid (by rw [← hxb]; exact sizeAd)
  simp only [hm1, hm2, hm3, hxa, hxb] at cm cr cl crl cl2 crl2 hb1 hb2 hw2 ⊢
  have CM := Lib.hid cm; have CR := Lib.hid cr; have CL := Lib.hid cl; have CRL := Lib.hid crl; have CL2 := Lib.hid cl2; have CRL2 := Lib.hid crl2
  have he1 : ∀ w, (binOp .eql 4 (.bool m1) (.bool m1)).run Try.prog w = .ok (.bool true) w := fun w => by cases m1 <;> kernel_rfl
  have he2 : ∀ w, (binOp .eql 4 (.bool m2) (.bool m2)).run Try.prog w = .ok (.bool true) w := fun w => by cases m2 <;> kernel_rfl
  have he3 : ∀ w, (binOp .eql 4 (.bool m3) (.bool m3)).run Try.prog w = .ok (.bool true) w := fun w => by cases m3 <;> kernel_rfl
  obtain ⟨S, hS0⟩ : ∃ S : World → Prop, S = fun w' => Keep noBlk w2 w' := ⟨_, rfl⟩
  have HA := Lib.hid (show ∀ w', S w' → w'.rangeAt w.heap.size 0 xa from fun w' h => by rw [hS0] at h; exact rangeAt_whole (h.blk hb1 id))
  have HB := Lib.hid (show ∀ w', S w' → w'.rangeAt (w.heap.size + 1) 0 xb from fun w' h => by rw [hS0] at h; exact rangeAt_whole (h.blk hb2 id))
  have HSE := Lib.hid (show ∀ w', S w' → Keep noBlk w w' from fun w' h => by rw [hS0] at h; exact hk2.trans h)
  have HSK := Lib.hid (show ∀ w' w'', S w' → Keep noBlk w' w'' → S w'' from fun w' w'' h k => by rw [hS0] at h ⊢; exact h.trans k)
  have hS : S w2.drew := by rw [hS0]; exact (Keep.refl _ _).drew
  clear cm cr cl crl cl2 crl2 hm1 hm2 hm3 hxa hxb hb1 hb2 hk2 hS0
  go_enter Try.func3, Try.ntmps3
  go_wp2_with fail
  clear hw2
  refine wp_region_held (S := S) (by kernel_rfl) ?_
  change wpAnyH _ _ _ _ _ _ _ _ w2.drew
  generalize w2.drew = w3 at *
  refine wpAnyH_take (i := 0) (v := .agg xa.toArray) rfl (by kernel_rfl) (by kernel_rfl) (by kernel_rfl) (fun _ _ _ h => h) (yieldsIf_load_mid (by rfl) 23 (.tmp 4) rfl w.heap.size 0 rfl xa _ HA.out adUnder rfl HSA.out) hS ?_
  simp only [Act.put, List.setIfInBounds_toArray, List.set_cons_zero, List.set_cons_succ, List.getElem_toArray, List.getElem_cons_zero]
  refine wpAnyH_take (i := 1) (v := .int .i64 devs) rfl (by kernel_rfl) (by kernel_rfl) (by kernel_rfl) (fun _ _ _ h => h) (.inl ⟨by rfl, fun _ _ => rfl⟩) hS ?_
  simp only [Act.put, List.setIfInBounds_toArray, List.set_cons_zero, List.set_cons_succ, List.getElem_toArray, List.getElem_cons_succ, List.getElem_cons_zero]
  refine wpAnyH_take (i := 2) (v := .int .i64 sectors) rfl (by kernel_rfl) (by kernel_rfl) (by kernel_rfl) (fun _ _ _ h => h) (.inl ⟨by rfl, fun _ _ => rfl⟩) hS ?_
  simp only [Act.put, List.setIfInBounds_toArray, List.set_cons_zero, List.set_cons_succ, List.getElem_toArray, List.getElem_cons_succ, List.getElem_cons_zero]
  refine wpAnyH_take (i := 4) (v := .agg xa.toArray) rfl (by kernel_rfl) (by kernel_rfl) (by kernel_rfl) (fun _ _ _ h => h) (yieldsIf_load_mid (by rfl) 23 (.tmp 4) rfl w.heap.size 0 rfl xa _ HA.out adUnder rfl HSA.out) hS ?_
  simp only [Act.put, List.setIfInBounds_toArray, List.set_cons_zero, List.set_cons_succ, List.getElem_toArray, List.getElem_cons_succ, List.getElem_cons_zero]
  refine wpAnyH_take (i := 5) (v := .int .i64 devs) rfl (by kernel_rfl) (by kernel_rfl) (by kernel_rfl) (fun _ _ _ h => h) (.inl ⟨by rfl, fun _ _ => rfl⟩) hS ?_
  simp only [Act.put, List.setIfInBounds_toArray, List.set_cons_zero, List.set_cons_succ, List.getElem_toArray, List.getElem_cons_succ, List.getElem_cons_zero]
  refine wpAnyH_take (i := 6) (v := .int .i64 sectors) rfl (by kernel_rfl) (by kernel_rfl) (by kernel_rfl) (fun _ _ _ h => h) (.inl ⟨by rfl, fun _ _ => rfl⟩) hS ?_
  simp only [Act.put, List.setIfInBounds_toArray, List.set_cons_zero, List.set_cons_succ, List.getElem_toArray, List.getElem_cons_succ, List.getElem_cons_zero]
  refine wpAnyH_one (k := 3) rfl (by kernel_rfl) ?_
  go_wp2_with fail
  refine (CM.out _).mono ?_
  rintro e v1 ⟨rfl, hk⟩
  have hS1 := HSK.out _ _ hS hk
  clear hS hk
  go_wp2_with fail
  refine ⟨hS1, ?_⟩
  refine wpAnyH_one (k := 7) rfl (by kernel_rfl) ?_
  go_wp2_with fail
  refine (CR.out _).mono ?_
  rintro e v2 ⟨rfl, hk⟩
  have hS2 := HSK.out _ _ hS1 hk
  clear hS1 hk
  go_wp2_with fail
  refine ⟨hS2, ?_⟩
  refine wpAnyH_take (i := 8) (v := .bool true) rfl (by kernel_rfl) (by kernel_rfl) (by kernel_rfl) (fun _ _ _ h => h) (.inl ⟨by rfl, fun _ _ => ?_⟩) hS2 ?_
  · go_simp
  simp only [Act.put, List.setIfInBounds_toArray, List.set_cons_zero, List.set_cons_succ, List.getElem_toArray, List.getElem_cons_succ, List.getElem_cons_zero]
  refine wpAnyH_take (i := 9) (v := .bool true) rfl (by kernel_rfl) (by kernel_rfl) (by kernel_rfl) (fun _ _ _ h => h) (.inl ⟨by rfl, fun _ _ => rfl⟩) hS2 ?_
  simp only [Act.put, List.setIfInBounds_toArray, List.set_cons_zero, List.set_cons_succ, List.getElem_toArray, List.getElem_cons_succ, List.getElem_cons_zero]
  refine wpAnyH_take (i := 10) (v := .agg xa.toArray) rfl (by kernel_rfl) (by kernel_rfl) (by kernel_rfl) (fun _ _ _ h => h) (yieldsIf_load_mid (by rfl) 23 (.tmp 4) rfl w.heap.size 0 rfl xa _ HA.out adUnder rfl HSA.out) hS2 ?_
  simp only [Act.put, List.setIfInBounds_toArray, List.set_cons_zero, List.set_cons_succ, List.getElem_toArray, List.getElem_cons_succ, List.getElem_cons_zero]
  refine wpAnyH_take (i := 11) (v := .agg xb.toArray) rfl (by kernel_rfl) (by kernel_rfl) (by kernel_rfl) (fun _ _ _ h => h) (yieldsIf_load_mid (by rfl) 23 (.tmp 5) rfl (w.heap.size + 1) 0 rfl xb _ HB.out adUnder rfl HSB.out) hS2 ?_
  simp only [Act.put, List.setIfInBounds_toArray, List.set_cons_zero, List.set_cons_succ, List.getElem_toArray, List.getElem_cons_succ, List.getElem_cons_zero]
  refine wpAnyH_take (i := 13) (v := .agg xa.toArray) rfl (by kernel_rfl) (by kernel_rfl) (by kernel_rfl) (fun _ _ _ h => h) (yieldsIf_load_mid (by rfl) 23 (.tmp 4) rfl w.heap.size 0 rfl xa _ HA.out adUnder rfl HSA.out) hS2 ?_
  simp only [Act.put, List.setIfInBounds_toArray, List.set_cons_zero, List.set_cons_succ, List.getElem_toArray, List.getElem_cons_succ, List.getElem_cons_zero]
  refine wpAnyH_take (i := 14) (v := .agg xb.toArray) rfl (by kernel_rfl) (by kernel_rfl) (by kernel_rfl) (fun _ _ _ h => h) (yieldsIf_load_mid (by rfl) 23 (.tmp 5) rfl (w.heap.size + 1) 0 rfl xb _ HB.out adUnder rfl HSB.out) hS2 ?_
  simp only [Act.put, List.setIfInBounds_toArray, List.set_cons_zero, List.set_cons_succ, List.getElem_toArray, List.getElem_cons_succ, List.getElem_cons_zero]
  refine wpAnyH_one (k := 12) rfl (by kernel_rfl) ?_
  go_wp2_with fail
  refine (CL.out _).mono ?_
  rintro e v3 ⟨rfl, hk⟩
  have hS3 := HSK.out _ _ hS2 hk
  clear hS2 hk
  go_wp2_with fail
  refine ⟨hS3, ?_⟩
  refine wpAnyH_one (k := 15) rfl (by kernel_rfl) ?_
  go_wp2_with fail
  refine (CRL.out _).mono ?_
  rintro e v4 ⟨rfl, hk⟩
  have hS4 := HSK.out _ _ hS3 hk
  clear hS3 hk
  go_wp2_with fail
  refine ⟨hS4, ?_⟩
  refine wpAnyH_take (i := 16) (v := .bool true) rfl (by kernel_rfl) (by kernel_rfl) (by kernel_rfl) (fun _ _ _ h => h) (.inl ⟨by rfl, fun _ _ => ?_⟩) hS4 ?_
  · go_simp
  simp only [Act.put, List.setIfInBounds_toArray, List.set_cons_zero, List.set_cons_succ, List.getElem_toArray, List.getElem_cons_succ, List.getElem_cons_zero]
  refine wpAnyH_take (i := 17) (v := .bool true) rfl (by kernel_rfl) (by kernel_rfl) (by kernel_rfl) (fun _ _ _ h => h) (.inl ⟨by rfl, fun _ _ => ?_⟩) hS4 ?_
  · go_simp
  simp only [Act.put, List.setIfInBounds_toArray, List.set_cons_zero, List.set_cons_succ, List.getElem_toArray, List.getElem_cons_succ, List.getElem_cons_zero]
  refine wpAnyH_take (i := 18) (v := .bool true) rfl (by kernel_rfl) (by kernel_rfl) (by kernel_rfl) (fun _ _ _ h => h) (.inl ⟨by rfl, fun _ _ => rfl⟩) hS4 ?_
  simp only [Act.put, List.setIfInBounds_toArray, List.set_cons_zero, List.set_cons_succ, List.getElem_toArray, List.getElem_cons_succ, List.getElem_cons_zero]
  refine wpAnyH_take (i := 19) (v := .agg xb.toArray) rfl (by kernel_rfl) (by kernel_rfl) (by kernel_rfl) (fun _ _ _ h => h) (yieldsIf_load_mid (by rfl) 23 (.tmp 5) rfl (w.heap.size + 1) 0 rfl xb _ HB.out adUnder rfl HSB.out) hS4 ?_
  simp only [Act.put, List.setIfInBounds_toArray, List.set_cons_zero, List.set_cons_succ, List.getElem_toArray, List.getElem_cons_succ, List.getElem_cons_zero]
  refine wpAnyH_take (i := 20) (v := .agg xa.toArray) rfl (by kernel_rfl) (by kernel_rfl) (by kernel_rfl) (fun _ _ _ h => h) (yieldsIf_load_mid (by rfl) 23 (.tmp 4) rfl w.heap.size 0 rfl xa _ HA.out adUnder rfl HSA.out) hS4 ?_
  simp only [Act.put, List.setIfInBounds_toArray, List.set_cons_zero, List.set_cons_succ, List.getElem_toArray, List.getElem_cons_succ, List.getElem_cons_zero]
  refine wpAnyH_take (i := 22) (v := .agg xb.toArray) rfl (by kernel_rfl) (by kernel_rfl) (by kernel_rfl) (fun _ _ _ h => h) (yieldsIf_load_mid (by rfl) 23 (.tmp 5) rfl (w.heap.size + 1) 0 rfl xb _ HB.out adUnder rfl HSB.out) hS4 ?_
  simp only [Act.put, List.setIfInBounds_toArray, List.set_cons_zero, List.set_cons_succ, List.getElem_toArray, List.getElem_cons_succ, List.getElem_cons_zero]
  refine wpAnyH_take (i := 23) (v := .agg xa.toArray) rfl (by kernel_rfl) (by kernel_rfl) (by kernel_rfl) (fun _ _ _ h => h) (yieldsIf_load_mid (by rfl) 23 (.tmp 4) rfl w.heap.size 0 rfl xa _ HA.out adUnder rfl HSA.out) hS4 ?_
  simp only [Act.put, List.setIfInBounds_toArray, List.set_cons_zero, List.set_cons_succ, List.getElem_toArray, List.getElem_cons_succ, List.getElem_cons_zero]
  refine wpAnyH_one (k := 21) rfl (by kernel_rfl) ?_
  go_wp2_with fail
  refine (CL2.out _).mono ?_
  rintro e v5 ⟨rfl, hk⟩
  have hS5 := HSK.out _ _ hS4 hk
  clear hS4 hk
  go_wp2_with fail
  refine ⟨hS5, ?_⟩
  refine wpAnyH_one (k := 24) rfl (by kernel_rfl) ?_
  go_wp2_with fail
  refine (CRL2.out _).mono ?_
  rintro e v6 ⟨rfl, hk⟩
  have hS6 := HSK.out _ _ hS5 hk
  clear hS5 hk
  go_wp2_with fail
  refine ⟨hS6, ?_⟩
  refine wpAnyH_take (i := 25) (v := .bool true) rfl (by kernel_rfl) (by kernel_rfl) (by kernel_rfl) (fun _ _ _ h => h) (.inl ⟨by rfl, fun _ _ => ?_⟩) hS6 ?_
  · go_simp
  simp only [Act.put, List.setIfInBounds_toArray, List.set_cons_zero, List.set_cons_succ, List.getElem_toArray, List.getElem_cons_succ, List.getElem_cons_zero]
  refine wpAnyH_take (i := 26) (v := .bool true) rfl (by kernel_rfl) (by kernel_rfl) (by kernel_rfl) (fun _ _ _ h => h) (.inl ⟨by rfl, fun _ _ => ?_⟩) hS6 ?_
  · go_simp
  simp only [Act.put, List.setIfInBounds_toArray, List.set_cons_zero, List.set_cons_succ, List.getElem_toArray, List.getElem_cons_succ, List.getElem_cons_zero]
  refine wpAnyH_take (i := 27) (v := .bool true) rfl (by kernel_rfl) (by kernel_rfl) (by kernel_rfl) (fun _ _ _ h => h) (.inl ⟨by rfl, fun _ _ => rfl⟩) hS6 ?_
  simp only [Act.put, List.setIfInBounds_toArray, List.set_cons_zero, List.set_cons_succ, List.getElem_toArray, List.getElem_cons_succ, List.getElem_cons_zero]
  refine wpAnyH_one (k := 28) rfl (by kernel_rfl) ?_
  go_wp2_with fail
  refine (CW.out _).mono ?_
  rintro e v7 ⟨rfl, hk⟩
  have hS7 := HSK.out _ _ hS6 hk
  clear hS6 hk
  go_wp2_with fail
  refine ⟨hS7, ?_⟩
  refine wpAnyH_take (i := 29) (v := .bool true) rfl (by kernel_rfl) (by kernel_rfl) (by kernel_rfl) (fun _ _ _ h => h) (.inl ⟨by rfl, fun _ _ => ?_⟩) hS7 ?_
  · go_simp
  simp only [Act.put, List.setIfInBounds_toArray, List.set_cons_zero, List.set_cons_succ, List.getElem_toArray, List.getElem_cons_succ, List.getElem_cons_zero]
  refine wpAnyH_take (i := 30) (v := .bool true) rfl (by kernel_rfl) (by kernel_rfl) (by kernel_rfl) (fun _ _ _ h => h) (.inl ⟨by rfl, fun _ _ => rfl⟩) hS7 ?_
  simp only [Act.put, List.setIfInBounds_toArray, List.set_cons_zero, List.set_cons_succ, List.getElem_toArray, List.getElem_cons_succ, List.getElem_cons_zero]
  refine wpAnyH_done (by kernel_rfl) ?_ _
  have HKE := Lib.hid (HSE.out _ hS7)
  clear hS7
  go_wp2_with fail
  go_ret
  exact ⟨rfl, HKE.out⟩
end Go.Proofs.Ytnpmiocajmhjoaa
