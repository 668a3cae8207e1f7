/-
  AddrKnown: the chapter's examples are answered as it says.
  Conditions: none.
-/
import Derived.Test.YtnpmiocajmhjoaaApartAddr
namespace Go.Proofs.Ytnpmiocajmhjoaa
open Go.RowKit Go.Maps Go.ChangeMaps
set_option maxRecDepth 100000
set_option linter.unusedVariables false

theorem yes_of {P : Program} {f : FuncId} {args : Array Value} {w : World} {b b' : Bool} (h : Calls P f args w fun e w' => e = .returned (.bool b) ∧ Keep noBlk w w') (hb : b = b') : Calls P f args w fun e w' => e = .returned (.bool b') ∧ Keep noBlk w w' := hb ▸ h
theorem told_of {P : Program} {f : FuncId} {args : Array Value} {w : World} {l l' : List Ad} (h : Calls P f args w (ListPost w l)) (hl : l = l') : Calls P f args w (ListPost w l') := hl ▸ h
theorem canon_dec {e m : List Ad} (h1 : Rises e) (h2 : ∀ x ∈ e, x ∈ m) (h3 : ∀ x ∈ m, x ∈ e) : canon m = e := (canon_eq h1 fun x => ⟨h2 x, h3 x⟩).symm
instance (l : List Ad) : Decidable (Rises l) := by unfold Rises; infer_instance

set_option maxHeartbeats 8000000 in
theorem addrKnown_walk (w : World) : Calls Try.prog 7 #[] w (TherePost w true) := by
  have CW := Lib.hid (fun w => (awake_any w).mono fun e w' (h : TherePost w true e w') => (show e = .returned (.bool true) ∧ Keep noBlk w w' from h))
  have HK := Lib.hid (Keep.refl noBlk w)
  go_enter Try.func7, Try.ntmps7
  go_wp2_with fail
  refine (at_any 2 5 _).mono ?_
  rintro e w1 ⟨rfl, hk⟩
  have HK := Lib.hid (HK.out.trans hk)
  clear hk
  go_wp2_with fail
  refine (yes_of (may_any ⟨2, 5⟩ 2 8 _) (show mayB ⟨2, 5⟩ 2 8 = false by decide)).mono ?_
  rintro e w2 ⟨rfl, hk⟩
  have HK := Lib.hid (HK.out.trans hk)
  clear hk
  go_wp2_with fail
  refine (at_any 0 8 _).mono ?_
  rintro e w3 ⟨rfl, hk⟩
  have HK := Lib.hid (HK.out.trans hk)
  clear hk
  go_wp2_with fail
  refine (yes_of (may_any ⟨0, 8⟩ 2 8 _) (show mayB ⟨0, 8⟩ 2 8 = false by decide)).mono ?_
  rintro e w4 ⟨rfl, hk⟩
  have HK := Lib.hid (HK.out.trans hk)
  clear hk
  go_wp2_with fail
  refine (at_any 1 5 _).mono ?_
  rintro e w5 ⟨rfl, hk⟩
  have HK := Lib.hid (HK.out.trans hk)
  clear hk
  go_wp2_with fail
  refine (at_any 1 5 _).mono ?_
  rintro e w6 ⟨rfl, hk⟩
  have HK := Lib.hid (HK.out.trans hk)
  clear hk
  go_wp2_with fail
  refine (yes_of (lessC ⟨1, 5⟩ ⟨1, 5⟩ _) (show adLt ⟨1, 5⟩ ⟨1, 5⟩ = false by decide)).mono ?_
  rintro e w7 ⟨rfl, hk⟩
  have HK := Lib.hid (HK.out.trans hk)
  clear hk
  go_wp2_with fail
  refine (lawof_any _ _ [0, 5, 1, 5] (rd_blk (n := 4) (size := 1) (heap_alloc_new _ _) rfl (by unfold maxLen; omega)) (by decide)).mono ?_
  rintro e w8 ⟨v, rfl, ho2, hk1⟩
  have hk2 : Keep noBlk w7 w8 := ((Keep.refl noBlk w7).alloc _).trans hk1
  clear hk1
  have HK := Lib.hid (HK.out.trans hk2)
  obtain ⟨La, hLa⟩ : ∃ l : List Ad, pairs [0, 5, 1, 5] = l := ⟨_, rfl⟩
  have HELa := Lib.hid hLa
  have HALa : Hid (AdsOk La) := Lib.hid (by rw [← hLa]; exact (fun x hx => by simp only [pairs, List.mem_cons, List.not_mem_nil, or_false] at hx; rcases hx with rfl | rfl <;> exact ⟨⟨by decide, by decide⟩, by decide, by decide⟩))
  rw [hLa] at ho2
  clear hLa
  obtain ⟨na, hna⟩ : ∃ k, La.length = k := ⟨_, rfl⟩
  have HNLa := Lib.hid hna
  rw [hna] at ho2
  obtain ⟨aLa, cLa, hvLa, -, -⟩ := (Rd.of_owns ho2).form
  subst hvLa
  have HRLa := Lib.hid (Rd.of_owns ho2)
  clear ho2 hk2 hna
  go_wp2_with fail
  refine (yes_of (apart_any _ _ La HALa.out (by rw [HNLa.out]; exact HRLa.out)) (show decide ((La.map (·.dev)).Nodup) = true by rw [← HELa.out]; decide)).mono ?_
  rintro e w9 ⟨rfl, hk⟩
  have HK := Lib.hid (HK.out.trans hk)
  have HRLa := Lib.hid (HRLa.out.keep hk fun _ _ => id)
  clear hk
  go_wp2_with fail
  clear HRLa
  refine (lawof_any _ _ [0, 5, 0, 6] (rd_blk (n := 4) (size := 1) (heap_alloc_new _ _) rfl (by unfold maxLen; omega)) (by decide)).mono ?_
  rintro e wa ⟨v, rfl, ho2, hk1⟩
  have hk2 : Keep noBlk w9 wa := ((Keep.refl noBlk w9).alloc _).trans hk1
  clear hk1
  have HK := Lib.hid (HK.out.trans hk2)
  obtain ⟨Lb, hLb⟩ : ∃ l : List Ad, pairs [0, 5, 0, 6] = l := ⟨_, rfl⟩
  have HELb := Lib.hid hLb
  have HALb : Hid (AdsOk Lb) := Lib.hid (by rw [← hLb]; exact (fun x hx => by simp only [pairs, List.mem_cons, List.not_mem_nil, or_false] at hx; rcases hx with rfl | rfl <;> exact ⟨⟨by decide, by decide⟩, by decide, by decide⟩))
  rw [hLb] at ho2
  clear hLb
  obtain ⟨nb, hnb⟩ : ∃ k, Lb.length = k := ⟨_, rfl⟩
  have HNLb := Lib.hid hnb
  rw [hnb] at ho2
  obtain ⟨aLb, cLb, hvLb, -, -⟩ := (Rd.of_owns ho2).form
  subst hvLb
  have HRLb := Lib.hid (Rd.of_owns ho2)
  clear ho2 hk2 hnb
  go_wp2_with fail
  refine (yes_of (apart_any _ _ Lb HALb.out (by rw [HNLb.out]; exact HRLb.out)) (show decide ((Lb.map (·.dev)).Nodup) = false by rw [← HELb.out]; decide)).mono ?_
  rintro e wb ⟨rfl, hk⟩
  have HK := Lib.hid (HK.out.trans hk)
  have HRLb := Lib.hid (HRLb.out.keep hk fun _ _ => id)
  clear hk
  go_wp2_with fail
  clear HRLb
  refine (lawof_any _ _ [0, 5] (rd_blk (n := 2) (size := 1) (heap_alloc_new _ _) rfl (by unfold maxLen; omega)) (by decide)).mono ?_
  rintro e wc ⟨v, rfl, ho2, hk1⟩
  have hk2 : Keep noBlk wb wc := ((Keep.refl noBlk wb).alloc _).trans hk1
  clear hk1
  have HK := Lib.hid (HK.out.trans hk2)
  obtain ⟨Lc0, hLc0⟩ : ∃ l : List Ad, pairs [0, 5] = l := ⟨_, rfl⟩
  have HELc0 := Lib.hid hLc0
  have HALc0 : Hid (AdsOk Lc0) := Lib.hid (by rw [← hLc0]; exact (fun x hx => by simp only [pairs, List.mem_cons, List.not_mem_nil, or_false] at hx; rcases hx with rfl <;> exact ⟨⟨by decide, by decide⟩, by decide, by decide⟩))
  rw [hLc0] at ho2
  clear hLc0
  obtain ⟨nLc0, hnLc0⟩ : ∃ k, Lc0.length = k := ⟨_, rfl⟩
  have HNLc0 := Lib.hid hnLc0
  rw [hnLc0] at ho2
  obtain ⟨aLc0, cLc0, hvLc0, -, -⟩ := (Rd.of_owns ho2).form
  subst hvLc0
  have HRLc0 := Lib.hid (Rd.of_owns ho2)
  clear ho2 hk2 hnLc0
  go_wp2_with fail
  refine (lawof_any _ _ [1, 5, 0, 5] (rd_blk (n := 4) (size := 1) (heap_alloc_new _ _) rfl (by unfold maxLen; omega)) (by decide)).mono ?_
  rintro e wd ⟨v, rfl, ho2, hk1⟩
  have hk2 : Keep noBlk wc wd := ((Keep.refl noBlk wc).alloc _).trans hk1
  clear hk1
  have HK := Lib.hid (HK.out.trans hk2)
  have HRLc0 := Lib.hid (HRLc0.out.keep hk2 fun _ _ => id)
  obtain ⟨Lc1, hLc1⟩ : ∃ l : List Ad, pairs [1, 5, 0, 5] = l := ⟨_, rfl⟩
  have HELc1 := Lib.hid hLc1
  have HALc1 : Hid (AdsOk Lc1) := Lib.hid (by rw [← hLc1]; exact (fun x hx => by simp only [pairs, List.mem_cons, List.not_mem_nil, or_false] at hx; rcases hx with rfl | rfl <;> exact ⟨⟨by decide, by decide⟩, by decide, by decide⟩))
  rw [hLc1] at ho2
  clear hLc1
  obtain ⟨nLc1, hnLc1⟩ : ∃ k, Lc1.length = k := ⟨_, rfl⟩
  have HNLc1 := Lib.hid hnLc1
  rw [hnLc1] at ho2
  obtain ⟨aLc1, cLc1, hvLc1, -, -⟩ := (Rd.of_owns ho2).form
  subst hvLc1
  have HRLc1 := Lib.hid (Rd.of_owns ho2)
  clear ho2 hk2 hnLc1
  go_wp2_with fail
  refine (union_any _ _ _ Lc0 Lc1 HALc0.out HALc1.out (by rw [HNLc0.out]; exact HRLc0.out) (by rw [HNLc1.out]; exact HRLc1.out) (by rw [← HELc0.out, ← HELc1.out]; decide)).mono ?_
  rintro e we ⟨v, rfl, ho2, hk2⟩
  have HK := Lib.hid (HK.out.trans hk2)
  have HRLc0 := Lib.hid (HRLc0.out.keep hk2 fun _ _ => id)
  have HRLc1 := Lib.hid (HRLc1.out.keep hk2 fun _ _ => id)
  obtain ⟨Lc2, hLc2⟩ : ∃ l : List Ad, canon (Lc0 ++ Lc1) = l := ⟨_, rfl⟩
  have HELc2 := Lib.hid hLc2
  have HALc2 : Hid (AdsOk Lc2) := Lib.hid (by rw [← hLc2]; exact (adsOk_canon (fun x hx => by rcases List.mem_append.1 hx with h | h; exact HALc0.out x h; exact HALc1.out x h)))
  rw [hLc2] at ho2
  clear hLc2
  obtain ⟨nLc2, hnLc2⟩ : ∃ k, Lc2.length = k := ⟨_, rfl⟩
  have HNLc2 := Lib.hid hnLc2
  rw [hnLc2] at ho2
  obtain ⟨aLc2, cLc2, hvLc2, -, -⟩ := (Rd.of_owns ho2).form
  subst hvLc2
  have HRLc2 := Lib.hid (Rd.of_owns ho2)
  clear ho2 hk2 hnLc2
  go_wp2_with fail
  refine (lawof_any _ _ [0, 5, 1, 5] (rd_blk (n := 4) (size := 1) (heap_alloc_new _ _) rfl (by unfold maxLen; omega)) (by decide)).mono ?_
  rintro e wf ⟨v, rfl, ho2, hk1⟩
  have hk2 : Keep noBlk we wf := ((Keep.refl noBlk we).alloc _).trans hk1
  clear hk1
  have HK := Lib.hid (HK.out.trans hk2)
  have HRLc0 := Lib.hid (HRLc0.out.keep hk2 fun _ _ => id)
  have HRLc1 := Lib.hid (HRLc1.out.keep hk2 fun _ _ => id)
  have HRLc2 := Lib.hid (HRLc2.out.keep hk2 fun _ _ => id)
  obtain ⟨Lc3, hLc3⟩ : ∃ l : List Ad, pairs [0, 5, 1, 5] = l := ⟨_, rfl⟩
  have HELc3 := Lib.hid hLc3
  have HALc3 : Hid (AdsOk Lc3) := Lib.hid (by rw [← hLc3]; exact (fun x hx => by simp only [pairs, List.mem_cons, List.not_mem_nil, or_false] at hx; rcases hx with rfl | rfl <;> exact ⟨⟨by decide, by decide⟩, by decide, by decide⟩))
  rw [hLc3] at ho2
  clear hLc3
  obtain ⟨nLc3, hnLc3⟩ : ∃ k, Lc3.length = k := ⟨_, rfl⟩
  have HNLc3 := Lib.hid hnLc3
  rw [hnLc3] at ho2
  obtain ⟨aLc3, cLc3, hvLc3, -, -⟩ := (Rd.of_owns ho2).form
  subst hvLc3
  have HRLc3 := Lib.hid (Rd.of_owns ho2)
  clear ho2 hk2 hnLc3
  go_wp2_with fail
  refine (same_any _ _ _ Lc2 Lc3 (by rw [HNLc2.out]; exact HRLc2.out) (by rw [HNLc3.out]; exact HRLc3.out) true (decide_eq_true (by rw [← HELc2.out, ← HELc3.out, ← HELc0.out, ← HELc1.out]; exact canon_dec (by decide) (by decide) (by decide)))).mono ?_
  rintro e wg ⟨rfl, hk⟩
  have HK := Lib.hid (HK.out.trans hk)
  have HRLc0 := Lib.hid (HRLc0.out.keep hk fun _ _ => id)
  have HRLc1 := Lib.hid (HRLc1.out.keep hk fun _ _ => id)
  have HRLc2 := Lib.hid (HRLc2.out.keep hk fun _ _ => id)
  have HRLc3 := Lib.hid (HRLc3.out.keep hk fun _ _ => id)
  clear hk
  go_wp2_with fail
  clear HRLc0 HRLc1 HRLc2 HRLc3
  refine (lawof_any _ _ [0, 5, 1, 5] (rd_blk (n := 4) (size := 1) (heap_alloc_new _ _) rfl (by unfold maxLen; omega)) (by decide)).mono ?_
  rintro e wh ⟨v, rfl, ho2, hk1⟩
  have hk2 : Keep noBlk wg wh := ((Keep.refl noBlk wg).alloc _).trans hk1
  clear hk1
  have HK := Lib.hid (HK.out.trans hk2)
  obtain ⟨Ld0, hLd0⟩ : ∃ l : List Ad, pairs [0, 5, 1, 5] = l := ⟨_, rfl⟩
  have HELd0 := Lib.hid hLd0
  have HALd0 : Hid (AdsOk Ld0) := Lib.hid (by rw [← hLd0]; exact (fun x hx => by simp only [pairs, List.mem_cons, List.not_mem_nil, or_false] at hx; rcases hx with rfl | rfl <;> exact ⟨⟨by decide, by decide⟩, by decide, by decide⟩))
  rw [hLd0] at ho2
  clear hLd0
  obtain ⟨nLd0, hnLd0⟩ : ∃ k, Ld0.length = k := ⟨_, rfl⟩
  have HNLd0 := Lib.hid hnLd0
  rw [hnLd0] at ho2
  obtain ⟨aLd0, cLd0, hvLd0, -, -⟩ := (Rd.of_owns ho2).form
  subst hvLd0
  have HRLd0 := Lib.hid (Rd.of_owns ho2)
  clear ho2 hk2 hnLd0
  go_wp2_with fail
  refine (lawof_any _ _ [1, 5] (rd_blk (n := 2) (size := 1) (heap_alloc_new _ _) rfl (by unfold maxLen; omega)) (by decide)).mono ?_
  rintro e wi ⟨v, rfl, ho2, hk1⟩
  have hk2 : Keep noBlk wh wi := ((Keep.refl noBlk wh).alloc _).trans hk1
  clear hk1
  have HK := Lib.hid (HK.out.trans hk2)
  have HRLd0 := Lib.hid (HRLd0.out.keep hk2 fun _ _ => id)
  obtain ⟨Ld1, hLd1⟩ : ∃ l : List Ad, pairs [1, 5] = l := ⟨_, rfl⟩
  have HELd1 := Lib.hid hLd1
  have HALd1 : Hid (AdsOk Ld1) := Lib.hid (by rw [← hLd1]; exact (fun x hx => by simp only [pairs, List.mem_cons, List.not_mem_nil, or_false] at hx; rcases hx with rfl <;> exact ⟨⟨by decide, by decide⟩, by decide, by decide⟩))
  rw [hLd1] at ho2
  clear hLd1
  obtain ⟨nLd1, hnLd1⟩ : ∃ k, Ld1.length = k := ⟨_, rfl⟩
  have HNLd1 := Lib.hid hnLd1
  rw [hnLd1] at ho2
  obtain ⟨aLd1, cLd1, hvLd1, -, -⟩ := (Rd.of_owns ho2).form
  subst hvLd1
  have HRLd1 := Lib.hid (Rd.of_owns ho2)
  clear ho2 hk2 hnLd1
  go_wp2_with fail
  refine (minus_any _ _ _ Ld0 Ld1 HALd0.out HALd1.out (by rw [HNLd0.out]; exact HRLd0.out) (by rw [HNLd1.out]; exact HRLd1.out) (by rw [← HELd0.out]; decide)).mono ?_
  rintro e wj ⟨v, rfl, ho2, hk2⟩
  have HK := Lib.hid (HK.out.trans hk2)
  have HRLd0 := Lib.hid (HRLd0.out.keep hk2 fun _ _ => id)
  have HRLd1 := Lib.hid (HRLd1.out.keep hk2 fun _ _ => id)
  obtain ⟨Ld2, hLd2⟩ : ∃ l : List Ad, canon (Ld0.filter fun x => !decide (x ∈ Ld1)) = l := ⟨_, rfl⟩
  have HELd2 := Lib.hid hLd2
  have HALd2 : Hid (AdsOk Ld2) := Lib.hid (by rw [← hLd2]; exact (adsOk_canon (fun x hx => by exact HALd0.out x (List.mem_filter.1 hx).1)))
  rw [hLd2] at ho2
  clear hLd2
  obtain ⟨nLd2, hnLd2⟩ : ∃ k, Ld2.length = k := ⟨_, rfl⟩
  have HNLd2 := Lib.hid hnLd2
  rw [hnLd2] at ho2
  obtain ⟨aLd2, cLd2, hvLd2, -, -⟩ := (Rd.of_owns ho2).form
  subst hvLd2
  have HRLd2 := Lib.hid (Rd.of_owns ho2)
  clear ho2 hk2 hnLd2
  go_wp2_with fail
  refine (lawof_any _ _ [0, 5] (rd_blk (n := 2) (size := 1) (heap_alloc_new _ _) rfl (by unfold maxLen; omega)) (by decide)).mono ?_
  rintro e wk ⟨v, rfl, ho2, hk1⟩
  have hk2 : Keep noBlk wj wk := ((Keep.refl noBlk wj).alloc _).trans hk1
  clear hk1
  have HK := Lib.hid (HK.out.trans hk2)
  have HRLd0 := Lib.hid (HRLd0.out.keep hk2 fun _ _ => id)
  have HRLd1 := Lib.hid (HRLd1.out.keep hk2 fun _ _ => id)
  have HRLd2 := Lib.hid (HRLd2.out.keep hk2 fun _ _ => id)
  obtain ⟨Ld3, hLd3⟩ : ∃ l : List Ad, pairs [0, 5] = l := ⟨_, rfl⟩
  have HELd3 := Lib.hid hLd3
  have HALd3 : Hid (AdsOk Ld3) := Lib.hid (by rw [← hLd3]; exact (fun x hx => by simp only [pairs, List.mem_cons, List.not_mem_nil, or_false] at hx; rcases hx with rfl <;> exact ⟨⟨by decide, by decide⟩, by decide, by decide⟩))
  rw [hLd3] at ho2
  clear hLd3
  obtain ⟨nLd3, hnLd3⟩ : ∃ k, Ld3.length = k := ⟨_, rfl⟩
  have HNLd3 := Lib.hid hnLd3
  rw [hnLd3] at ho2
  obtain ⟨aLd3, cLd3, hvLd3, -, -⟩ := (Rd.of_owns ho2).form
  subst hvLd3
  have HRLd3 := Lib.hid (Rd.of_owns ho2)
  clear ho2 hk2 hnLd3
  go_wp2_with fail
  refine (same_any _ _ _ Ld2 Ld3 (by rw [HNLd2.out]; exact HRLd2.out) (by rw [HNLd3.out]; exact HRLd3.out) true (decide_eq_true (by rw [← HELd2.out, ← HELd3.out, ← HELd0.out, ← HELd1.out]; exact canon_dec (by decide) (by decide) (by decide)))).mono ?_
  rintro e wl ⟨rfl, hk⟩
  have HK := Lib.hid (HK.out.trans hk)
  have HRLd0 := Lib.hid (HRLd0.out.keep hk fun _ _ => id)
  have HRLd1 := Lib.hid (HRLd1.out.keep hk fun _ _ => id)
  have HRLd2 := Lib.hid (HRLd2.out.keep hk fun _ _ => id)
  have HRLd3 := Lib.hid (HRLd3.out.keep hk fun _ _ => id)
  clear hk
  go_wp2_with fail
  clear HRLd0 HRLd1 HRLd2 HRLd3
  refine (lawof_any _ _ [0, 5, 1, 5] (rd_blk (n := 4) (size := 1) (heap_alloc_new _ _) rfl (by unfold maxLen; omega)) (by decide)).mono ?_
  rintro e wm ⟨v, rfl, ho2, hk1⟩
  have hk2 : Keep noBlk wl wm := ((Keep.refl noBlk wl).alloc _).trans hk1
  clear hk1
  have HK := Lib.hid (HK.out.trans hk2)
  obtain ⟨Le0, hLe0⟩ : ∃ l : List Ad, pairs [0, 5, 1, 5] = l := ⟨_, rfl⟩
  have HELe0 := Lib.hid hLe0
  have HALe0 : Hid (AdsOk Le0) := Lib.hid (by rw [← hLe0]; exact (fun x hx => by simp only [pairs, List.mem_cons, List.not_mem_nil, or_false] at hx; rcases hx with rfl | rfl <;> exact ⟨⟨by decide, by decide⟩, by decide, by decide⟩))
  rw [hLe0] at ho2
  clear hLe0
  obtain ⟨nLe0, hnLe0⟩ : ∃ k, Le0.length = k := ⟨_, rfl⟩
  have HNLe0 := Lib.hid hnLe0
  rw [hnLe0] at ho2
  obtain ⟨aLe0, cLe0, hvLe0, -, -⟩ := (Rd.of_owns ho2).form
  subst hvLe0
  have HRLe0 := Lib.hid (Rd.of_owns ho2)
  clear ho2 hk2 hnLe0
  go_wp2_with fail
  refine (lawof_any _ _ [1, 5, 2, 5] (rd_blk (n := 4) (size := 1) (heap_alloc_new _ _) rfl (by unfold maxLen; omega)) (by decide)).mono ?_
  rintro e wn ⟨v, rfl, ho2, hk1⟩
  have hk2 : Keep noBlk wm wn := ((Keep.refl noBlk wm).alloc _).trans hk1
  clear hk1
  have HK := Lib.hid (HK.out.trans hk2)
  have HRLe0 := Lib.hid (HRLe0.out.keep hk2 fun _ _ => id)
  obtain ⟨Le1, hLe1⟩ : ∃ l : List Ad, pairs [1, 5, 2, 5] = l := ⟨_, rfl⟩
  have HELe1 := Lib.hid hLe1
  have HALe1 : Hid (AdsOk Le1) := Lib.hid (by rw [← hLe1]; exact (fun x hx => by simp only [pairs, List.mem_cons, List.not_mem_nil, or_false] at hx; rcases hx with rfl | rfl <;> exact ⟨⟨by decide, by decide⟩, by decide, by decide⟩))
  rw [hLe1] at ho2
  clear hLe1
  obtain ⟨nLe1, hnLe1⟩ : ∃ k, Le1.length = k := ⟨_, rfl⟩
  have HNLe1 := Lib.hid hnLe1
  rw [hnLe1] at ho2
  obtain ⟨aLe1, cLe1, hvLe1, -, -⟩ := (Rd.of_owns ho2).form
  subst hvLe1
  have HRLe1 := Lib.hid (Rd.of_owns ho2)
  clear ho2 hk2 hnLe1
  go_wp2_with fail
  refine (both_any _ _ _ Le0 Le1 HALe0.out HALe1.out (by rw [HNLe0.out]; exact HRLe0.out) (by rw [HNLe1.out]; exact HRLe1.out) (by rw [← HELe0.out]; decide)).mono ?_
  rintro e wo ⟨v, rfl, ho2, hk2⟩
  have HK := Lib.hid (HK.out.trans hk2)
  have HRLe0 := Lib.hid (HRLe0.out.keep hk2 fun _ _ => id)
  have HRLe1 := Lib.hid (HRLe1.out.keep hk2 fun _ _ => id)
  obtain ⟨Le2, hLe2⟩ : ∃ l : List Ad, canon (Le0.filter fun x => decide (x ∈ Le1)) = l := ⟨_, rfl⟩
  have HELe2 := Lib.hid hLe2
  have HALe2 : Hid (AdsOk Le2) := Lib.hid (by rw [← hLe2]; exact (adsOk_canon (fun x hx => by exact HALe0.out x (List.mem_filter.1 hx).1)))
  rw [hLe2] at ho2
  clear hLe2
  obtain ⟨nLe2, hnLe2⟩ : ∃ k, Le2.length = k := ⟨_, rfl⟩
  have HNLe2 := Lib.hid hnLe2
  rw [hnLe2] at ho2
  obtain ⟨aLe2, cLe2, hvLe2, -, -⟩ := (Rd.of_owns ho2).form
  subst hvLe2
  have HRLe2 := Lib.hid (Rd.of_owns ho2)
  clear ho2 hk2 hnLe2
  go_wp2_with fail
  refine (lawof_any _ _ [1, 5] (rd_blk (n := 2) (size := 1) (heap_alloc_new _ _) rfl (by unfold maxLen; omega)) (by decide)).mono ?_
  rintro e wp ⟨v, rfl, ho2, hk1⟩
  have hk2 : Keep noBlk wo wp := ((Keep.refl noBlk wo).alloc _).trans hk1
  clear hk1
  have HK := Lib.hid (HK.out.trans hk2)
  have HRLe0 := Lib.hid (HRLe0.out.keep hk2 fun _ _ => id)
  have HRLe1 := Lib.hid (HRLe1.out.keep hk2 fun _ _ => id)
  have HRLe2 := Lib.hid (HRLe2.out.keep hk2 fun _ _ => id)
  obtain ⟨Le3, hLe3⟩ : ∃ l : List Ad, pairs [1, 5] = l := ⟨_, rfl⟩
  have HELe3 := Lib.hid hLe3
  have HALe3 : Hid (AdsOk Le3) := Lib.hid (by rw [← hLe3]; exact (fun x hx => by simp only [pairs, List.mem_cons, List.not_mem_nil, or_false] at hx; rcases hx with rfl <;> exact ⟨⟨by decide, by decide⟩, by decide, by decide⟩))
  rw [hLe3] at ho2
  clear hLe3
  obtain ⟨nLe3, hnLe3⟩ : ∃ k, Le3.length = k := ⟨_, rfl⟩
  have HNLe3 := Lib.hid hnLe3
  rw [hnLe3] at ho2
  obtain ⟨aLe3, cLe3, hvLe3, -, -⟩ := (Rd.of_owns ho2).form
  subst hvLe3
  have HRLe3 := Lib.hid (Rd.of_owns ho2)
  clear ho2 hk2 hnLe3
  go_wp2_with fail
  refine (same_any _ _ _ Le2 Le3 (by rw [HNLe2.out]; exact HRLe2.out) (by rw [HNLe3.out]; exact HRLe3.out) true (decide_eq_true (by rw [← HELe2.out, ← HELe3.out, ← HELe0.out, ← HELe1.out]; exact canon_dec (by decide) (by decide) (by decide)))).mono ?_
  rintro e wq ⟨rfl, hk⟩
  have HK := Lib.hid (HK.out.trans hk)
  have HRLe0 := Lib.hid (HRLe0.out.keep hk fun _ _ => id)
  have HRLe1 := Lib.hid (HRLe1.out.keep hk fun _ _ => id)
  have HRLe2 := Lib.hid (HRLe2.out.keep hk fun _ _ => id)
  have HRLe3 := Lib.hid (HRLe3.out.keep hk fun _ _ => id)
  clear hk
  go_wp2_with fail
  clear HRLe0 HRLe1 HRLe2 HRLe3
  refine (lawof_any _ _ [0, 5, 1, 6, 1, 5] (rd_blk (n := 6) (size := 1) (heap_alloc_new _ _) rfl (by unfold maxLen; omega)) (by decide)).mono ?_
  rintro e wr ⟨v, rfl, ho2, hk1⟩
  have hk2 : Keep noBlk wq wr := ((Keep.refl noBlk wq).alloc _).trans hk1
  clear hk1
  have HK := Lib.hid (HK.out.trans hk2)
  obtain ⟨Lf, hLf⟩ : ∃ l : List Ad, pairs [0, 5, 1, 6, 1, 5] = l := ⟨_, rfl⟩
  have HELf := Lib.hid hLf
  have HALf : Hid (AdsOk Lf) := Lib.hid (by rw [← hLf]; exact (fun x hx => by simp only [pairs, List.mem_cons, List.not_mem_nil, or_false] at hx; rcases hx with rfl | rfl | rfl <;> exact ⟨⟨by decide, by decide⟩, by decide, by decide⟩))
  rw [hLf] at ho2
  clear hLf
  obtain ⟨nf, hnf⟩ : ∃ k, Lf.length = k := ⟨_, rfl⟩
  have HNLf := Lib.hid hnf
  rw [hnf] at ho2
  obtain ⟨aLf, cLf, hvLf, -, -⟩ := (Rd.of_owns ho2).form
  subst hvLf
  have HRLf := Lib.hid (Rd.of_owns ho2)
  clear ho2 hk2 hnf
  go_wp2_with fail
  refine (on_any _ _ Lf 1 HALf.out (by rw [HNLf.out]; exact HRLf.out) (by rw [← HELf.out]; decide)).mono ?_
  rintro e ws ⟨v, rfl, ho2, hk2⟩
  have HK := Lib.hid (HK.out.trans hk2)
  have HRLf := Lib.hid (HRLf.out.keep hk2 fun _ _ => id)
  obtain ⟨Lg, hLg⟩ : ∃ l : List Ad, canon (Lf.filter fun x => decide (x.dev = 1)) = l := ⟨_, rfl⟩
  have HELg := Lib.hid hLg
  have HALg : Hid (AdsOk Lg) := Lib.hid (by rw [← hLg]; exact (adsOk_canon (fun x hx => HALf.out x (List.mem_filter.1 hx).1)))
  rw [hLg] at ho2
  clear hLg
  obtain ⟨ng, hng⟩ : ∃ k, Lg.length = k := ⟨_, rfl⟩
  have HNLg := Lib.hid hng
  rw [hng] at ho2
  obtain ⟨aLg, cLg, hvLg, -, -⟩ := (Rd.of_owns ho2).form
  subst hvLg
  have HRLg := Lib.hid (Rd.of_owns ho2)
  clear ho2 hk2 hng
  go_wp2_with fail
  refine (lawof_any _ _ [1, 5, 1, 6] (rd_blk (n := 4) (size := 1) (heap_alloc_new _ _) rfl (by unfold maxLen; omega)) (by decide)).mono ?_
  rintro e wt ⟨v, rfl, ho2, hk1⟩
  have hk2 : Keep noBlk ws wt := ((Keep.refl noBlk ws).alloc _).trans hk1
  clear hk1
  have HK := Lib.hid (HK.out.trans hk2)
  have HRLf := Lib.hid (HRLf.out.keep hk2 fun _ _ => id)
  have HRLg := Lib.hid (HRLg.out.keep hk2 fun _ _ => id)
  obtain ⟨Lh, hLh⟩ : ∃ l : List Ad, pairs [1, 5, 1, 6] = l := ⟨_, rfl⟩
  have HELh := Lib.hid hLh
  have HALh : Hid (AdsOk Lh) := Lib.hid (by rw [← hLh]; exact (fun x hx => by simp only [pairs, List.mem_cons, List.not_mem_nil, or_false] at hx; rcases hx with rfl | rfl <;> exact ⟨⟨by decide, by decide⟩, by decide, by decide⟩))
  rw [hLh] at ho2
  clear hLh
  obtain ⟨nh, hnh⟩ : ∃ k, Lh.length = k := ⟨_, rfl⟩
  have HNLh := Lib.hid hnh
  rw [hnh] at ho2
  obtain ⟨aLh, cLh, hvLh, -, -⟩ := (Rd.of_owns ho2).form
  subst hvLh
  have HRLh := Lib.hid (Rd.of_owns ho2)
  clear ho2 hk2 hnh
  go_wp2_with fail
  refine (same_any _ _ _ Lg Lh (by rw [HNLg.out]; exact HRLg.out) (by rw [HNLh.out]; exact HRLh.out) true (decide_eq_true (by rw [← HELg.out, ← HELh.out, ← HELf.out]; exact canon_dec (by decide) (by decide) (by decide)))).mono ?_
  rintro e wu ⟨rfl, hk⟩
  have HK := Lib.hid (HK.out.trans hk)
  have HRLf := Lib.hid (HRLf.out.keep hk fun _ _ => id)
  have HRLg := Lib.hid (HRLg.out.keep hk fun _ _ => id)
  have HRLh := Lib.hid (HRLh.out.keep hk fun _ _ => id)
  clear hk
  go_wp2_with fail
  clear HRLf HRLg HRLh
  refine (CW.out _).mono ?_
  rintro e wv ⟨rfl, hk⟩
  have HK := Lib.hid (HK.out.trans hk)
  clear hk
  go_wp2_with fail
  refine (lawof_any _ _ [0, 5] (rd_blk (n := 2) (size := 1) (heap_alloc_new _ _) rfl (by unfold maxLen; omega)) (by decide)).mono ?_
  rintro e ww ⟨v, rfl, ho2, hk1⟩
  have hk2 : Keep noBlk wv ww := ((Keep.refl noBlk wv).alloc _).trans hk1
  clear hk1
  have HK := Lib.hid (HK.out.trans hk2)
  obtain ⟨Li, hLi⟩ : ∃ l : List Ad, pairs [0, 5] = l := ⟨_, rfl⟩
  have HELi := Lib.hid hLi
  have HALi : Hid (AdsOk Li) := Lib.hid (by rw [← hLi]; exact (fun x hx => by simp only [pairs, List.mem_cons, List.not_mem_nil, or_false] at hx; rcases hx with rfl <;> exact ⟨⟨by decide, by decide⟩, by decide, by decide⟩))
  rw [hLi] at ho2
  clear hLi
  obtain ⟨ni, hni⟩ : ∃ k, Li.length = k := ⟨_, rfl⟩
  have HNLi := Lib.hid hni
  rw [hni] at ho2
  obtain ⟨aLi, cLi, hvLi, -, -⟩ := (Rd.of_owns ho2).form
  subst hvLi
  have HRLi := Lib.hid (Rd.of_owns ho2)
  clear ho2 hk2 hni
  go_wp2_with fail
  refine (at_any 0 5 _).mono ?_
  rintro e wx ⟨rfl, hk⟩
  have HK := Lib.hid (HK.out.trans hk)
  have HRLi := Lib.hid (HRLi.out.keep hk fun _ _ => id)
  clear hk
  go_wp2_with fail
  refine (yes_of (has_any _ _ Li ⟨0, 5⟩ (by rw [HNLi.out]; exact HRLi.out)) (show decide ((⟨0, 5⟩ : Ad) ∈ Li) = true by rw [← HELi.out]; decide)).mono ?_
  rintro e wy ⟨rfl, hk⟩
  have HK := Lib.hid (HK.out.trans hk)
  have HRLi := Lib.hid (HRLi.out.keep hk fun _ _ => id)
  clear hk
  go_wp2_with fail
  refine (at_any 0 5 _).mono ?_
  rintro e wz ⟨rfl, hk⟩
  have HK := Lib.hid (HK.out.trans hk)
  have HRLi := Lib.hid (HRLi.out.keep hk fun _ _ => id)
  clear hk
  go_wp2_with fail
  refine (yes_of (has_any _ _ [] ⟨0, 5⟩ (Rd.nil _ 2)) (show decide ((⟨0, 5⟩ : Ad) ∈ ([] : List Ad)) = false by decide)).mono ?_
  rintro e wq36 ⟨rfl, hk⟩
  have HK := Lib.hid (HK.out.trans hk)
  have HRLi := Lib.hid (HRLi.out.keep hk fun _ _ => id)
  clear hk
  go_wp2_with fail
  go_ret
  exact ⟨rfl, HK.out⟩
end Go.Proofs.Ytnpmiocajmhjoaa
