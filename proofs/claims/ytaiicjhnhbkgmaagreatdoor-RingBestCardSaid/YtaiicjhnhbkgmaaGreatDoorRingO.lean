/-
  the law's awake.
  Conditions: none.
-/
import Derived.Test.YtaiicjhnhbkgmaaGreatDoorRingL
import Derived.Test.YtaiicjhnhbkgmaaGreatDoorRingI
namespace Go.Proofs.YtaiicjhnhbkgmaaGreatDoor
open Go.RowKit Go.Maps Go.ChangeMaps
set_option maxRecDepth 100000
set_option linter.unusedVariables false

theorem wpList_build_aggs_g {P : Program} {ops : Array Oper} {rest : List Oper} {o : Oper} {a : Act} {w : World} {Q : Exit → Act → World → Prop} (hw : Region.wanted o (yielded ops a.tmps) = true) (t e : TypeId) (len : Nat) (parts : Array (Nat × Operand)) (ho : o.op = .buildSlice t len parts)
    (hu : P.underlying t = some (.slice e)) {z : Value} {size bytes : Nat} (hinf : (P.info? e).map (fun i => (i.zero, i.size, i.bytes)) = some (some z, size, bytes)) (hsz : 0 < size)
    (vss : List (List Value)) (hvs : ∀ vs ∈ vss, vs.length = size) (hlen : len = vss.length) (hpos : 0 < len) (hsmall : len * size ≤ 2 ^ 24)
    (hparts : (parts.toList.map fun p => (p.1, a.eval p.2)) = litParts vss 0)
    (h : wpList P ops Q rest (a.put o.dst (.slice (some ⟨w.heap.size, 0, none⟩) len len)) (w.alloc (.cells vss.flatten.toArray e))) : wpList P ops Q (o :: rest) a w := by
  obtain ⟨i, hi, hz0, hz1, hz2⟩ := info_parts hinf
  have hp2 : (parts.map fun (x : Nat × Operand) => match x with | (i, x) => (i, a.eval x)).toList = litParts vss 0 := by
    rw [← hparts, Array.toList_map]
  have hfl : vss.flatten.length = vss.length * size := by
    clear hparts h hlen hpos hsmall hp2
    induction vss with
    | nil => simp
    | cons v vs ih => rw [List.flatten_cons, List.length_append, hvs v (by simp), ih (fun u hu => hvs u (by simp [hu])), List.length_cons, Nat.succ_mul]; omega
  refine wpList_wanted hw fun K hK => wp_buildSlice t e len parts ho vss.flatten.toArray i z hu hi hz0 (by rw [hz1]; omega) (by rw [hz1]; have := Nat.mul_pos hpos hsz; omega) ?_ (hK _ _ h)
  rw [hp2, hz1]
  rw [fill_aggs size vss 0 _ hvs (by simp [hlen])]
  rw [Nat.zero_mul, spl_whole _ _ (by simp [hfl, hlen])]
theorem ubsV_lits (w : World) (ps : List (Value × Ub)) (h : ∀ p ∈ ps, ∃ t, p = ((Value.slice none 0 0), ofUb t)) : UbsV w ps := fun p hp => by
  obtain ⟨t, rfl⟩ := h p hp
  exact ubV_of w t
theorem may_of {t : Int} (h1 : 1 ≤ t) (h2 : t ≤ 2147483648) : (ofUb t).may = true := by
  have e : zPt.may = true := by decide
  unfold Ub.may ofUb
  have e2 : zPt.hole = true := by decide
  simp [h1, h2, e, e2]
theorem unpack_z256 : unpackU z256 = (zUb, 6) := by
  unfold unpackU z256
  rw [if_neg (by rw [List.length_replicate]; decide), if_pos rfl]
theorem unpack_of {t : Int} (h1 : 1 ≤ t) (h2 : t ≤ 2147483648) : unpackU (packU (ofUb t)) = (ofUb t, 0) := unpackU_back rfl rfl (may_of h1 h2)
theorem found_z (pool : List UInt8) (i : Nat) : foundL pool i z256 = [] := by
  unfold foundL; rw [if_neg]; rw [unpack_z256]; rintro ⟨h, -⟩; cases h
theorem found_of {t : Int} (h1 : 1 ≤ t) (h2 : t ≤ 2147483648) (pool : List UInt8) (i : Nat) : foundL pool i (packU (ofUb t)) = if zeros32 = pool ∧ slotN t = (i : Int) + 1 then [ofUb t] else [] := by
  unfold foundL
  rw [unpack_of h1 h2]
  by_cases h : zeros32 = pool ∧ slotN t = (i : Int) + 1
  · rw [if_pos h, if_pos ⟨rfl, h.1, h.2⟩]
  · rw [if_neg h, if_neg]
    rintro ⟨-, h3, h4⟩
    exact h ⟨h3, h4⟩
theorem found56 : foundA [z256, packU (ofUb 5), packU (ofUb 6), z256] zeros32 = ([ofUb 5, ofUb 6], 0) := by
  have e : ∀ (f : Nat → List Ub), (List.range 4).flatMap f = f 0 ++ (f 1 ++ (f 2 ++ (f 3 ++ []))) := fun f => rfl
  have h0 : foundAt [z256, packU (ofUb 5), packU (ofUb 6), z256] zeros32 0 = [] := found_z _ _
  have h1 : foundAt [z256, packU (ofUb 5), packU (ofUb 6), z256] zeros32 1 = [ofUb 5] := (found_of (by decide) (by decide) _ _).trans (if_pos ⟨rfl, by decide⟩)
  have h2 : foundAt [z256, packU (ofUb 5), packU (ofUb 6), z256] zeros32 2 = [ofUb 6] := (found_of (by decide) (by decide) _ _).trans (if_pos ⟨rfl, by decide⟩)
  have h3 : foundAt [z256, packU (ofUb 5), packU (ofUb 6), z256] zeros32 3 = [] := found_z _ _
  unfold foundA
  rw [if_pos (by rfl), e, h0, h1, h2, h3]; rfl
theorem len_of (t : Int) : (packU (ofUb t)).length ≤ 256 := by
  cases h : (ofUb t).may
  · unfold packU; rw [h]; exact Nat.zero_le _
  · rw [packU_len rfl rfl h]; exact Nat.le_refl _
theorem len56 : ∀ L ∈ [z256, packU (ofUb 5), packU (ofUb 6), z256], L.length ≤ 65536 := fun L hL => by
  have hz : z256.length = 256 := List.length_replicate ..
  have h5 := len_of 5; have h6 := len_of 6
  simp only [List.mem_cons, List.not_mem_nil, or_false] at hL
  rcases hL with rfl | rfl | rfl | rfl <;> omega
theorem best656 : IsBest ([((Value.slice none 0 0), ofUb 5), ((Value.slice none 0 0), ofUb 6), ((Value.slice none 0 0), ofUb 5)].map (·.2)) [ofUb 6, ofUb 5] := by
  refine ⟨?_, fun u => ?_⟩
  · simp only [List.pairwise_cons, List.mem_cons, List.not_mem_nil, or_false, forall_eq, List.Pairwise.nil, and_true, false_imp_iff, implies_true]
    rw [ltU_iff]; exact .inl (by decide)
  · simp only [List.map_cons, List.map_nil, List.mem_cons, List.not_mem_nil, or_false]
    constructor
    · rintro (rfl | rfl)
      · exact ⟨.inr (.inl rfl), may_of (by decide) (by decide)⟩
      · exact ⟨.inl rfl, may_of (by decide) (by decide)⟩
    · rintro ⟨h | h | h, -⟩
      · exact .inr h
      · exact .inl h
      · exact .inr h
set_option maxHeartbeats 16000000 in
theorem awakeR_any (w : World) (aF aR : Addr) (hg : ErrG w aF aR) : Calls Tryz.prog 10 #[] w (TherePost w true) := by
  obtain ⟨zc, hzc, hzl⟩ : ∃ zc, ubCs (.slice none 0 0) zUb = zc ∧ zc.length = 69 := ⟨_, rfl, rfl⟩
  have hzv : ∀ w, (zeroValue 36).run Tryz.prog w = .ok (.agg zc.toArray) w := by rw [← hzc]; exact zeroValUb
  have HZV := Lib.hid hzv; have HZC := Lib.hid hzc
  clear hzc hzv
  obtain ⟨pz, hpz, hbz⟩ : ∃ l, zeros32.map vb = l ∧ ∀ w, (Instr.build 32 #[]).run Tryz.prog w = .ok (.agg l.toArray) w := ⟨_, rfl, fun w => by kernel_rfl⟩
  have HPZ := Lib.hid hpz; have HBZ := Lib.hid hbz
  clear hpz hbz
  have HG := Lib.hid hg; have HK := Lib.hid (Keep.refl noBlk w)
  clear hg
  go_enter Tryz.func10, Tryz.ntmps10
  go_wp2_with fail
  refine (of_any w 5).mono ?_
  rintro e w1 ⟨v1, rfl, ho, hk⟩
  have HG := Lib.hid (HG.out.keep hk)
  have HK := Lib.hid (HK.out.trans hk)
  clear hk
  obtain ⟨a1, c1, hv_, -, -⟩ := (Rd.of_owns ho).form
  subst hv_
  obtain ⟨m1, hm_⟩ : ∃ m, (packU (ofUb 5)).length = m := ⟨_, rfl⟩
  have HM1 := Lib.hid hm_
  have hr_ := Rd.of_owns ho
  rw [hm_] at hr_ ⊢
  have HRB1 := Lib.hid hr_
  obtain ⟨lc1, hlc_, hl1, hoo⟩ : ∃ l, ubCs (Value.slice none 0 0) (ofUb 5) = l ∧ l.length = 69 ∧ ∀ u ∈ l, u.oneCell' = true := ⟨_, rfl, rfl, oneCell_ub _⟩
  have HLC1 := Lib.hid hlc_; have HC1 := Lib.hid hoo
  rw [hlc_]
  clear ho hm_ hr_ hlc_ hoo
  go_wp2_with (first
    | ((with_reducible show wpList _ _ _ (⟨_, .alloc 36, _, _, _, _⟩ :: _) _ _); refine wpList_alloc_at rfl 36 rfl _ HZV.out zc.toArray rfl ?_)
    | ((with_reducible show wpList _ _ _ (⟨none, .store 36 (.tmp 1) (.tmp 11), _, _, _, _⟩ :: _) _ _)
       refine wpList_store_agg rfl 36 (.tmp 1) (.tmp 11) rfl w1.heap.size 0 lc1 rfl rfl zc.toArray _ (heap_alloc_new _ _) (by rw [hl1, List.size_toArray, hzl]; exact Nat.le_refl _) (sizeUbL hl1) HC1.out ?_
       intro w2 hb5 hk5
       rw [spl_whole _ _ (by rw [hl1, List.size_toArray, hzl])] at hb5
       have hkb : Keep noBlk w1 w2 := ((Keep.refl noBlk w1).alloc _).trans' hk5 (fun _ _ h => h.elim) (fun i hi e => by omega)
       clear hk5
       obtain ⟨b1, hb_⟩ : ∃ b, w1.heap.size = b := ⟨_, rfl⟩
       rw [hb_] at hb5 ⊢
       have HBS1 := Lib.hid hb_; clear hb_
       have HB1 := Lib.hid hb5; clear hb5))
  have HG := Lib.hid (HG.out.keep hkb)
  have HK := Lib.hid (HK.out.trans hkb)
  have HRB1 := Lib.hid (HRB1.out.keep hkb fun _ _ => id)
  clear hkb
  go_wp2_with fail
  refine (of_any w2 6).mono ?_
  rintro e w3 ⟨v2, rfl, ho, hk⟩
  have HG := Lib.hid (HG.out.keep hk)
  have HK := Lib.hid (HK.out.trans hk)
  have HRB1 := Lib.hid (HRB1.out.keep hk fun _ _ => id)
  have HB1 := Lib.hid (hk.blk HB1.out id)
  clear hk
  obtain ⟨a2, c2, hv_, -, -⟩ := (Rd.of_owns ho).form
  subst hv_
  obtain ⟨m2, hm_⟩ : ∃ m, (packU (ofUb 6)).length = m := ⟨_, rfl⟩
  have HM2 := Lib.hid hm_
  have hr_ := Rd.of_owns ho
  rw [hm_] at hr_ ⊢
  have HRB2 := Lib.hid hr_
  obtain ⟨lc2, hlc_, hl2, hoo⟩ : ∃ l, ubCs (Value.slice none 0 0) (ofUb 6) = l ∧ l.length = 69 ∧ ∀ u ∈ l, u.oneCell' = true := ⟨_, rfl, rfl, oneCell_ub _⟩
  have HLC2 := Lib.hid hlc_; have HC2 := Lib.hid hoo
  rw [hlc_]
  clear ho hm_ hr_ hlc_ hoo
  go_wp2_with (first
    | ((with_reducible show wpList _ _ _ (⟨_, .alloc 36, _, _, _, _⟩ :: _) _ _); refine wpList_alloc_at rfl 36 rfl _ HZV.out zc.toArray rfl ?_)
    | ((with_reducible show wpList _ _ _ (⟨none, .store 36 (.tmp 3) (.tmp 15), _, _, _, _⟩ :: _) _ _)
       refine wpList_store_agg rfl 36 (.tmp 3) (.tmp 15) rfl w3.heap.size 0 lc2 rfl rfl zc.toArray _ (heap_alloc_new _ _) (by rw [hl2, List.size_toArray, hzl]; exact Nat.le_refl _) (sizeUbL hl2) HC2.out ?_
       intro w4 hb5 hk5
       rw [spl_whole _ _ (by rw [hl2, List.size_toArray, hzl])] at hb5
       have hkb : Keep noBlk w3 w4 := ((Keep.refl noBlk w3).alloc _).trans' hk5 (fun _ _ h => h.elim) (fun i hi e => by omega)
       clear hk5
       obtain ⟨b2, hb_⟩ : ∃ b, w3.heap.size = b := ⟨_, rfl⟩
       rw [hb_] at hb5 ⊢
       have HBS2 := Lib.hid hb_; clear hb_
       have HB2 := Lib.hid hb5; clear hb5))
  have HG := Lib.hid (HG.out.keep hkb)
  have HK := Lib.hid (HK.out.trans hkb)
  have HRB1 := Lib.hid (HRB1.out.keep hkb fun _ _ => id)
  have HB1 := Lib.hid (hkb.blk HB1.out id)
  have HRB2 := Lib.hid (HRB2.out.keep hkb fun _ _ => id)
  clear hkb
  go_wp2_with fail
  refine (four_any w4 _ _ (packU (ofUb 5)) (packU (ofUb 6)) (by rw [HM1.out]; exact HRB1.out) (by rw [HM2.out]; exact HRB2.out)).mono ?_
  rintro e w5 ⟨v4, rfl, hr4, hk⟩
  have HG := Lib.hid (HG.out.keep hk)
  have HK := Lib.hid (HK.out.trans hk)
  have HRB1 := Lib.hid (HRB1.out.keep hk fun _ _ => id)
  have HB1 := Lib.hid (hk.blk HB1.out id)
  have HRB2 := Lib.hid (HRB2.out.keep hk fun _ _ => id)
  have HB2 := Lib.hid (hk.blk HB2.out id)
  clear hk
  obtain ⟨a4, c4, hv_, -⟩ := hr4.form
  subst hv_
  have HR4 := Lib.hid hr4
  clear hr4
  go_wp2_with ((with_reducible show wpList _ _ _ (⟨_, .build 32 _, _, _, _, _⟩ :: _) _ _); refine wpList_build_to rfl 32 #[] rfl [] rfl (.agg pz.toArray) HBZ.out ?_)
  refine (show Calls Tryz.prog 19 #[.slice a4 4 c4, .agg pz.toArray] w5 (FoundPost w5 ([ofUb 5, ofUb 6], 0)) from by rw [← HPZ.out, ← found56]; exact found_any w5 aF aR HG.out _ _ HR4.out zeros32 rfl (fun L hL => len56 L hL)).mono ?_
  rintro e w6 ⟨v5, qs, rfl, ho, hq, hu, hk⟩
  have HG := Lib.hid (HG.out.keep hk)
  have HK := Lib.hid (HK.out.trans hk)
  have HRB1 := Lib.hid (HRB1.out.keep hk fun _ _ => id)
  have HB1 := Lib.hid (hk.blk HB1.out id)
  have HRB2 := Lib.hid (HRB2.out.keep hk fun _ _ => id)
  have HB2 := Lib.hid (hk.blk HB2.out id)
  clear hk
  have hq2 : qs.length = 2 := by have h := congrArg List.length hq; simpa using h
  obtain ⟨a5, c5, hv_, -, -⟩ := (Rd.of_owns ho).form
  rw [hq2] at hv_ ho
  subst hv_
  have hr_ := Rd.of_owns ho
  have HRQ := Lib.hid hr_; have HQM := Lib.hid hq; have HQU := Lib.hid hu.V; have HQ2 := Lib.hid hq2
  clear ho hq hu hr_ hq2 HR4
  go_wp2_with fail
  refine (slot_any w6 7 (by decide) (by decide)).mono ?_
  rintro e wz ⟨rfl, hk⟩
  rw [show slotN 7 = 4 from rfl, show slotB 7 = true from rfl]
  have HG := Lib.hid (HG.out.keep hk)
  have HK := Lib.hid (HK.out.trans hk)
  have HRB1 := Lib.hid (HRB1.out.keep hk fun _ _ => id)
  have HB1 := Lib.hid (hk.blk HB1.out id)
  have HRB2 := Lib.hid (HRB2.out.keep hk fun _ _ => id)
  have HB2 := Lib.hid (hk.blk HB2.out id)
  have HRQ := Lib.hid (HRQ.out.keep hk fun _ _ => id)
  have HQU := Lib.hid (HQU.out.keep hk)
  clear hk
  go_wp2_with fail
  obtain ⟨S, hS0⟩ : ∃ S : World → Prop, S = fun w' => Keep noBlk wz w' := ⟨_, rfl⟩
  have HSE := Lib.hid (show ∀ w', S w' → Keep noBlk wz w' from fun w' h => by rw [hS0] at h; exact h)
  have HSI := Lib.hid (show ∀ w', Keep noBlk wz w' → S w' from fun w' h => by rw [hS0]; exact h)
  have hS : S wz.drew := by rw [hS0]; exact (Keep.refl _ _).drew
  clear hS0
  refine wp_region_held (S := S) (by kernel_rfl) ?_
  change wpAnyH _ _ _ _ _ _ _ _ wz.drew
  generalize wz.drew = w7 at hS ⊢
  refine tka 0 (.int .i64 0) rfl hS ?_
  simp only [Act.put, List.setIfInBounds_toArray, List.set_cons_zero, List.set_cons_succ, List.getElem_toArray, List.getElem_cons_zero]
  refine tkb 1 (.bool true) rfl hS ?_
  simp only [Act.put, List.setIfInBounds_toArray, List.set_cons_zero, List.set_cons_succ, List.getElem_toArray, List.getElem_cons_succ, List.getElem_cons_zero]
  refine tka 2 (.bool true) rfl hS ?_
  simp only [Act.put, List.setIfInBounds_toArray, List.set_cons_zero, List.set_cons_succ, List.getElem_toArray, List.getElem_cons_succ, List.getElem_cons_zero]
  refine tka 3 (.slice a5 2 c5) rfl hS ?_
  simp only [Act.put, List.setIfInBounds_toArray, List.set_cons_zero, List.set_cons_succ, List.getElem_toArray, List.getElem_cons_succ, List.getElem_cons_zero]
  refine tkd 4 (.agg (lc1).toArray) rfl (yieldsIf_load_mid (by rfl) 36 (.tmp 1) rfl (b1) (0) rfl (lc1) _ (fun w' h => rangeAt_whole ((HSE.out w' h).blk HB1.out id)) ubUnder rfl (by first | exact sizeUbL hl1 | exact sizeUbL hl2)) hS ?_
  simp only [Act.put, List.setIfInBounds_toArray, List.set_cons_zero, List.set_cons_succ, List.getElem_toArray, List.getElem_cons_succ, List.getElem_cons_zero]
  refine tkd 5 (.agg (lc2).toArray) rfl (yieldsIf_load_mid (by rfl) 36 (.tmp 3) rfl (b2) (0) rfl (lc2) _ (fun w' h => rangeAt_whole ((HSE.out w' h).blk HB2.out id)) ubUnder rfl (by first | exact sizeUbL hl1 | exact sizeUbL hl2)) hS ?_
  simp only [Act.put, List.setIfInBounds_toArray, List.set_cons_zero, List.set_cons_succ, List.getElem_toArray, List.getElem_cons_succ, List.getElem_cons_zero]
  refine wpAnyH_one (k := 6) rfl (by kernel_rfl) ?_
  refine wpList_build_aggs_g (by rfl) 22 36 2 #[(0, .tmp 33), (1, .tmp 34)] (by rfl) Tryz.underlying22 infoUb (by decide) [lc1, lc2] (by intro l hl; simp only [List.mem_cons, List.not_mem_nil, or_false] at hl; rcases hl with rfl | rfl <;> assumption) rfl (by decide) (by decide) (by rfl) ?_
  have hb_ := heap_alloc_new w7 (.cells [lc1, lc2].flatten.toArray 36)
  have hk : Keep noBlk w7 (w7.alloc (.cells [lc1, lc2].flatten.toArray 36)) := (Keep.refl _ _).alloc _
  obtain ⟨x35, hx_⟩ : ∃ x, w7.heap.size = x := ⟨_, rfl⟩
  rw [hx_] at hb_ ⊢
  have HX35 : Hid (Rd (w7.alloc (.cells [lc1, lc2].flatten.toArray 36)) 69 (.slice (some ⟨x35, 0, none⟩) 2 2) 2 (ubRow [((Value.slice none 0 0), ofUb 5), ((Value.slice none 0 0), ofUb 6)])) := Lib.hid (by
    have h := rd_blk (n := 2) (size := 69) hb_ (by simp [hl1, hl2]) (by unfold maxLen; omega)
    have e : [lc1, lc2].flatten = ubRow [((Value.slice none 0 0), ofUb 5), ((Value.slice none 0 0), ofUb 6)] := by unfold ubRow; simp only [List.flatMap_cons, List.flatMap_nil, List.flatten_cons, List.flatten_nil, HLC1.out, HLC2.out]
    rw [e] at h ⊢; exact h)
  clear hx_ hb_
  generalize w7.alloc (.cells [lc1, lc2].flatten.toArray 36) = w8 at *
  have HKX35 := Lib.hid hk
  have hS1 := HSI.out _ ((HSE.out _ hS).trans hk)
  clear hS hk
  go_wp2_with fail
  refine ⟨hS1, ?_⟩
  refine wpAnyH_one (k := 7) rfl (by kernel_rfl) ?_
  go_wp2_with fail
  refine (sameUbs_any w8 _ _ qs [((Value.slice none 0 0), ofUb 5), ((Value.slice none 0 0), ofUb 6)] (by rw [HQ2.out]; exact HRQ.out.keep (HSE.out _ hS1) fun _ _ => id) HX35.out (HQU.out.keep (HSE.out _ hS1)) (ubsV_lits _ _ (by intro p hp; simp only [List.mem_cons, List.not_mem_nil, or_false] at hp; rcases hp with rfl | rfl <;> exact ⟨_, rfl⟩)) (by rw [HQM.out]; rfl) (by rw [HQ2.out]; decide)).mono ?_
  rintro e w9 ⟨rfl, hk⟩
  have hS2 := HSI.out _ ((HSE.out _ hS1).trans hk)
  clear hS1 hk
  go_wp2_with fail
  refine ⟨hS2, ?_⟩
  refine tka 8 (.bool true) rfl hS2 ?_
  simp only [Act.put, List.setIfInBounds_toArray, List.set_cons_zero, List.set_cons_succ, List.getElem_toArray, List.getElem_cons_succ, List.getElem_cons_zero]
  refine tka 9 (.bool true) rfl hS2 ?_
  simp only [Act.put, List.setIfInBounds_toArray, List.set_cons_zero, List.set_cons_succ, List.getElem_toArray, List.getElem_cons_succ, List.getElem_cons_zero]
  refine tka 10 (.int .i64 4) rfl hS2 ?_
  simp only [Act.put, List.setIfInBounds_toArray, List.set_cons_zero, List.set_cons_succ, List.getElem_toArray, List.getElem_cons_succ, List.getElem_cons_zero]
  refine tkb 11 (.bool true) rfl hS2 ?_
  simp only [Act.put, List.setIfInBounds_toArray, List.set_cons_zero, List.set_cons_succ, List.getElem_toArray, List.getElem_cons_succ, List.getElem_cons_zero]
  refine tka 12 (.bool true) rfl hS2 ?_
  simp only [Act.put, List.setIfInBounds_toArray, List.set_cons_zero, List.set_cons_succ, List.getElem_toArray, List.getElem_cons_succ, List.getElem_cons_zero]
  refine tka 13 (.bool true) rfl hS2 ?_
  simp only [Act.put, List.setIfInBounds_toArray, List.set_cons_zero, List.set_cons_succ, List.getElem_toArray, List.getElem_cons_succ, List.getElem_cons_zero]
  refine tka 14 (.bool true) rfl hS2 ?_
  simp only [Act.put, List.setIfInBounds_toArray, List.set_cons_zero, List.set_cons_succ, List.getElem_toArray, List.getElem_cons_succ, List.getElem_cons_zero]
  refine tka 15 (.bool true) rfl hS2 ?_
  simp only [Act.put, List.setIfInBounds_toArray, List.set_cons_zero, List.set_cons_succ, List.getElem_toArray, List.getElem_cons_succ, List.getElem_cons_zero]
  refine tka 16 (.bool true) rfl hS2 ?_
  simp only [Act.put, List.setIfInBounds_toArray, List.set_cons_zero, List.set_cons_succ, List.getElem_toArray, List.getElem_cons_succ, List.getElem_cons_zero]
  refine tkd 17 (.agg (lc1).toArray) rfl (yieldsIf_load_mid (by rfl) 36 (.tmp 1) rfl (b1) (0) rfl (lc1) _ (fun w' h => rangeAt_whole ((HSE.out w' h).blk HB1.out id)) ubUnder rfl (by first | exact sizeUbL hl1 | exact sizeUbL hl2)) hS2 ?_
  simp only [Act.put, List.setIfInBounds_toArray, List.set_cons_zero, List.set_cons_succ, List.getElem_toArray, List.getElem_cons_succ, List.getElem_cons_zero]
  refine tkd 18 (.agg (lc2).toArray) rfl (yieldsIf_load_mid (by rfl) 36 (.tmp 3) rfl (b2) (0) rfl (lc2) _ (fun w' h => rangeAt_whole ((HSE.out w' h).blk HB2.out id)) ubUnder rfl (by first | exact sizeUbL hl1 | exact sizeUbL hl2)) hS2 ?_
  simp only [Act.put, List.setIfInBounds_toArray, List.set_cons_zero, List.set_cons_succ, List.getElem_toArray, List.getElem_cons_succ, List.getElem_cons_zero]
  refine tkd 19 (.agg (lc1).toArray) rfl (yieldsIf_load_mid (by rfl) 36 (.tmp 1) rfl (b1) (0) rfl (lc1) _ (fun w' h => rangeAt_whole ((HSE.out w' h).blk HB1.out id)) ubUnder rfl (by first | exact sizeUbL hl1 | exact sizeUbL hl2)) hS2 ?_
  simp only [Act.put, List.setIfInBounds_toArray, List.set_cons_zero, List.set_cons_succ, List.getElem_toArray, List.getElem_cons_succ, List.getElem_cons_zero]
  refine tkd 22 (.agg (lc2).toArray) rfl (yieldsIf_load_mid (by rfl) 36 (.tmp 3) rfl (b2) (0) rfl (lc2) _ (fun w' h => rangeAt_whole ((HSE.out w' h).blk HB2.out id)) ubUnder rfl (by first | exact sizeUbL hl1 | exact sizeUbL hl2)) hS2 ?_
  simp only [Act.put, List.setIfInBounds_toArray, List.set_cons_zero, List.set_cons_succ, List.getElem_toArray, List.getElem_cons_succ, List.getElem_cons_zero]
  refine tkd 23 (.agg (lc1).toArray) rfl (yieldsIf_load_mid (by rfl) 36 (.tmp 1) rfl (b1) (0) rfl (lc1) _ (fun w' h => rangeAt_whole ((HSE.out w' h).blk HB1.out id)) ubUnder rfl (by first | exact sizeUbL hl1 | exact sizeUbL hl2)) hS2 ?_
  simp only [Act.put, List.setIfInBounds_toArray, List.set_cons_zero, List.set_cons_succ, List.getElem_toArray, List.getElem_cons_succ, List.getElem_cons_zero]
  refine wpAnyH_two (k := 20) (l := 24) rfl rfl (by kernel_rfl) ?_ ?_
  · refine wpList_build_aggs_g (by rfl) 22 36 3 #[(0, .tmp 46), (1, .tmp 47), (2, .tmp 48)] (by rfl) Tryz.underlying22 infoUb (by decide) [lc1, lc2, lc1] (by intro l hl; simp only [List.mem_cons, List.not_mem_nil, or_false] at hl; rcases hl with rfl | rfl | rfl <;> assumption) rfl (by decide) (by decide) (by rfl) ?_
    have hb_ := heap_alloc_new w9 (.cells [lc1, lc2, lc1].flatten.toArray 36)
    have hk : Keep noBlk w9 (w9.alloc (.cells [lc1, lc2, lc1].flatten.toArray 36)) := (Keep.refl _ _).alloc _
    obtain ⟨x49, hx_⟩ : ∃ x, w9.heap.size = x := ⟨_, rfl⟩
    rw [hx_] at hb_ ⊢
    have HX49 : Hid (Rd (w9.alloc (.cells [lc1, lc2, lc1].flatten.toArray 36)) 69 (.slice (some ⟨x49, 0, none⟩) 3 3) 3 (ubRow [((Value.slice none 0 0), ofUb 5), ((Value.slice none 0 0), ofUb 6), ((Value.slice none 0 0), ofUb 5)])) := Lib.hid (by
      have h := rd_blk (n := 3) (size := 69) hb_ (by simp [hl1, hl2]) (by unfold maxLen; omega)
      have e : [lc1, lc2, lc1].flatten = ubRow [((Value.slice none 0 0), ofUb 5), ((Value.slice none 0 0), ofUb 6), ((Value.slice none 0 0), ofUb 5)] := by unfold ubRow; simp only [List.flatMap_cons, List.flatMap_nil, List.flatten_cons, List.flatten_nil, HLC1.out, HLC2.out]
      rw [e] at h ⊢; exact h)
    clear hx_ hb_
    generalize w9.alloc (.cells [lc1, lc2, lc1].flatten.toArray 36) = wa at *
    have HKX49 := Lib.hid hk
    have hS3 := HSI.out _ ((HSE.out _ hS2).trans hk)
    clear hS2 hk
    go_wp2_with fail
    refine ⟨hS3, ?_⟩
    refine wpAnyH_two (k := 21) (l := 24) rfl rfl (by kernel_rfl) ?_ ?_
    · go_wp2_with fail
      refine (best_any wa _ [((Value.slice none 0 0), ofUb 5), ((Value.slice none 0 0), ofUb 6), ((Value.slice none 0 0), ofUb 5)] HX49.out (ubsV_lits _ _ (by intro p hp; simp only [List.mem_cons, List.not_mem_nil, or_false] at hp; rcases hp with rfl | rfl | rfl <;> exact ⟨_, rfl⟩)) (by simp) (by intro p hp; simp only [List.mem_cons, List.not_mem_nil, or_false] at hp; rcases hp with rfl | rfl | rfl <;> exact Nat.zero_le _)).mono ?_
      rintro e wb ⟨v50, q50, rfl, ho50, hb50, hu50, hk, -⟩
      have he50 := hb50.unique best656
      obtain ⟨a50, c50, hv_, -, -⟩ := (Rd.of_owns ho50).form
      have hn50 : q50.length = 2 := by have h := congrArg List.length he50; simpa using h
      rw [hn50] at hv_ ho50
      subst hv_
      have HR50 := Lib.hid (Rd.of_owns ho50); have HU50 := Lib.hid hu50.V; have HE50 := Lib.hid he50; have HN50 := Lib.hid hn50
      clear ho50 hb50 hu50 he50 hn50
      have hS4 := HSI.out _ ((HSE.out _ hS3).trans hk)
      clear hS3 hk
      go_wp2_with fail
      refine ⟨hS4, ?_⟩
      refine wpAnyH_one (k := 24) rfl (by kernel_rfl) ?_
      refine wpList_build_aggs_g (by rfl) 22 36 2 #[(0, .tmp 51), (1, .tmp 52)] (by rfl) Tryz.underlying22 infoUb (by decide) [lc2, lc1] (by intro l hl; simp only [List.mem_cons, List.not_mem_nil, or_false] at hl; rcases hl with rfl | rfl <;> assumption) rfl (by decide) (by decide) (by rfl) ?_
      have hb_ := heap_alloc_new wb (.cells [lc2, lc1].flatten.toArray 36)
      have hk : Keep noBlk wb (wb.alloc (.cells [lc2, lc1].flatten.toArray 36)) := (Keep.refl _ _).alloc _
      obtain ⟨x53, hx_⟩ : ∃ x, wb.heap.size = x := ⟨_, rfl⟩
      rw [hx_] at hb_ ⊢
      have HX53 : Hid (Rd (wb.alloc (.cells [lc2, lc1].flatten.toArray 36)) 69 (.slice (some ⟨x53, 0, none⟩) 2 2) 2 (ubRow [((Value.slice none 0 0), ofUb 6), ((Value.slice none 0 0), ofUb 5)])) := Lib.hid (by
        have h := rd_blk (n := 2) (size := 69) hb_ (by simp [hl1, hl2]) (by unfold maxLen; omega)
        have e : [lc2, lc1].flatten = ubRow [((Value.slice none 0 0), ofUb 6), ((Value.slice none 0 0), ofUb 5)] := by unfold ubRow; simp only [List.flatMap_cons, List.flatMap_nil, List.flatten_cons, List.flatten_nil, HLC1.out, HLC2.out]
        rw [e] at h ⊢; exact h)
      clear hx_ hb_
      generalize wb.alloc (.cells [lc2, lc1].flatten.toArray 36) = wc at *
      have HKX53 := Lib.hid hk
      have hS5 := HSI.out _ ((HSE.out _ hS4).trans hk)
      clear hS4 hk
      go_wp2_with fail
      refine ⟨hS5, ?_⟩
      have HR50 := Lib.hid (HR50.out.keep HKX53.out fun _ _ => id); have HU50 := Lib.hid (HU50.out.keep HKX53.out)
      refine wpAnyH_one (k := 25) rfl (by kernel_rfl) ?_
      go_wp2_with fail
      refine (sameUbs_any wc _ _ q50 [((Value.slice none 0 0), ofUb 6), ((Value.slice none 0 0), ofUb 5)] (by rw [HN50.out]; exact HR50.out) HX53.out HU50.out (ubsV_lits _ _ (by intro p hp; simp only [List.mem_cons, List.not_mem_nil, or_false] at hp; rcases hp with rfl | rfl <;> exact ⟨_, rfl⟩)) (by rw [HE50.out]; rfl) (by rw [HN50.out]; decide)).mono ?_
      rintro e wd ⟨rfl, hk⟩
      have hS6 := HSI.out _ ((HSE.out _ hS5).trans hk)
      clear hS5 hk
      go_wp2_with fail
      refine ⟨hS6, ?_⟩
      refine tka 26 (.bool true) rfl hS6 ?_
      simp only [Act.put, List.setIfInBounds_toArray, List.set_cons_zero, List.set_cons_succ, List.getElem_toArray, List.getElem_cons_succ, List.getElem_cons_zero]
      refine tka 27 (.bool true) rfl hS6 ?_
      simp only [Act.put, List.setIfInBounds_toArray, List.set_cons_zero, List.getElem_toArray, List.getElem_cons_succ, List.getElem_cons_zero]
      refine wpAnyH_done (by kernel_rfl) ?_ _
      have HKR := Lib.hid (HSE.out _ hS6)
      clear hS6 HSE HSI
      go_wp2_with fail
      go_ret
      exact ⟨rfl, HK.out.trans HKR.out⟩
    · refine wpList_build_aggs_g (by rfl) 22 36 2 #[(0, .tmp 51), (1, .tmp 52)] (by rfl) Tryz.underlying22 infoUb (by decide) [lc2, lc1] (by intro l hl; simp only [List.mem_cons, List.not_mem_nil, or_false] at hl; rcases hl with rfl | rfl <;> assumption) rfl (by decide) (by decide) (by rfl) ?_
      have hb_ := heap_alloc_new wa (.cells [lc2, lc1].flatten.toArray 36)
      have hk : Keep noBlk wa (wa.alloc (.cells [lc2, lc1].flatten.toArray 36)) := (Keep.refl _ _).alloc _
      obtain ⟨x53, hx_⟩ : ∃ x, wa.heap.size = x := ⟨_, rfl⟩
      rw [hx_] at hb_ ⊢
      have HX53 : Hid (Rd (wa.alloc (.cells [lc2, lc1].flatten.toArray 36)) 69 (.slice (some ⟨x53, 0, none⟩) 2 2) 2 (ubRow [((Value.slice none 0 0), ofUb 6), ((Value.slice none 0 0), ofUb 5)])) := Lib.hid (by
        have h := rd_blk (n := 2) (size := 69) hb_ (by simp [hl1, hl2]) (by unfold maxLen; omega)
        have e : [lc2, lc1].flatten = ubRow [((Value.slice none 0 0), ofUb 6), ((Value.slice none 0 0), ofUb 5)] := by unfold ubRow; simp only [List.flatMap_cons, List.flatMap_nil, List.flatten_cons, List.flatten_nil, HLC1.out, HLC2.out]
        rw [e] at h ⊢; exact h)
      clear hx_ hb_
      generalize wa.alloc (.cells [lc2, lc1].flatten.toArray 36) = wb at *
      have HKX53 := Lib.hid hk
      have hS4 := HSI.out _ ((HSE.out _ hS3).trans hk)
      clear hS3 hk
      go_wp2_with fail
      refine ⟨hS4, ?_⟩
      have HX49 := Lib.hid (HX49.out.keep HKX53.out fun _ _ => id)
      refine wpAnyH_one (k := 21) rfl (by kernel_rfl) ?_
      go_wp2_with fail
      refine (best_any wb _ [((Value.slice none 0 0), ofUb 5), ((Value.slice none 0 0), ofUb 6), ((Value.slice none 0 0), ofUb 5)] HX49.out (ubsV_lits _ _ (by intro p hp; simp only [List.mem_cons, List.not_mem_nil, or_false] at hp; rcases hp with rfl | rfl | rfl <;> exact ⟨_, rfl⟩)) (by simp) (by intro p hp; simp only [List.mem_cons, List.not_mem_nil, or_false] at hp; rcases hp with rfl | rfl | rfl <;> exact Nat.zero_le _)).mono ?_
      rintro e wc ⟨v50, q50, rfl, ho50, hb50, hu50, hk, -⟩
      have he50 := hb50.unique best656
      obtain ⟨a50, c50, hv_, -, -⟩ := (Rd.of_owns ho50).form
      have hn50 : q50.length = 2 := by have h := congrArg List.length he50; simpa using h
      rw [hn50] at hv_ ho50
      subst hv_
      have HR50 := Lib.hid (Rd.of_owns ho50); have HU50 := Lib.hid hu50.V; have HE50 := Lib.hid he50; have HN50 := Lib.hid hn50
      clear ho50 hb50 hu50 he50 hn50
      have HX53 := Lib.hid (HX53.out.keep hk fun _ _ => id)
      have hS5 := HSI.out _ ((HSE.out _ hS4).trans hk)
      clear hS4 hk
      go_wp2_with fail
      refine ⟨hS5, ?_⟩
      refine wpAnyH_one (k := 25) rfl (by kernel_rfl) ?_
      go_wp2_with fail
      refine (sameUbs_any wc _ _ q50 [((Value.slice none 0 0), ofUb 6), ((Value.slice none 0 0), ofUb 5)] (by rw [HN50.out]; exact HR50.out) HX53.out HU50.out (ubsV_lits _ _ (by intro p hp; simp only [List.mem_cons, List.not_mem_nil, or_false] at hp; rcases hp with rfl | rfl <;> exact ⟨_, rfl⟩)) (by rw [HE50.out]; rfl) (by rw [HN50.out]; decide)).mono ?_
      rintro e wd ⟨rfl, hk⟩
      have hS6 := HSI.out _ ((HSE.out _ hS5).trans hk)
      clear hS5 hk
      go_wp2_with fail
      refine ⟨hS6, ?_⟩
      refine tka 26 (.bool true) rfl hS6 ?_
      simp only [Act.put, List.setIfInBounds_toArray, List.set_cons_zero, List.set_cons_succ, List.getElem_toArray, List.getElem_cons_succ, List.getElem_cons_zero]
      refine tka 27 (.bool true) rfl hS6 ?_
      simp only [Act.put, List.setIfInBounds_toArray, List.set_cons_zero, List.getElem_toArray, List.getElem_cons_succ, List.getElem_cons_zero]
      refine wpAnyH_done (by kernel_rfl) ?_ _
      have HKR := Lib.hid (HSE.out _ hS6)
      clear hS6 HSE HSI
      go_wp2_with fail
      go_ret
      exact ⟨rfl, HK.out.trans HKR.out⟩
  · refine wpList_build_aggs_g (by rfl) 22 36 2 #[(0, .tmp 51), (1, .tmp 52)] (by rfl) Tryz.underlying22 infoUb (by decide) [lc2, lc1] (by intro l hl; simp only [List.mem_cons, List.not_mem_nil, or_false] at hl; rcases hl with rfl | rfl <;> assumption) rfl (by decide) (by decide) (by rfl) ?_
    have hb_ := heap_alloc_new w9 (.cells [lc2, lc1].flatten.toArray 36)
    have hk : Keep noBlk w9 (w9.alloc (.cells [lc2, lc1].flatten.toArray 36)) := (Keep.refl _ _).alloc _
    obtain ⟨x53, hx_⟩ : ∃ x, w9.heap.size = x := ⟨_, rfl⟩
    rw [hx_] at hb_ ⊢
    have HX53 : Hid (Rd (w9.alloc (.cells [lc2, lc1].flatten.toArray 36)) 69 (.slice (some ⟨x53, 0, none⟩) 2 2) 2 (ubRow [((Value.slice none 0 0), ofUb 6), ((Value.slice none 0 0), ofUb 5)])) := Lib.hid (by
      have h := rd_blk (n := 2) (size := 69) hb_ (by simp [hl1, hl2]) (by unfold maxLen; omega)
      have e : [lc2, lc1].flatten = ubRow [((Value.slice none 0 0), ofUb 6), ((Value.slice none 0 0), ofUb 5)] := by unfold ubRow; simp only [List.flatMap_cons, List.flatMap_nil, List.flatten_cons, List.flatten_nil, HLC1.out, HLC2.out]
      rw [e] at h ⊢; exact h)
    clear hx_ hb_
    generalize w9.alloc (.cells [lc2, lc1].flatten.toArray 36) = wa at *
    have HKX53 := Lib.hid hk
    have hS3 := HSI.out _ ((HSE.out _ hS2).trans hk)
    clear hS2 hk
    go_wp2_with fail
    refine ⟨hS3, ?_⟩
    refine wpAnyH_one (k := 20) rfl (by kernel_rfl) ?_
    refine wpList_build_aggs_g (by rfl) 22 36 3 #[(0, .tmp 46), (1, .tmp 47), (2, .tmp 48)] (by rfl) Tryz.underlying22 infoUb (by decide) [lc1, lc2, lc1] (by intro l hl; simp only [List.mem_cons, List.not_mem_nil, or_false] at hl; rcases hl with rfl | rfl | rfl <;> assumption) rfl (by decide) (by decide) (by rfl) ?_
    have hb_ := heap_alloc_new wa (.cells [lc1, lc2, lc1].flatten.toArray 36)
    have hk : Keep noBlk wa (wa.alloc (.cells [lc1, lc2, lc1].flatten.toArray 36)) := (Keep.refl _ _).alloc _
    obtain ⟨x49, hx_⟩ : ∃ x, wa.heap.size = x := ⟨_, rfl⟩
    rw [hx_] at hb_ ⊢
    have HX49 : Hid (Rd (wa.alloc (.cells [lc1, lc2, lc1].flatten.toArray 36)) 69 (.slice (some ⟨x49, 0, none⟩) 3 3) 3 (ubRow [((Value.slice none 0 0), ofUb 5), ((Value.slice none 0 0), ofUb 6), ((Value.slice none 0 0), ofUb 5)])) := Lib.hid (by
      have h := rd_blk (n := 3) (size := 69) hb_ (by simp [hl1, hl2]) (by unfold maxLen; omega)
      have e : [lc1, lc2, lc1].flatten = ubRow [((Value.slice none 0 0), ofUb 5), ((Value.slice none 0 0), ofUb 6), ((Value.slice none 0 0), ofUb 5)] := by unfold ubRow; simp only [List.flatMap_cons, List.flatMap_nil, List.flatten_cons, List.flatten_nil, HLC1.out, HLC2.out]
      rw [e] at h ⊢; exact h)
    clear hx_ hb_
    generalize wa.alloc (.cells [lc1, lc2, lc1].flatten.toArray 36) = wb at *
    have HKX49 := Lib.hid hk
    have hS4 := HSI.out _ ((HSE.out _ hS3).trans hk)
    clear hS3 hk
    go_wp2_with fail
    refine ⟨hS4, ?_⟩
    have HX53 := Lib.hid (HX53.out.keep HKX49.out fun _ _ => id)
    refine wpAnyH_one (k := 21) rfl (by kernel_rfl) ?_
    go_wp2_with fail
    refine (best_any wb _ [((Value.slice none 0 0), ofUb 5), ((Value.slice none 0 0), ofUb 6), ((Value.slice none 0 0), ofUb 5)] HX49.out (ubsV_lits _ _ (by intro p hp; simp only [List.mem_cons, List.not_mem_nil, or_false] at hp; rcases hp with rfl | rfl | rfl <;> exact ⟨_, rfl⟩)) (by simp) (by intro p hp; simp only [List.mem_cons, List.not_mem_nil, or_false] at hp; rcases hp with rfl | rfl | rfl <;> exact Nat.zero_le _)).mono ?_
    rintro e wc ⟨v50, q50, rfl, ho50, hb50, hu50, hk, -⟩
    have he50 := hb50.unique best656
    obtain ⟨a50, c50, hv_, -, -⟩ := (Rd.of_owns ho50).form
    have hn50 : q50.length = 2 := by have h := congrArg List.length he50; simpa using h
    rw [hn50] at hv_ ho50
    subst hv_
    have HR50 := Lib.hid (Rd.of_owns ho50); have HU50 := Lib.hid hu50.V; have HE50 := Lib.hid he50; have HN50 := Lib.hid hn50
    clear ho50 hb50 hu50 he50 hn50
    have HX53 := Lib.hid (HX53.out.keep hk fun _ _ => id)
    have hS5 := HSI.out _ ((HSE.out _ hS4).trans hk)
    clear hS4 hk
    go_wp2_with fail
    refine ⟨hS5, ?_⟩
    refine wpAnyH_one (k := 25) rfl (by kernel_rfl) ?_
    go_wp2_with fail
    refine (sameUbs_any wc _ _ q50 [((Value.slice none 0 0), ofUb 6), ((Value.slice none 0 0), ofUb 5)] (by rw [HN50.out]; exact HR50.out) HX53.out HU50.out (ubsV_lits _ _ (by intro p hp; simp only [List.mem_cons, List.not_mem_nil, or_false] at hp; rcases hp with rfl | rfl <;> exact ⟨_, rfl⟩)) (by rw [HE50.out]; rfl) (by rw [HN50.out]; decide)).mono ?_
    rintro e wd ⟨rfl, hk⟩
    have hS6 := HSI.out _ ((HSE.out _ hS5).trans hk)
    clear hS5 hk
    go_wp2_with fail
    refine ⟨hS6, ?_⟩
    refine tka 26 (.bool true) rfl hS6 ?_
    simp only [Act.put, List.setIfInBounds_toArray, List.set_cons_zero, List.set_cons_succ, List.getElem_toArray, List.getElem_cons_succ, List.getElem_cons_zero]
    refine tka 27 (.bool true) rfl hS6 ?_
    simp only [Act.put, List.setIfInBounds_toArray, List.set_cons_zero, List.getElem_toArray, List.getElem_cons_succ, List.getElem_cons_zero]
    refine wpAnyH_done (by kernel_rfl) ?_ _
    have HKR := Lib.hid (HSE.out _ hS6)
    clear hS6 HSE HSI
    go_wp2_with fail
    go_ret
    exact ⟨rfl, HK.out.trans HKR.out⟩

end Go.Proofs.YtaiicjhnhbkgmaaGreatDoor
