/-
  Is an address one of some? The document's Has; slices.Index, slices.Contains, addr.Has.
  Conditions: none.
-/
import Derived.Test.YtfjklgbakhjjiaaSameAddr
namespace Go.Proofs.Ytfjklgbakhjjiaa
open Go.RowKit Go.Maps Go.ChangeMaps
set_option maxRecDepth 100000
set_option linter.unusedVariables false

theorem yieldsIf_eql_agg {P : Program} {ops : Array Oper} {S : World → Prop} {op : Oper} {a : Act} (hw : Region.wanted op (yielded ops a.tmps) = true) (t : TypeId) (x y : Operand) (rt : TypeId) (ho : op.op = .binOp .eql t x y rt)
    (xs ys : Array Value) (hx : a.eval x = .agg xs) (hy : a.eval y = .agg ys) (hg : P.eqGuardType P.depth t = false) {b : Bool} (h : ∀ w, (binOp .eql t (.agg xs) (.agg ys)).run P w = .ok (.bool b) w) : YieldsIf P ops S op (.bool b) a :=
  .inl ⟨hw, fun w _ => by
    unfold execOp
    simp only [ho, hx, hy, Sem.run_bind, Sem.run_pure, Result.andThen_ok, run_eqGuard_agg w .eql t x y xs ys hg, h w]⟩

set_option maxHeartbeats 2000000 in
theorem rhas_any (w : World) (v : Value) (xs : List Ad) (a : Ad) (hr : Rd w 2 v xs.length (adCells xs)) : Calls Try.prog 47 #[v, .agg (adCs a).toArray] w fun e w' => e = .returned (.bool (decide (a ∈ xs))) ∧ Keep noBlk w w' := by
  obtain ⟨bb, hbb⟩ : ∃ b, decide (a ∈ xs) = b := ⟨_, rfl⟩
  have HBB := Lib.hid hbb
  rw [hbb]
  clear hbb
  obtain ⟨oa, ca, rfl, -, hmm⟩ := hr.form
  have hmx_n : xs.length ≤ maxLen := by have h := hr.2; obtain ⟨a', cap', h1, h2, h3, -⟩ := h; omega
  unfold maxLen at hmx_n
  clear hmm
  have HR := Lib.hid hr
  obtain ⟨n, hn_n⟩ : ∃ n, xs.length = n := ⟨_, rfl⟩
  have HN := Lib.hid hn_n
  rw [hn_n] at HR hmx_n
  try rw [hn_n]
  clear hr hn_n
  obtain ⟨w0, hw0, hk0, hb0, hs0⟩ := alloc_facts w (adCs a).toArray 50
  have HA := Lib.hid hb0; have HK := Lib.hid hk0
  have HR := Lib.hid (HR.out.keep hk0 fun _ _ => id)
  clear hk0 hb0 hs0
  go_enter Try.func47, Try.ntmps47
  go_wp2_with fail
  clear hw0
  go_loopw [5] (fun i0 wr => ∃ k : Nat, k ≤ n ∧ i0 = .int .i64 k ∧ Hid (a ∉ xs.take k) ∧ Hid (Keep noBlk w0 wr)) (fun i0 _ => n - (intOf i0).toNat)
  case atStart => exact ⟨0, Nat.zero_le _, rfl, Lib.hid (by simp), Lib.hid (Keep.refl _ _)⟩
  case round =>
  obtain ⟨k, hk, rfl, HT, HKR⟩ := hrel
  by_cases hlt : k < n
  · have HK0 := Lib.hid (Keep.refl noBlk w0)
    have HR := Lib.hid (HR.out.keep HKR.out fun _ _ => id)
    have HA := Lib.hid (HKR.out.blk HA.out id)
    have HK := Lib.hid (HK.out.trans HKR.out)
    have HK0 := Lib.hid (HK0.out.trans HKR.out)
    obtain ⟨x, h_x⟩ : ∃ x, xs[k]? = some x := ⟨xs[k]'(by rw [HN.out]; exact hlt), List.getElem?_eq_getElem _⟩
    have h_r := HR.out
    rw [← HN.out] at h_r
    obtain ⟨g, o, cap', h_v, h_at⟩ := rd_ad h_r h_x
    have e1 : oa = some ⟨g, o, none⟩ := by cases h_v; rfl
    subst e1
    have HX := Lib.hid h_at; have HE := Lib.hid h_x
    clear h_x h_r h_v h_at
    obtain ⟨bq, hbq⟩ : ∃ b, decide (x = a) = b := ⟨_, rfl⟩
    have HQ : Hid (∀ w', Sem.run Try.prog (binOp .eql 50 (.agg (adCs x).toArray) (.agg (adCs a).toArray)) w' = .ok (.bool bq) w') := Lib.hid (fun w' => by rw [← hbq]; exact eqAd x a w')
    have HBQ := Lib.hid hbq
    have HTX : Hid (xs.take (k + 1) = xs.take k ++ [x]) := Lib.hid (by rw [List.take_add_one, HE.out]; rfl)
    have hki : (k : Int) < (n : Int) := by omega
    have hk0 : (0 : Int) ≤ (k : Int) := by omega
    clear hbq
    go_wp2_with fail
    obtain ⟨S, hS0⟩ : ∃ S : World → Prop, S = fun w' => Keep noBlk wr w' := ⟨_, rfl⟩
    have HSE := Lib.hid (show ∀ w', S w' → Keep noBlk wr w' from fun w' h => by rw [hS0] at h; exact h)
    have HSK := Lib.hid (show ∀ w' w'', S w' → Keep noBlk w' w'' → S w'' from fun w' w'' h k => by rw [hS0] at h ⊢; exact h.trans k)
    have hS : S wr.drew := by rw [hS0]; exact (Keep.refl _ _).drew
    clear hS0
    refine wp_region_held (S := S) (by kernel_rfl) ?_
    change wpAnyH _ _ _ _ _ _ _ _ wr.drew
    generalize wr.drew = w1 at hS ⊢
    refine tka 0 (.slice (some ⟨g, o, none⟩) n ca) rfl hS ?_
    simp only [Act.put, List.setIfInBounds_toArray, List.set_cons_zero, List.set_cons_succ, List.getElem_toArray, List.getElem_cons_zero]
    refine tna 1 (.int .i64 k) rfl hS ?_
    refine tnb 2 (.pointer (some ⟨g, o + k * 2, none⟩)) rfl hS ?_
    refine tnd 3 (.agg (adCs x).toArray) rfl (yieldsIf_load_mid (by rfl) 50 (.tmp 14) rfl (g) (o + k * 2) rfl (adCs x) _ (fun w' h => (HSE.out w' h).rangeAt HX.out) adUnder rfl sizeAd) hS ?_
    refine tnd 4 (.agg (adCs a).toArray) rfl (yieldsIf_load_mid (by rfl) 50 (.tmp 3) rfl (w.heap.size) (0) rfl (adCs a) _ (fun w' h => rangeAt_whole ((HSE.out w' h).blk HA.out id)) adUnder rfl sizeAd) hS ?_
    refine tnd 5 (.bool bq) rfl (yieldsIf_eql_agg (by rfl) 50 (.tmp 15) (.tmp 16) 50 rfl (adCs x).toArray (adCs a).toArray rfl rfl adGuard HQ.out) hS ?_
    refine wpAnyH_done (by kernel_rfl) ?_ _
    have HKR := Lib.hid (HSE.out _ hS)
    clear hS HSE HSK
    have HR := Lib.hid (HR.out.keep HKR.out fun _ _ => id)
    have HA := Lib.hid (HKR.out.blk HA.out id)
    have HK := Lib.hid (HK.out.trans HKR.out)
    have HK0 := Lib.hid (HK0.out.trans HKR.out)
    have HX := Lib.hid (HKR.out.rangeAt HX.out)
    clear HKR
    cases bq
    · have hxy : a ≠ x := by have := HBQ.out; intro e; subst e; simp at this
      have HTE : Hid (a ∉ xs.take (k + 1)) := Lib.hid (by rw [HTX.out, List.mem_append, List.mem_singleton]; exact fun h => h.elim HT.out hxy)
      clear hxy
      go_wp2_with fail
      go_roundw
      case rel => exact ⟨k + 1, by omega, by go_num, HTE, HK0⟩
      case measure => simp [intOf]; omega
    · have hxy : x = a := by have := of_decide_eq_true HBQ.out; exact this
      have hin : a ∈ xs := by rw [← hxy]; exact List.mem_of_getElem? HE.out
      obtain rfl : bb = true := by rw [← HBB.out]; exact decide_eq_true hin
      clear hxy hin
      go_wp2_with fail
      go_ret
      exact ⟨rfl, HK.out⟩
  · obtain rfl : k = n := by omega
    have hout : a ∉ xs := by have := HT.out; rwa [List.take_of_length_le (by rw [HN.out]; exact Nat.le_refl _)] at this
    obtain rfl : bb = false := by rw [← HBB.out]; exact decide_eq_false hout
    clear hout
    have HK := Lib.hid (HK.out.trans HKR.out)
    go_wp2_with fail
    go_ret
    exact ⟨rfl, HK.out⟩

def IdxPost (w : World) (b : Bool) (e : Ending) (w' : World) : Prop := ∃ r : Int, e = .returned (.int .i64 r) ∧ (b = true → 0 ≤ r) ∧ (b = false → r < 0) ∧ Keep noBlk w w'
set_option maxHeartbeats 2000000 in
theorem index_any (w : World) (v : Value) (xs : List Ad) (a : Ad) (hr : Rd w 2 v xs.length (adCells xs)) : Calls Try.prog 97 #[v, .agg (adCs a).toArray] w (IdxPost w (decide (a ∈ xs))) := by
  obtain ⟨bb, hbb⟩ : ∃ b, decide (a ∈ xs) = b := ⟨_, rfl⟩
  have HBB := Lib.hid hbb
  rw [hbb]
  clear hbb
  obtain ⟨oa, ca, rfl, -, hmm⟩ := hr.form
  have hmx_n : xs.length ≤ maxLen := by have h := hr.2; obtain ⟨a', cap', h1, h2, h3, -⟩ := h; omega
  unfold maxLen at hmx_n
  clear hmm
  have HR := Lib.hid hr
  obtain ⟨n, hn_n⟩ : ∃ n, xs.length = n := ⟨_, rfl⟩
  have HN := Lib.hid hn_n
  rw [hn_n] at HR hmx_n
  try rw [hn_n]
  clear hr hn_n
  obtain ⟨w0, hw0, hk0, hb0, hs0⟩ := alloc_facts w (adCs a).toArray 50
  have HA := Lib.hid hb0; have HK := Lib.hid hk0
  have HR := Lib.hid (HR.out.keep hk0 fun _ _ => id)
  clear hk0 hb0 hs0
  go_enter Try.func97, Try.ntmps97
  go_wp2_with fail
  clear hw0
  go_loopw [8] (fun i0 wr => ∃ k : Nat, k ≤ n ∧ i0 = .int .i64 k ∧ Hid (a ∉ xs.take k) ∧ Hid (Keep noBlk w0 wr)) (fun i0 _ => n - (intOf i0).toNat)
  case atStart => exact ⟨0, Nat.zero_le _, rfl, Lib.hid (by simp), Lib.hid (Keep.refl _ _)⟩
  case round =>
  obtain ⟨k, hk, rfl, HT, HKR⟩ := hrel
  by_cases hlt : k < n
  · have HK0 := Lib.hid (Keep.refl noBlk w0)
    have HR := Lib.hid (HR.out.keep HKR.out fun _ _ => id)
    have HA := Lib.hid (HKR.out.blk HA.out id)
    have HK := Lib.hid (HK.out.trans HKR.out)
    have HK0 := Lib.hid (HK0.out.trans HKR.out)
    obtain ⟨x, h_x⟩ : ∃ x, xs[k]? = some x := ⟨xs[k]'(by rw [HN.out]; exact hlt), List.getElem?_eq_getElem _⟩
    have h_r := HR.out
    rw [← HN.out] at h_r
    obtain ⟨g, o, cap', h_v, h_at⟩ := rd_ad h_r h_x
    have e1 : oa = some ⟨g, o, none⟩ := by cases h_v; rfl
    subst e1
    have HX := Lib.hid h_at; have HE := Lib.hid h_x
    clear h_x h_r h_v h_at
    obtain ⟨bq, hbq⟩ : ∃ b, decide (a = x) = b := ⟨_, rfl⟩
    have HQ : Hid (∀ w', Sem.run Try.prog (binOp .eql 50 (.agg (adCs a).toArray) (.agg (adCs x).toArray)) w' = .ok (.bool bq) w') := Lib.hid (fun w' => by rw [← hbq]; exact eqAd a x w')
    have HBQ := Lib.hid hbq
    have HTX : Hid (xs.take (k + 1) = xs.take k ++ [x]) := Lib.hid (by rw [List.take_add_one, HE.out]; rfl)
    have hki : (k : Int) < (n : Int) := by omega
    have hk0 : (0 : Int) ≤ (k : Int) := by omega
    clear hbq
    go_wp2_with fail
    obtain ⟨S, hS0⟩ : ∃ S : World → Prop, S = fun w' => Keep noBlk wr w' := ⟨_, rfl⟩
    have HSE := Lib.hid (show ∀ w', S w' → Keep noBlk wr w' from fun w' h => by rw [hS0] at h; exact h)
    have HSK := Lib.hid (show ∀ w' w'', S w' → Keep noBlk w' w'' → S w'' from fun w' w'' h k => by rw [hS0] at h ⊢; exact h.trans k)
    have hS : S wr.drew := by rw [hS0]; exact (Keep.refl _ _).drew
    clear hS0
    refine wp_region_held (S := S) (by kernel_rfl) ?_
    change wpAnyH _ _ _ _ _ _ _ _ wr.drew
    generalize wr.drew = w1 at hS ⊢
    refine tkd 0 (.agg (adCs a).toArray) rfl (yieldsIf_load_mid (by rfl) 50 (.tmp 3) rfl (w.heap.size) (0) rfl (adCs a) _ (fun w' h => rangeAt_whole ((HSE.out w' h).blk HA.out id)) adUnder rfl sizeAd) hS ?_
    simp only [Act.put, List.setIfInBounds_toArray, List.set_cons_zero, List.set_cons_succ, List.getElem_toArray, List.getElem_cons_zero]
    refine tna 1 (.slice (some ⟨g, o, none⟩) n ca) rfl hS ?_
    refine tna 2 (.int .i64 k) rfl hS ?_
    refine tnb 3 (.pointer (some ⟨g, o + k * 2, none⟩)) rfl hS ?_
    refine tnd 4 (.agg (adCs x).toArray) rfl (yieldsIf_load_mid (by rfl) 50 (.tmp 14) rfl (g) (o + k * 2) rfl (adCs x) _ (fun w' h => (HSE.out w' h).rangeAt HX.out) adUnder rfl sizeAd) hS ?_
    refine tnd 5 (.bool bq) rfl (yieldsIf_eql_agg (by rfl) 50 (.tmp 11) (.tmp 15) 50 rfl (adCs a).toArray (adCs x).toArray rfl rfl adGuard HQ.out) hS ?_
    refine wpAnyH_done (by kernel_rfl) ?_ _
    have HKR := Lib.hid (HSE.out _ hS)
    clear hS HSE HSK
    have HR := Lib.hid (HR.out.keep HKR.out fun _ _ => id)
    have HA := Lib.hid (HKR.out.blk HA.out id)
    have HK := Lib.hid (HK.out.trans HKR.out)
    have HK0 := Lib.hid (HK0.out.trans HKR.out)
    have HX := Lib.hid (HKR.out.rangeAt HX.out)
    clear HKR
    cases bq
    · have hxy : a ≠ x := by have := HBQ.out; intro e; subst e; simp at this
      have HTE : Hid (a ∉ xs.take (k + 1)) := Lib.hid (by rw [HTX.out, List.mem_append, List.mem_singleton]; exact fun h => h.elim HT.out hxy)
      clear hxy
      go_wp2_with fail
      go_roundw
      case rel => exact ⟨k + 1, by omega, by go_num, HTE, HK0⟩
      case measure => simp [intOf]; omega
    · have hxy : x = a := by have := of_decide_eq_true HBQ.out; exact this.symm
      have hin : a ∈ xs := by rw [← hxy]; exact List.mem_of_getElem? HE.out
      obtain rfl : bb = true := by rw [← HBB.out]; exact decide_eq_true hin
      clear hxy hin
      go_wp2_with fail
      go_ret
      exact ⟨_, rfl, (fun _ => by omega), (fun h => by cases h), HK.out⟩
  · obtain rfl : k = n := by omega
    have hout : a ∉ xs := by have := HT.out; rwa [List.take_of_length_le (by rw [HN.out]; exact Nat.le_refl _)] at this
    obtain rfl : bb = false := by rw [← HBB.out]; exact decide_eq_false hout
    clear hout
    have HK := Lib.hid (HK.out.trans HKR.out)
    go_wp2_with fail
    go_ret
    exact ⟨_, rfl, (fun h => by cases h), (fun _ => by omega), HK.out⟩
set_option maxHeartbeats 2000000 in
theorem contains_any (w : World) (v : Value) (xs : List Ad) (a : Ad) (hr : Rd w 2 v xs.length (adCells xs)) : Calls Try.prog 88 #[v, .agg (adCs a).toArray] w fun e w' => e = .returned (.bool (decide (a ∈ xs))) ∧ Keep noBlk w w' := by
  obtain ⟨bb, hbb⟩ : ∃ b, decide (a ∈ xs) = b := ⟨_, rfl⟩
  have HI := Lib.hid (fun w (h : Rd w 2 v xs.length (adCells xs)) => index_any w v xs a h)
  rw [hbb] at HI ⊢
  clear hbb
  obtain ⟨oa, ca, rfl, -, hmm⟩ := hr.form
  have hmx_n : xs.length ≤ maxLen := by have h := hr.2; obtain ⟨a', cap', h1, h2, h3, -⟩ := h; omega
  unfold maxLen at hmx_n
  clear hmm
  have HR := Lib.hid hr
  obtain ⟨n, hn_n⟩ : ∃ n, xs.length = n := ⟨_, rfl⟩
  have HN := Lib.hid hn_n
  rw [hn_n] at HR hmx_n
  try rw [hn_n]
  clear hr hn_n
  obtain ⟨w0, hw0, hk0, hb0, hs0⟩ := alloc_facts w (adCs a).toArray 50
  have HA := Lib.hid hb0; have HK := Lib.hid hk0
  have HR := Lib.hid (HR.out.keep hk0 fun _ _ => id)
  clear hk0 hb0 hs0
  have HI := Lib.hid (HI.out w0 (by rw [HN.out]; exact HR.out))
  rw [HN.out] at HI
  go_enter Try.func88, Try.ntmps88
  go_wp2_with (first
    | ((with_reducible show wpList _ _ _ (⟨_, .load 50 (.tmp 3), _, _, _, _⟩ :: _) _ _); refine wpList_load_mid rfl 50 (.tmp 3) rfl w.heap.size 0 rfl (adCs a) _ (rangeAt_whole HA.out) adUnder rfl sizeAd ?_))
  clear hw0
  refine HI.out.mono ?_
  rintro e w1 ⟨r, rfl, hp, hn, hk⟩
  have HK := Lib.hid (HK.out.trans hk)
  clear hk
  cases bb
  · have hr0 : r < 0 := hn rfl
    have hd : ¬ 0 ≤ r := by omega
    have hd2 : decide (0 ≤ r) = false := decide_eq_false hd
    clear hp hn
    go_wp2_with fail
    go_ret
    exact ⟨rfl, HK.out⟩
  · have hr0 : 0 ≤ r := hp rfl
    clear hp hn
    go_wp2_with fail
    go_ret
    exact ⟨rfl, HK.out⟩
set_option maxHeartbeats 2000000 in
theorem has_any (w : World) (v : Value) (xs : List Ad) (a : Ad) (hr : Rd w 2 v xs.length (adCells xs)) : Calls Try.prog 75 #[v, .agg (adCs a).toArray] w fun e w' => e = .returned (.bool (decide (a ∈ xs))) ∧ Keep noBlk w w' := by
  obtain ⟨bb, hbb⟩ : ∃ b, decide (a ∈ xs) = b := ⟨_, rfl⟩
  have HI := Lib.hid (fun w (h : Rd w 2 v xs.length (adCells xs)) => contains_any w v xs a h)
  rw [hbb] at HI ⊢
  clear hbb
  obtain ⟨oa, ca, rfl, -, hmm⟩ := hr.form
  have hmx_n : xs.length ≤ maxLen := by have h := hr.2; obtain ⟨a', cap', h1, h2, h3, -⟩ := h; omega
  unfold maxLen at hmx_n
  clear hmm
  have HR := Lib.hid hr
  obtain ⟨n, hn_n⟩ : ∃ n, xs.length = n := ⟨_, rfl⟩
  have HN := Lib.hid hn_n
  rw [hn_n] at HR hmx_n
  try rw [hn_n]
  clear hr hn_n
  obtain ⟨w0, hw0, hk0, hb0, hs0⟩ := alloc_facts w (adCs a).toArray 50
  have HA := Lib.hid hb0; have HK := Lib.hid hk0
  have HR := Lib.hid (HR.out.keep hk0 fun _ _ => id)
  clear hk0 hb0 hs0
  have HI := Lib.hid (HI.out w0 (by rw [HN.out]; exact HR.out))
  rw [HN.out] at HI
  go_enter Try.func75, Try.ntmps75
  go_wp2_with (first
    | ((with_reducible show wpList _ _ _ (⟨_, .load 50 (.tmp 3), _, _, _, _⟩ :: _) _ _); refine wpList_load_mid rfl 50 (.tmp 3) rfl w.heap.size 0 rfl (adCs a) _ (rangeAt_whole HA.out) adUnder rfl sizeAd ?_))
  clear hw0
  refine HI.out.mono ?_
  rintro e w1 ⟨rfl, hk⟩
  have HK := Lib.hid (HK.out.trans hk)
  clear hk
  go_wp2_with fail
  go_ret
  exact ⟨rfl, HK.out⟩
end Go.Proofs.Ytfjklgbakhjjiaa
