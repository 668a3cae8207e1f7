/-
  UsageCounts: who holds what, counted both ways.
  Conditions: none but those of the given statement.
-/
import Derived.Test.YtmilgaoilglmjaaKnownU
import Derived.Test.YtmilgaoilglmjaaLawU
import Derived.Test.YtmilgaoilglmjaaPlainU
namespace Go.Proofs.Ytmilgaoilglmjaa
open Go.RowKit Go.Maps Go.ChangeMaps
set_option maxRecDepth 100000
set_option linter.unusedVariables false

set_option maxHeartbeats 16000000 in
theorem usageCounts_walk (w : World) (v : Value) (hs : List (List Ad)) (ho : ∀ L ∈ hs, AdsOk L) (hr : Rows2 w v hs) (vd : Value) (dr : List Int) (hI : ∀ x ∈ dr, In64 x) (hrd : Rd w 1 vd dr.length (dr.map fun x => .int .i64 x)) :
    Calls Try.prog 5 #[v, vd] w (TherePost w true) := by
  have CW := Lib.hid (fun w => (awakeU_any w).mono fun e w' (h : TherePost w true e w') => (show e = .returned (.bool true) ∧ Keep noBlk w w' from h))
  obtain ⟨oa, ca, rfl, hlm⟩ := hr.form
  obtain ⟨da, dc, rfl, -, -⟩ := hrd.form
  obtain ⟨n, hn⟩ : ∃ n, hs.length = n := ⟨_, rfl⟩
  obtain ⟨dn, hdn⟩ : ∃ n, dr.length = n := ⟨_, rfl⟩
  have HN := Lib.hid hn; have HR := Lib.hid hr; have HND := Lib.hid hdn; have HRD := Lib.hid hrd; have HI := Lib.hid hI
  have CL := Lib.hid (longU_any w _ _ hs dr hr hrd)
  have HOK := Lib.hid ho
  obtain ⟨bb, hbb⟩ : ∃ b, longB hs dr = b := ⟨_, rfl⟩
  have HBB := Lib.hid hbb
  rw [hn, hdn, hbb] at CL
  rw [hn] at HR ⊢
  rw [hdn] at HRD ⊢
  clear hr hrd hdn hn hbb hlm ho hI
  have HK := Lib.hid (Keep.refl noBlk w)
  go_enter Try.func5, Try.ntmps5
  go_wp2_with fail
  refine (CW.out _).mono ?_
  rintro e wq41 ⟨rfl, hk⟩
  have HK := Lib.hid (HK.out.trans hk)
  have HR := Lib.hid (HR.out.keep hk)
  have HRD := Lib.hid (HRD.out.keep hk fun _ _ => id)
  clear hk
  go_wp2_with fail
  have CL := longU_any wq41 (.slice oa n ca) (.slice da dn dc) hs dr HR.out (by rw [HND.out]; exact HRD.out)
  rw [HBB.out] at CL
  have CL := Lib.hid CL
  refine (CL.out).mono ?_
  rintro e wq42 ⟨rfl, hk⟩
  have HK := Lib.hid (HK.out.trans hk)
  have HR := Lib.hid (HR.out.keep hk)
  have HRD := Lib.hid (HRD.out.keep hk fun _ _ => id)
  clear hk
  clear CL
  cases bb
  · have hlim := longB_false HBB.out
    have h20 := hlim.1
    have HF : Hid (hs.flatten.length ≤ 2000) := Lib.hid (by have := flat100 hlim.2.1; omega)
    have H100 := Lib.hid hlim.2.1
    have H40 : Hid (dr.length ≤ 40) := Lib.hid hlim.2.2
    have h64 : hs.length ≤ 64 := by omega
    have H64 := Lib.hid h64
    have H20 := Lib.hid h20
    rw [HN.out] at h20
    clear h64 hlim
    go_wp2_with fail
    refine (all_any wq42 (.slice oa n ca) hs HOK.out HR.out H20.out (by have := HF.out; omega)).mono ?_
    rintro e wq43 ⟨v, rfl, ho2, hk2⟩
    have HK := Lib.hid (HK.out.trans hk2)
    have HR := Lib.hid (HR.out.keep hk2)
    have HRD := Lib.hid (HRD.out.keep hk2 fun _ _ => id)
    obtain ⟨A, hA⟩ : ∃ l : List Ad, canon hs.flatten = l := ⟨_, rfl⟩
    have HEA := Lib.hid hA
    have HAA : Hid (AdsOk A) := Lib.hid (by rw [← hA]; exact all_ok HOK.out)
    rw [hA] at ho2
    clear hA
    obtain ⟨nA, hnA⟩ : ∃ k, A.length = k := ⟨_, rfl⟩
    have HNA := Lib.hid hnA
    rw [hnA] at ho2
    obtain ⟨aA, cA, hvA, -, -⟩ := (Rd.of_owns ho2).form
    subst hvA
    have HRA := Lib.hid (Rd.of_owns ho2)
    clear ho2 hk2 hnA
    have hnA : nA ≤ 2000 := by rw [← HNA.out, ← HEA.out]; exact Nat.le_trans (canon_len _) HF.out
    obtain ⟨wz, hwz⟩ : ∃ wz, wq43 = wz := ⟨_, rfl⟩
    rw [hwz] at HK HR HRD HRA ⊢
    clear hwz
    go_wp2_with fail
    go_loopw [7, 8, 10] (fun x y i wr => ∃ (k a s : Nat), k ≤ n ∧ a ≤ k * 2000 ∧ s ≤ k * 2000 ∧ x = .int .i64 a ∧ y = .int .i64 s ∧ i = .int .i64 k ∧ Hid (unqS hs k = a) ∧ Hid (refS hs k = s) ∧ Hid (Keep noBlk wz wr)) (fun _ _ i _ => n - (intOf i).toNat)
    case atStart => exact ⟨0, 0, 0, Nat.zero_le _, by omega, by omega, rfl, rfl, rfl, Lib.hid rfl, Lib.hid rfl, Lib.hid (Keep.refl _ _)⟩
    case round =>
    obtain ⟨k, a, s, hk, ha, hs', rfl, rfl, rfl, HU, HS, HKL⟩ := hrel
    by_cases hlt : k < n
    · have hki : (k : Int) < (n : Int) := by omega
      have hk0 : (0 : Int) ≤ (k : Int) := by omega
      obtain ⟨u, hu⟩ : ∃ u, unqN hs k = u := ⟨_, rfl⟩
      obtain ⟨r, hr⟩ : ∃ r, refN hs k = r := ⟨_, rfl⟩
      have hub : u ≤ 2000 := by rw [← hu]; exact Nat.le_trans (unqN_le k) HF.out
      have hrb : r ≤ 2000 := by rw [← hr]; exact Nat.le_trans (refN_le k) HF.out
      have HU2 : Hid (unqS hs (k + 1) = a + u) := Lib.hid (by rw [unqS_succ, HU.out, hu])
      have HS2 : Hid (refS hs (k + 1) = s + r) := Lib.hid (by rw [refS_succ, HS.out, hr])
      have HRr := Lib.hid (HR.out.keep HKL.out)
      have HUQ := Lib.hid hu; have HRQ := Lib.hid hr
      clear hu hr
      go_wp2_with fail
      refine (unique_any wr (.slice oa n ca) hs (k : Int) (by unfold In64; omega) HOK.out HRr.out H20.out (by have := HF.out; omega)).mono ?_
      rintro e w1 ⟨v, rfl, ho2, hk2⟩
      have ho3 : w1.ownsRow wr.heap.size 25 2 v (unqN hs k) (adCells (canon (hs.flatten.filter fun a => subB (hw hs a) (wordOf hs.length [(k : Int)])))) := ho2
      rw [HUQ.out] at ho3
      obtain ⟨a1, c1, rfl, -, -⟩ := (Rd.of_owns ho3).form
      have HRr := Lib.hid (HRr.out.keep hk2)
      have HKL := Lib.hid (HKL.out.trans hk2)
      clear ho2 ho3 hk2
      go_wp2_with fail
      refine (referenced_any w1 (.slice oa n ca) hs (k : Int) HOK.out HRr.out H20.out (by have := HF.out; omega)).mono ?_
      rintro e w2 ⟨rfl, hk2⟩
      have e1 : ((canon (hs.flatten.filter fun a => refB hs.length (k : Int) (hw hs a))).length : Int) = (r : Int) := congrArg Int.ofNat HRQ.out
      rw [e1]
      have HKL := Lib.hid (HKL.out.trans hk2)
      clear hk2 e1 HRr
      go_wp2_with fail
      go_roundw
      case rel => exact ⟨k + 1, a + u, s + r, by omega, by omega, by omega, by go_num, by go_num, by go_num, HU2, HS2, HKL⟩
      case measure => simp [intOf]; omega
    · obtain rfl : n = k := by omega
      have HR := Lib.hid (HR.out.keep HKL.out); have HRD := Lib.hid (HRD.out.keep HKL.out fun _ _ => id); have HRA := Lib.hid (HRA.out.keep HKL.out fun _ _ => id); have HK := Lib.hid (HK.out.trans HKL.out)
      have HT1 : Hid (oneS hs A = a) := Lib.hid (by rw [← HEA.out, ← unqS_one H64.out, HN.out]; exact HU.out)
      have HT2 : Hid (heldS hs A = s) := Lib.hid (by rw [← HEA.out, ← refS_held H64.out, HN.out]; exact HS.out)
      have ha' : a ≤ 40000 := by omega
      have hs'' : s ≤ 40000 := by omega
      clear HU HS HKL ha hs'
      obtain ⟨wy, hwy⟩ : ∃ wy, wr = wy := ⟨_, rfl⟩
      rw [hwy] at HK HR HRD HRA ⊢
      clear hwy
      go_wp2_with fail
      go_loopw [7, 9, 11] (fun x y i wr => ∃ (j : Nat) (b t : Nat) (c : Int), j ≤ nA ∧ (-2000 ≤ c ∧ c ≤ 40000) ∧ Hid (c + (b : Int) = (a : Int)) ∧ b ≤ j ∧ t ≤ j * 20 ∧ x = .int .i64 c ∧ y = .int .i64 t ∧ i = .int .i64 j ∧ Hid (oneS hs (A.take j) = b) ∧ Hid (heldS hs (A.take j) = t) ∧ Hid (Keep noBlk wy wr)) (fun _ _ i _ => nA - (intOf i).toNat)
      case atStart => exact ⟨0, 0, 0, a, Nat.zero_le _, by omega, Lib.hid (by omega), by omega, by omega, rfl, rfl, rfl, Lib.hid (by simp [oneS]), Lib.hid (by simp [heldS]), Lib.hid (Keep.refl _ _)⟩
      case round =>
      obtain ⟨j, b, t, c, hj, ⟨hc1, hc2⟩, HC, hbj, ht, rfl, rfl, rfl, HO1, HH1, HKL⟩ := hrel
      by_cases hlt : j < nA
      · have hki : (j : Int) < (nA : Int) := by omega
        have hk0 : (0 : Int) ≤ (j : Int) := by omega
        have HRA := Lib.hid (HRA.out.keep HKL.out fun _ _ => id); have HR := Lib.hid (HR.out.keep HKL.out)
        obtain ⟨x, h_x⟩ : ∃ x, A[j]? = some x := ⟨A[j]'(by rw [HNA.out]; exact hlt), List.getElem?_eq_getElem _⟩
        have h_r := HRA.out
        rw [← HNA.out] at h_r
        obtain ⟨gA, oA, cap', h_v, h_at⟩ := rd_ad h_r h_x
        have e1 : aA = some ⟨gA, oA, none⟩ := by cases h_v; rfl
        subst e1
        have HX := Lib.hid h_at; have HE := Lib.hid h_x
        clear h_x h_r h_v h_at
        have hxA : x ∈ A := List.mem_of_getElem? HE.out
        have hxo := HAA.out x hxA
        obtain ⟨q, hq⟩ : ∃ q, cnt hs x = q := ⟨_, rfl⟩
        have hq0 : 0 < q := by rw [← hq]; exact cnt_pos (by rw [HEA.out]; exact hxA)
        have hq20 : q ≤ 20 := by rw [← hq]; exact Nat.le_trans (cnt_le hs x) H20.out
        have HTK : A.take (j + 1) = A.take j ++ [x] := by rw [List.take_add_one, HE.out]; rfl
        have HH2 : Hid (heldS hs (A.take (j + 1)) = t + q) := Lib.hid (by rw [HTK, heldS_snoc, HH1.out, hq])
        have HO2 : Hid (oneS hs (A.take (j + 1)) = b + if q = 1 then 1 else 0) := Lib.hid (by rw [HTK, oneS_snoc, HO1.out, hq])
        have HQ := Lib.hid hq; have HXO := Lib.hid hxo
        clear hq HTK hxA hxo
        go_wp2_with (first
          | ((with_reducible show wpList _ _ _ (⟨_, .load 25 _, _, _, _, _⟩ :: _) _ _); refine wpList_load_mid rfl 25 _ rfl gA (oA + j * 2) rfl (adCs x) _ HX.out adUnder rfl sizeAd ?_))
        refine (holders_any wr (.slice oa n ca) hs x HXO.out HOK.out HR.out H20.out).mono ?_
        rintro e wq44 ⟨v, rfl, ho2, hk2⟩
        have ho3 := ho2
        rw [show (hoL hs x hs.length).length = q from HQ.out] at ho3
        obtain ⟨a1, c1, rfl, -, -⟩ := (Rd.of_owns ho3).form
        have HKL := Lib.hid (HKL.out.trans hk2)
        clear ho2 ho3 hk2 HX
        have hqn : ¬ (q : Int) = 0 := by omega
        by_cases hq1 : q = 1
        · subst hq1
          rw [if_pos rfl] at HO2
          go_wp2_with fail
          go_roundw
          case rel => exact ⟨j + 1, b + 1, t + 1, c - 1, by omega, by have := HC.out; omega, Lib.hid (by have := HC.out; omega), by omega, by omega, by go_num, by go_num, by go_num, HO2, HH2, HKL⟩
          case measure => simp [intOf]; omega
        · rw [if_neg hq1, Nat.add_zero] at HO2
          have hqi : ¬ (q : Int) = 1 := by omega
          go_wp2_with fail
          go_roundw
          case rel => exact ⟨j + 1, b, t + q, c, by omega, ⟨hc1, hc2⟩, HC, by omega, by omega, by go_num, by go_num, by go_num, HO2, HH2, HKL⟩
          case measure => simp [intOf]; omega
      · obtain rfl : nA = j := by omega
        have HR := Lib.hid (HR.out.keep HKL.out); have HRD := Lib.hid (HRD.out.keep HKL.out fun _ _ => id); have HRA := Lib.hid (HRA.out.keep HKL.out fun _ _ => id); have HK := Lib.hid (HK.out.trans HKL.out)
        have hb := HO1.out
        have ht' := HH1.out
        rw [List.take_of_length_le (by rw [HNA.out]; exact Nat.le_refl _)] at hb ht'
        have eb : b = a := by rw [← hb]; exact HT1.out
        have et : t = s := by rw [← ht']; exact HT2.out
        subst eb et
        have ec : c = 0 := by have := HC.out; omega
        subst ec
        clear hb ht' HO1 HH1 HKL HT1 HT2 HC ht hbj hc1 hc2
        go_wp2_with fail
        refine (shared_any wr (.slice oa n ca) (.slice da dn dc) hs dr HOK.out HR.out H20.out (by have := HF.out; omega) (by rw [HND.out]; exact HRD.out) HI.out).mono ?_
        rintro e wq44 ⟨v, rfl, ho2, hk2⟩
        have HK := Lib.hid (HK.out.trans hk2)
        have HR := Lib.hid (HR.out.keep hk2)
        have HRD := Lib.hid (HRD.out.keep hk2 fun _ _ => id)
        have HRA := Lib.hid (HRA.out.keep hk2 fun _ _ => id)
        obtain ⟨B, hB⟩ : ∃ l : List Ad, canon (hs.flatten.filter fun a => (someB (wordOf hs.length dr) && subB (wordOf hs.length dr) (hw hs a))) = l := ⟨_, rfl⟩
        have HEB := Lib.hid hB
        have HAB : Hid (AdsOk B) := Lib.hid (by rw [← hB]; exact (adsOk_canon fun x hx => all_ok HOK.out x (mem_canon.2 (List.mem_filter.1 hx).1)))
        rw [hB] at ho2
        clear hB
        obtain ⟨nB, hnB⟩ : ∃ k, B.length = k := ⟨_, rfl⟩
        have HNB := Lib.hid hnB
        rw [hnB] at ho2
        obtain ⟨aB, cB, hvB, -, -⟩ := (Rd.of_owns ho2).form
        subst hvB
        have HRB := Lib.hid (Rd.of_owns ho2)
        clear ho2 hk2 hnB
        have hnB : nB ≤ 2000 := by rw [← HNB.out, ← HEB.out]; exact Nat.le_trans (canon_len _) (Nat.le_trans (List.length_filter_le _ _) HF.out)
        have hdn40 : dn ≤ 40 := by rw [← HND.out]; exact H40.out
        obtain ⟨wx, hwx⟩ : ∃ wx, wq44 = wx := ⟨_, rfl⟩
        rw [hwx] at HK HR HRD HRA HRB ⊢
        clear hwx
        go_wp2_with fail
        go_loopw [14] (fun i wr => ∃ j2 : Nat, j2 ≤ nB ∧ i = .int .i64 j2 ∧ Hid (Keep noBlk wx wr)) (fun i _ => nB - (intOf i).toNat)
        case atStart => exact ⟨0, Nat.zero_le _, rfl, Lib.hid (Keep.refl _ _)⟩
        case round =>
        obtain ⟨p, hp, rfl, HKL⟩ := hrel
        by_cases hlp : p < nB
        · have hpi : (p : Int) < (nB : Int) := by omega
          have hp0 : (0 : Int) ≤ (p : Int) := by omega
          obtain ⟨wo, hwo⟩ : ∃ wo, wr = wo := ⟨_, rfl⟩
          rw [hwo] at HKL ⊢
          clear hwo
          go_wp2_with fail
          go_loopw [15] (fun i wr => ∃ d : Nat, d ≤ dn ∧ i = .int .i64 d ∧ Hid (Keep noBlk wx wr)) (fun i _ => dn - (intOf i).toNat)
          case atStart => exact ⟨0, Nat.zero_le _, rfl, HKL⟩
          case round =>
          obtain ⟨d, hd, rfl, HKL⟩ := hrel
          by_cases hld : d < dn
          · have hdi : (d : Int) < (dn : Int) := by omega
            have hd0 : (0 : Int) ≤ (d : Int) := by omega
            have HR := Lib.hid (HR.out.keep HKL.out); have HRD := Lib.hid (HRD.out.keep HKL.out fun _ _ => id); have HRB := Lib.hid (HRB.out.keep HKL.out fun _ _ => id)
            obtain ⟨s0, hs0⟩ : ∃ x, dr[d]? = some x := ⟨dr[d]'(by rw [HND.out]; exact hld), List.getElem?_eq_getElem _⟩
            have hr2 := HRD.out
            rw [← HND.out] at hr2
            obtain ⟨pd, od, capd, hvd, hcd⟩ := rd_int hr2 hs0
            rw [HND.out] at hvd
            have e1 : da = some ⟨pd, od, none⟩ := by cases hvd; rfl
            subst e1
            have hin := HI.out s0 (List.mem_of_getElem? hs0)
            have HIN := Lib.hid hin
            have HS0 := Lib.hid hs0
            clear hr2 hvd hs0 hin
            obtain ⟨x, h_x⟩ : ∃ x, B[p]? = some x := ⟨B[p]'(by rw [HNB.out]; exact hlp), List.getElem?_eq_getElem _⟩
            have h_r := HRB.out
            rw [← HNB.out] at h_r
            obtain ⟨gB, oB, cap', h_v, h_at⟩ := rd_ad h_r h_x
            have e1 : aB = some ⟨gB, oB, none⟩ := by cases h_v; rfl
            subst e1
            have HX := Lib.hid h_at; have HE := Lib.hid h_x
            clear h_x h_r h_v h_at
            skip
            by_cases hs0 : 0 ≤ s0
            · by_cases hsn : s0 < (n : Int)
              · obtain ⟨m, rfl⟩ : ∃ m : Nat, s0 = (m : Int) := ⟨s0.toNat, by omega⟩
                have hmn : m < n := by omega
                obtain ⟨L, hL⟩ : ∃ L, hs[m]? = some L := ⟨hs[m]'(by rw [HN.out]; exact hmn), List.getElem?_eq_getElem _⟩
                have hrl := HR.out.at hL
                rw [HN.out] at hrl
                obtain ⟨gl, ol, capl, al, cl, hvl, hcl, hrdl⟩ := hrl
                have e1 : oa = some ⟨gl, ol, none⟩ := by cases hvl; rfl
                subst e1
                have hxL : x ∈ L := shared_has H64.out (by rw [HEB.out]; exact List.mem_of_getElem? HE.out) (List.mem_of_getElem? HS0.out) hL
                have HXL := Lib.hid hxL; have HRL := Lib.hid hrdl
                obtain ⟨q, hq⟩ : ∃ q, L.length = q := ⟨_, rfl⟩
                rw [hq] at hcl
                have HQ := Lib.hid hq
                clear hvl hrdl hxL hq
                go_wp2_with fail
                obtain ⟨S, hS0⟩ : ∃ S : World → Prop, S = fun w' => Keep noBlk wr w' := ⟨_, rfl⟩
                have HSE := Lib.hid (show ∀ w', S w' → Keep noBlk wr w' from fun w' h => by rw [hS0] at h; exact h)
                have HSI := Lib.hid (show ∀ w', Keep noBlk wr w' → S w' from fun w' h => by rw [hS0]; exact h)
                have hS : S wr.drew := by rw [hS0]; exact (Keep.refl _ _).drew
                clear hS0
                refine wp_region_held (S := S) (by kernel_rfl) ?_
                change wpAnyH _ _ _ _ _ _ _ _ wr.drew
                generalize wr.drew = wq45 at hS ⊢
                refine wpAnyH_take (i := 0) (v := .slice (some ⟨pd, od, none⟩) dn dc) rfl (by kernel_rfl) (by kernel_rfl) (by kernel_rfl) (fun _ _ _ h => h) (.inl ⟨by rfl, fun _ _ => rfl⟩) hS ?_
                simp only [Act.put, List.setIfInBounds_toArray, List.set_cons_zero, List.set_cons_succ, List.getElem_toArray, List.getElem_cons_zero]
                refine wpAnyH_take (i := 1) (v := .int .i64 (d : Int)) rfl (by kernel_rfl) (by kernel_rfl) (by kernel_rfl) (fun _ _ _ h => h) (.inl ⟨by rfl, fun _ _ => rfl⟩) hS ?_
                simp only [Act.put, List.setIfInBounds_toArray, List.set_cons_zero, List.set_cons_succ, List.getElem_toArray, List.getElem_cons_succ, List.getElem_cons_zero]
                refine wpAnyH_take (i := 2) (v := .pointer (some ⟨pd, od + d, none⟩)) rfl (by kernel_rfl) (by kernel_rfl) (by kernel_rfl) (fun _ _ _ h => h) (.inl ⟨by rfl, fun _ _ => by go_simp⟩) hS ?_
                simp only [Act.put, List.setIfInBounds_toArray, List.set_cons_zero, List.set_cons_succ, List.getElem_toArray, List.getElem_cons_succ, List.getElem_cons_zero]
                refine wpAnyH_take (i := 3) (v := .int .i64 (m : Int)) rfl (by kernel_rfl) (by kernel_rfl) (by kernel_rfl) (fun _ _ _ h => h) (.inl ⟨by rfl, fun w' hw' => by have c := (HSE.out w' hw').cell hcd id; go_simp⟩) hS ?_
                simp only [Act.put, List.setIfInBounds_toArray, List.set_cons_zero, List.set_cons_succ, List.getElem_toArray, List.getElem_cons_succ, List.getElem_cons_zero]
                refine wpAnyH_take (i := 4) (v := .bool true) rfl (by kernel_rfl) (by kernel_rfl) (by kernel_rfl) (fun _ _ _ h => h) (.inl ⟨by rfl, fun _ _ => by go_simp⟩) hS ?_
                simp only [Act.put, List.setIfInBounds_toArray, List.set_cons_zero, List.set_cons_succ, List.getElem_toArray, List.getElem_cons_succ, List.getElem_cons_zero]
                refine wpAnyH_take (i := 5) (v := .bool true) rfl (by kernel_rfl) (by kernel_rfl) (by kernel_rfl) (fun _ _ _ h => h) (.inl ⟨by rfl, fun _ _ => rfl⟩) hS ?_
                simp only [Act.put, List.setIfInBounds_toArray, List.set_cons_zero, List.set_cons_succ, List.getElem_toArray, List.getElem_cons_succ, List.getElem_cons_zero]
                refine wpAnyH_take (i := 6) (v := .slice (some ⟨pd, od, none⟩) dn dc) rfl (by kernel_rfl) (by kernel_rfl) (by kernel_rfl) (fun _ _ _ h => h) (.inl ⟨by rfl, fun _ _ => rfl⟩) hS ?_
                simp only [Act.put, List.setIfInBounds_toArray, List.set_cons_zero, List.set_cons_succ, List.getElem_toArray, List.getElem_cons_succ, List.getElem_cons_zero]
                refine wpAnyH_take (i := 7) (v := .int .i64 (d : Int)) rfl (by kernel_rfl) (by kernel_rfl) (by kernel_rfl) (fun _ _ _ h => h) (.inl ⟨by rfl, fun _ _ => rfl⟩) hS ?_
                simp only [Act.put, List.setIfInBounds_toArray, List.set_cons_zero, List.set_cons_succ, List.getElem_toArray, List.getElem_cons_succ, List.getElem_cons_zero]
                refine wpAnyH_take (i := 8) (v := .pointer (some ⟨pd, od + d, none⟩)) rfl (by kernel_rfl) (by kernel_rfl) (by kernel_rfl) (fun _ _ _ h => h) (.inl ⟨by rfl, fun _ _ => by go_simp⟩) hS ?_
                simp only [Act.put, List.setIfInBounds_toArray, List.set_cons_zero, List.set_cons_succ, List.getElem_toArray, List.getElem_cons_succ, List.getElem_cons_zero]
                refine wpAnyH_take (i := 9) (v := .int .i64 (m : Int)) rfl (by kernel_rfl) (by kernel_rfl) (by kernel_rfl) (fun _ _ _ h => h) (.inl ⟨by rfl, fun w' hw' => by have c := (HSE.out w' hw').cell hcd id; go_simp⟩) hS ?_
                simp only [Act.put, List.setIfInBounds_toArray, List.set_cons_zero, List.set_cons_succ, List.getElem_toArray, List.getElem_cons_succ, List.getElem_cons_zero]
                refine wpAnyH_take (i := 10) (v := .slice (some ⟨gl, ol, none⟩) n ca) rfl (by kernel_rfl) (by kernel_rfl) (by kernel_rfl) (fun _ _ _ h => h) (.inl ⟨by rfl, fun _ _ => rfl⟩) hS ?_
                simp only [Act.put, List.setIfInBounds_toArray, List.set_cons_zero, List.set_cons_succ, List.getElem_toArray, List.getElem_cons_succ, List.getElem_cons_zero]
                refine wpAnyH_take (i := 11) (v := .int .i64 n) rfl (by kernel_rfl) (by kernel_rfl) (by kernel_rfl) (fun _ _ _ h => h) (.inl ⟨by rfl, fun _ _ => by go_simp⟩) hS ?_
                simp only [Act.put, List.setIfInBounds_toArray, List.set_cons_zero, List.set_cons_succ, List.getElem_toArray, List.getElem_cons_succ, List.getElem_cons_zero]
                refine wpAnyH_take (i := 12) (v := .bool true) rfl (by kernel_rfl) (by kernel_rfl) (by kernel_rfl) (fun _ _ _ h => h) (.inl ⟨by rfl, fun _ _ => by go_simp⟩) hS ?_
                simp only [Act.put, List.setIfInBounds_toArray, List.set_cons_zero, List.set_cons_succ, List.getElem_toArray, List.getElem_cons_succ, List.getElem_cons_zero]
                refine wpAnyH_take (i := 13) (v := .bool true) rfl (by kernel_rfl) (by kernel_rfl) (by kernel_rfl) (fun _ _ _ h => h) (.inl ⟨by rfl, fun _ _ => rfl⟩) hS ?_
                simp only [Act.put, List.setIfInBounds_toArray, List.set_cons_zero, List.set_cons_succ, List.getElem_toArray, List.getElem_cons_succ, List.getElem_cons_zero]
                refine wpAnyH_take (i := 14) (v := .bool true) rfl (by kernel_rfl) (by kernel_rfl) (by kernel_rfl) (fun _ _ _ h => h) (.inl ⟨by rfl, fun _ _ => rfl⟩) hS ?_
                simp only [Act.put, List.setIfInBounds_toArray, List.set_cons_zero, List.set_cons_succ, List.getElem_toArray, List.getElem_cons_succ, List.getElem_cons_zero]
                refine wpAnyH_take (i := 15) (v := .slice (some ⟨gl, ol, none⟩) n ca) rfl (by kernel_rfl) (by kernel_rfl) (by kernel_rfl) (fun _ _ _ h => h) (.inl ⟨by rfl, fun _ _ => rfl⟩) hS ?_
                simp only [Act.put, List.setIfInBounds_toArray, List.set_cons_zero, List.set_cons_succ, List.getElem_toArray, List.getElem_cons_succ, List.getElem_cons_zero]
                refine wpAnyH_take (i := 16) (v := .slice (some ⟨pd, od, none⟩) dn dc) rfl (by kernel_rfl) (by kernel_rfl) (by kernel_rfl) (fun _ _ _ h => h) (.inl ⟨by rfl, fun _ _ => rfl⟩) hS ?_
                simp only [Act.put, List.setIfInBounds_toArray, List.set_cons_zero, List.set_cons_succ, List.getElem_toArray, List.getElem_cons_succ, List.getElem_cons_zero]
                refine wpAnyH_take (i := 17) (v := .int .i64 (d : Int)) rfl (by kernel_rfl) (by kernel_rfl) (by kernel_rfl) (fun _ _ _ h => h) (.inl ⟨by rfl, fun _ _ => rfl⟩) hS ?_
                simp only [Act.put, List.setIfInBounds_toArray, List.set_cons_zero, List.set_cons_succ, List.getElem_toArray, List.getElem_cons_succ, List.getElem_cons_zero]
                refine wpAnyH_take (i := 18) (v := .pointer (some ⟨pd, od + d, none⟩)) rfl (by kernel_rfl) (by kernel_rfl) (by kernel_rfl) (fun _ _ _ h => h) (.inl ⟨by rfl, fun _ _ => by go_simp⟩) hS ?_
                simp only [Act.put, List.setIfInBounds_toArray, List.set_cons_zero, List.set_cons_succ, List.getElem_toArray, List.getElem_cons_succ, List.getElem_cons_zero]
                refine wpAnyH_take (i := 19) (v := .int .i64 (m : Int)) rfl (by kernel_rfl) (by kernel_rfl) (by kernel_rfl) (fun _ _ _ h => h) (.inl ⟨by rfl, fun w' hw' => by have c := (HSE.out w' hw').cell hcd id; go_simp⟩) hS ?_
                simp only [Act.put, List.setIfInBounds_toArray, List.set_cons_zero, List.set_cons_succ, List.getElem_toArray, List.getElem_cons_succ, List.getElem_cons_zero]
                refine wpAnyH_take (i := 20) (v := .pointer (some ⟨gl, ol + m, none⟩)) rfl (by kernel_rfl) (by kernel_rfl) (by kernel_rfl) (fun _ _ _ h => h) (.inl ⟨by rfl, fun _ _ => by go_simp⟩) hS ?_
                simp only [Act.put, List.setIfInBounds_toArray, List.set_cons_zero, List.set_cons_succ, List.getElem_toArray, List.getElem_cons_succ, List.getElem_cons_zero]
                refine wpAnyH_take (i := 21) (v := .slice al q cl) rfl (by kernel_rfl) (by kernel_rfl) (by kernel_rfl) (fun _ _ _ h => h) (.inl ⟨by rfl, fun w' hw' => by have c := (HSE.out w' hw').cell hcl id; go_simp⟩) hS ?_
                simp only [Act.put, List.setIfInBounds_toArray, List.set_cons_zero, List.set_cons_succ, List.getElem_toArray, List.getElem_cons_succ, List.getElem_cons_zero]
                refine wpAnyH_take (i := 22) (v := .slice (some ⟨gB, oB, none⟩) nB cB) rfl (by kernel_rfl) (by kernel_rfl) (by kernel_rfl) (fun _ _ _ h => h) (.inl ⟨by rfl, fun _ _ => rfl⟩) hS ?_
                simp only [Act.put, List.setIfInBounds_toArray, List.set_cons_zero, List.set_cons_succ, List.getElem_toArray, List.getElem_cons_succ, List.getElem_cons_zero]
                refine wpAnyH_take (i := 23) (v := .int .i64 (p : Int)) rfl (by kernel_rfl) (by kernel_rfl) (by kernel_rfl) (fun _ _ _ h => h) (.inl ⟨by rfl, fun _ _ => rfl⟩) hS ?_
                simp only [Act.put, List.setIfInBounds_toArray, List.set_cons_zero, List.set_cons_succ, List.getElem_toArray, List.getElem_cons_succ, List.getElem_cons_zero]
                refine wpAnyH_take (i := 24) (v := .pointer (some ⟨gB, oB + p * 2, none⟩)) rfl (by kernel_rfl) (by kernel_rfl) (by kernel_rfl) (fun _ _ _ h => h) (.inl ⟨by rfl, fun _ _ => by go_simp⟩) hS ?_
                simp only [Act.put, List.setIfInBounds_toArray, List.set_cons_zero, List.set_cons_succ, List.getElem_toArray, List.getElem_cons_succ, List.getElem_cons_zero]
                refine wpAnyH_take (i := 25) (v := .agg (adCs x).toArray) rfl (by kernel_rfl) (by kernel_rfl) (by kernel_rfl) (fun _ _ _ h => h) (yieldsIf_load_mid (by rfl) 25 (.tmp 103) rfl (gB) (oB + p * 2) rfl (adCs x) _ (fun w' h => (HSE.out w' h).rangeAt HX.out) adUnder rfl sizeAd) hS ?_
                simp only [Act.put, List.setIfInBounds_toArray, List.set_cons_zero, List.set_cons_succ, List.getElem_toArray, List.getElem_cons_succ, List.getElem_cons_zero]
                refine wpAnyH_one (k := 26) rfl (by kernel_rfl) ?_
                go_wp2_with fail
                refine (yes_of (has_any _ _ L x (by rw [HQ.out]; have h := HRL.out.keep (HSE.out _ hS) (fun _ _ => id); rwa [HQ.out] at h)) (decide_eq_true HXL.out)).mono ?_
                rintro e wq46 ⟨rfl, hk⟩
                have hS1 := HSI.out _ ((HSE.out _ hS).trans hk)
                clear hS hk
                go_wp2_with fail
                refine ⟨hS1, ?_⟩
                refine wpAnyH_take (i := 27) (v := .bool false) rfl (by kernel_rfl) (by kernel_rfl) (by kernel_rfl) (fun _ _ _ h => h) (.inl ⟨by rfl, fun _ _ => by go_simp⟩) hS1 ?_
                simp only [Act.put, List.setIfInBounds_toArray, List.set_cons_zero, List.set_cons_succ, List.getElem_toArray, List.getElem_cons_succ, List.getElem_cons_zero]
                refine wpAnyH_take (i := 28) (v := .bool false) rfl (by kernel_rfl) (by kernel_rfl) (by kernel_rfl) (fun _ _ _ h => h) (.inl ⟨by rfl, fun _ _ => rfl⟩) hS1 ?_
                simp only [Act.put, List.setIfInBounds_toArray, List.set_cons_zero, List.set_cons_succ, List.getElem_toArray, List.getElem_cons_succ, List.getElem_cons_zero]
                refine wpAnyH_done (by kernel_rfl) ?_ _
                have HKR := Lib.hid (HSE.out _ hS1)
                clear hS1 HSE HSI
                have HKL := Lib.hid (HKL.out.trans HKR.out)
                clear HKR hcl hcd
                go_wp2_with fail
                go_roundw
                case rel => exact ⟨d + 1, by omega, by go_num, HKL⟩
                case measure => simp [intOf]; omega
              · go_wp2_with fail
                obtain ⟨S, hS0⟩ : ∃ S : World → Prop, S = fun w' => Keep noBlk wr w' := ⟨_, rfl⟩
                have HSE := Lib.hid (show ∀ w', S w' → Keep noBlk wr w' from fun w' h => by rw [hS0] at h; exact h)
                have HSI := Lib.hid (show ∀ w', Keep noBlk wr w' → S w' from fun w' h => by rw [hS0]; exact h)
                have hS : S wr.drew := by rw [hS0]; exact (Keep.refl _ _).drew
                clear hS0
                refine wp_region_held (S := S) (by kernel_rfl) ?_
                change wpAnyH _ _ _ _ _ _ _ _ wr.drew
                generalize wr.drew = wq45 at hS ⊢
                refine wpAnyH_take (i := 0) (v := .slice (some ⟨pd, od, none⟩) dn dc) rfl (by kernel_rfl) (by kernel_rfl) (by kernel_rfl) (fun _ _ _ h => h) (.inl ⟨by rfl, fun _ _ => rfl⟩) hS ?_
                simp only [Act.put, List.setIfInBounds_toArray, List.set_cons_zero, List.set_cons_succ, List.getElem_toArray, List.getElem_cons_zero]
                refine wpAnyH_take (i := 1) (v := .int .i64 (d : Int)) rfl (by kernel_rfl) (by kernel_rfl) (by kernel_rfl) (fun _ _ _ h => h) (.inl ⟨by rfl, fun _ _ => rfl⟩) hS ?_
                simp only [Act.put, List.setIfInBounds_toArray, List.set_cons_zero, List.set_cons_succ, List.getElem_toArray, List.getElem_cons_succ, List.getElem_cons_zero]
                refine wpAnyH_take (i := 2) (v := .pointer (some ⟨pd, od + d, none⟩)) rfl (by kernel_rfl) (by kernel_rfl) (by kernel_rfl) (fun _ _ _ h => h) (.inl ⟨by rfl, fun _ _ => by go_simp⟩) hS ?_
                simp only [Act.put, List.setIfInBounds_toArray, List.set_cons_zero, List.set_cons_succ, List.getElem_toArray, List.getElem_cons_succ, List.getElem_cons_zero]
                refine wpAnyH_take (i := 3) (v := .int .i64 s0) rfl (by kernel_rfl) (by kernel_rfl) (by kernel_rfl) (fun _ _ _ h => h) (.inl ⟨by rfl, fun w' hw' => by have c := (HSE.out w' hw').cell hcd id; go_simp⟩) hS ?_
                simp only [Act.put, List.setIfInBounds_toArray, List.set_cons_zero, List.set_cons_succ, List.getElem_toArray, List.getElem_cons_succ, List.getElem_cons_zero]
                refine wpAnyH_take (i := 4) (v := .bool true) rfl (by kernel_rfl) (by kernel_rfl) (by kernel_rfl) (fun _ _ _ h => h) (.inl ⟨by rfl, fun _ _ => by go_simp⟩) hS ?_
                simp only [Act.put, List.setIfInBounds_toArray, List.set_cons_zero, List.set_cons_succ, List.getElem_toArray, List.getElem_cons_succ, List.getElem_cons_zero]
                refine wpAnyH_take (i := 5) (v := .bool true) rfl (by kernel_rfl) (by kernel_rfl) (by kernel_rfl) (fun _ _ _ h => h) (.inl ⟨by rfl, fun _ _ => rfl⟩) hS ?_
                simp only [Act.put, List.setIfInBounds_toArray, List.set_cons_zero, List.set_cons_succ, List.getElem_toArray, List.getElem_cons_succ, List.getElem_cons_zero]
                refine wpAnyH_take (i := 6) (v := .slice (some ⟨pd, od, none⟩) dn dc) rfl (by kernel_rfl) (by kernel_rfl) (by kernel_rfl) (fun _ _ _ h => h) (.inl ⟨by rfl, fun _ _ => rfl⟩) hS ?_
                simp only [Act.put, List.setIfInBounds_toArray, List.set_cons_zero, List.set_cons_succ, List.getElem_toArray, List.getElem_cons_succ, List.getElem_cons_zero]
                refine wpAnyH_take (i := 7) (v := .int .i64 (d : Int)) rfl (by kernel_rfl) (by kernel_rfl) (by kernel_rfl) (fun _ _ _ h => h) (.inl ⟨by rfl, fun _ _ => rfl⟩) hS ?_
                simp only [Act.put, List.setIfInBounds_toArray, List.set_cons_zero, List.set_cons_succ, List.getElem_toArray, List.getElem_cons_succ, List.getElem_cons_zero]
                refine wpAnyH_take (i := 8) (v := .pointer (some ⟨pd, od + d, none⟩)) rfl (by kernel_rfl) (by kernel_rfl) (by kernel_rfl) (fun _ _ _ h => h) (.inl ⟨by rfl, fun _ _ => by go_simp⟩) hS ?_
                simp only [Act.put, List.setIfInBounds_toArray, List.set_cons_zero, List.set_cons_succ, List.getElem_toArray, List.getElem_cons_succ, List.getElem_cons_zero]
                refine wpAnyH_take (i := 9) (v := .int .i64 s0) rfl (by kernel_rfl) (by kernel_rfl) (by kernel_rfl) (fun _ _ _ h => h) (.inl ⟨by rfl, fun w' hw' => by have c := (HSE.out w' hw').cell hcd id; go_simp⟩) hS ?_
                simp only [Act.put, List.setIfInBounds_toArray, List.set_cons_zero, List.set_cons_succ, List.getElem_toArray, List.getElem_cons_succ, List.getElem_cons_zero]
                refine wpAnyH_take (i := 10) (v := .slice oa n ca) rfl (by kernel_rfl) (by kernel_rfl) (by kernel_rfl) (fun _ _ _ h => h) (.inl ⟨by rfl, fun _ _ => rfl⟩) hS ?_
                simp only [Act.put, List.setIfInBounds_toArray, List.set_cons_zero, List.set_cons_succ, List.getElem_toArray, List.getElem_cons_succ, List.getElem_cons_zero]
                refine wpAnyH_take (i := 11) (v := .int .i64 n) rfl (by kernel_rfl) (by kernel_rfl) (by kernel_rfl) (fun _ _ _ h => h) (.inl ⟨by rfl, fun _ _ => by go_simp⟩) hS ?_
                simp only [Act.put, List.setIfInBounds_toArray, List.set_cons_zero, List.set_cons_succ, List.getElem_toArray, List.getElem_cons_succ, List.getElem_cons_zero]
                refine wpAnyH_take (i := 12) (v := .bool false) rfl (by kernel_rfl) (by kernel_rfl) (by kernel_rfl) (fun _ _ _ h => h) (.inl ⟨by rfl, fun _ _ => by go_simp⟩) hS ?_
                simp only [Act.put, List.setIfInBounds_toArray, List.set_cons_zero, List.set_cons_succ, List.getElem_toArray, List.getElem_cons_succ, List.getElem_cons_zero]
                refine wpAnyH_take (i := 13) (v := .bool false) rfl (by kernel_rfl) (by kernel_rfl) (by kernel_rfl) (fun _ _ _ h => h) (.inl ⟨by rfl, fun _ _ => rfl⟩) hS ?_
                simp only [Act.put, List.setIfInBounds_toArray, List.set_cons_zero, List.set_cons_succ, List.getElem_toArray, List.getElem_cons_succ, List.getElem_cons_zero]
                refine wpAnyH_take (i := 14) (v := .bool false) rfl (by kernel_rfl) (by kernel_rfl) (by kernel_rfl) (fun _ _ _ h => h) (.inl ⟨by rfl, fun _ _ => rfl⟩) hS ?_
                simp only [Act.put, List.setIfInBounds_toArray, List.set_cons_zero, List.set_cons_succ, List.getElem_toArray, List.getElem_cons_succ, List.getElem_cons_zero]
                refine wpAnyH_take (i := 15) (v := undef) rfl (by kernel_rfl) (by kernel_rfl) (by kernel_rfl) (fun _ _ _ h => h) (.inr ⟨by rfl, rfl⟩) hS ?_
                simp only [Act.put, List.setIfInBounds_toArray, List.set_cons_zero, List.set_cons_succ, List.getElem_toArray, List.getElem_cons_succ, List.getElem_cons_zero]
                refine wpAnyH_take (i := 16) (v := undef) rfl (by kernel_rfl) (by kernel_rfl) (by kernel_rfl) (fun _ _ _ h => h) (.inr ⟨by rfl, rfl⟩) hS ?_
                simp only [Act.put, List.setIfInBounds_toArray, List.set_cons_zero, List.set_cons_succ, List.getElem_toArray, List.getElem_cons_succ, List.getElem_cons_zero]
                refine wpAnyH_take (i := 17) (v := undef) rfl (by kernel_rfl) (by kernel_rfl) (by kernel_rfl) (fun _ _ _ h => h) (.inr ⟨by rfl, rfl⟩) hS ?_
                simp only [Act.put, List.setIfInBounds_toArray, List.set_cons_zero, List.set_cons_succ, List.getElem_toArray, List.getElem_cons_succ, List.getElem_cons_zero]
                refine wpAnyH_take (i := 18) (v := undef) rfl (by kernel_rfl) (by kernel_rfl) (by kernel_rfl) (fun _ _ _ h => h) (.inr ⟨by rfl, rfl⟩) hS ?_
                simp only [Act.put, List.setIfInBounds_toArray, List.set_cons_zero, List.set_cons_succ, List.getElem_toArray, List.getElem_cons_succ, List.getElem_cons_zero]
                refine wpAnyH_take (i := 19) (v := undef) rfl (by kernel_rfl) (by kernel_rfl) (by kernel_rfl) (fun _ _ _ h => h) (.inr ⟨by rfl, rfl⟩) hS ?_
                simp only [Act.put, List.setIfInBounds_toArray, List.set_cons_zero, List.set_cons_succ, List.getElem_toArray, List.getElem_cons_succ, List.getElem_cons_zero]
                refine wpAnyH_take (i := 20) (v := undef) rfl (by kernel_rfl) (by kernel_rfl) (by kernel_rfl) (fun _ _ _ h => h) (.inr ⟨by rfl, rfl⟩) hS ?_
                simp only [Act.put, List.setIfInBounds_toArray, List.set_cons_zero, List.set_cons_succ, List.getElem_toArray, List.getElem_cons_succ, List.getElem_cons_zero]
                refine wpAnyH_take (i := 21) (v := undef) rfl (by kernel_rfl) (by kernel_rfl) (by kernel_rfl) (fun _ _ _ h => h) (.inr ⟨by rfl, rfl⟩) hS ?_
                simp only [Act.put, List.setIfInBounds_toArray, List.set_cons_zero, List.set_cons_succ, List.getElem_toArray, List.getElem_cons_succ, List.getElem_cons_zero]
                refine wpAnyH_take (i := 22) (v := undef) rfl (by kernel_rfl) (by kernel_rfl) (by kernel_rfl) (fun _ _ _ h => h) (.inr ⟨by rfl, rfl⟩) hS ?_
                simp only [Act.put, List.setIfInBounds_toArray, List.set_cons_zero, List.set_cons_succ, List.getElem_toArray, List.getElem_cons_succ, List.getElem_cons_zero]
                refine wpAnyH_take (i := 23) (v := undef) rfl (by kernel_rfl) (by kernel_rfl) (by kernel_rfl) (fun _ _ _ h => h) (.inr ⟨by rfl, rfl⟩) hS ?_
                simp only [Act.put, List.setIfInBounds_toArray, List.set_cons_zero, List.set_cons_succ, List.getElem_toArray, List.getElem_cons_succ, List.getElem_cons_zero]
                refine wpAnyH_take (i := 24) (v := undef) rfl (by kernel_rfl) (by kernel_rfl) (by kernel_rfl) (fun _ _ _ h => h) (.inr ⟨by rfl, rfl⟩) hS ?_
                simp only [Act.put, List.setIfInBounds_toArray, List.set_cons_zero, List.set_cons_succ, List.getElem_toArray, List.getElem_cons_succ, List.getElem_cons_zero]
                refine wpAnyH_take (i := 25) (v := undef) rfl (by kernel_rfl) (by kernel_rfl) (by kernel_rfl) (fun _ _ _ h => h) (.inr ⟨by rfl, rfl⟩) hS ?_
                simp only [Act.put, List.setIfInBounds_toArray, List.set_cons_zero, List.set_cons_succ, List.getElem_toArray, List.getElem_cons_succ, List.getElem_cons_zero]
                refine wpAnyH_take (i := 26) (v := undef) rfl (by kernel_rfl) (by kernel_rfl) (by kernel_rfl) (fun _ _ _ h => h) (.inr ⟨by rfl, rfl⟩) hS ?_
                simp only [Act.put, List.setIfInBounds_toArray, List.set_cons_zero, List.set_cons_succ, List.getElem_toArray, List.getElem_cons_succ, List.getElem_cons_zero]
                refine wpAnyH_take (i := 27) (v := undef) rfl (by kernel_rfl) (by kernel_rfl) (by kernel_rfl) (fun _ _ _ h => h) (.inr ⟨by rfl, rfl⟩) hS ?_
                simp only [Act.put, List.setIfInBounds_toArray, List.set_cons_zero, List.set_cons_succ, List.getElem_toArray, List.getElem_cons_succ, List.getElem_cons_zero]
                refine wpAnyH_take (i := 28) (v := .bool false) rfl (by kernel_rfl) (by kernel_rfl) (by kernel_rfl) (fun _ _ _ h => h) (.inl ⟨by rfl, fun _ _ => rfl⟩) hS ?_
                simp only [Act.put, List.setIfInBounds_toArray, List.set_cons_zero, List.set_cons_succ, List.getElem_toArray, List.getElem_cons_succ, List.getElem_cons_zero]
                refine wpAnyH_done (by kernel_rfl) ?_ _
                have HKR := Lib.hid (HSE.out _ hS)
                clear hS HSE HSI
                have HKL := Lib.hid (HKL.out.trans HKR.out)
                clear HKR hcd
                go_wp2_with fail
                go_roundw
                case rel => exact ⟨d + 1, by omega, by go_num, HKL⟩
                case measure => simp [intOf]; omega
            · go_wp2_with fail
              obtain ⟨S, hS0⟩ : ∃ S : World → Prop, S = fun w' => Keep noBlk wr w' := ⟨_, rfl⟩
              have HSE := Lib.hid (show ∀ w', S w' → Keep noBlk wr w' from fun w' h => by rw [hS0] at h; exact h)
              have HSI := Lib.hid (show ∀ w', Keep noBlk wr w' → S w' from fun w' h => by rw [hS0]; exact h)
              have hS : S wr.drew := by rw [hS0]; exact (Keep.refl _ _).drew
              clear hS0
              refine wp_region_held (S := S) (by kernel_rfl) ?_
              change wpAnyH _ _ _ _ _ _ _ _ wr.drew
              generalize wr.drew = wq45 at hS ⊢
              refine wpAnyH_take (i := 0) (v := .slice (some ⟨pd, od, none⟩) dn dc) rfl (by kernel_rfl) (by kernel_rfl) (by kernel_rfl) (fun _ _ _ h => h) (.inl ⟨by rfl, fun _ _ => rfl⟩) hS ?_
              simp only [Act.put, List.setIfInBounds_toArray, List.set_cons_zero, List.set_cons_succ, List.getElem_toArray, List.getElem_cons_zero]
              refine wpAnyH_take (i := 1) (v := .int .i64 (d : Int)) rfl (by kernel_rfl) (by kernel_rfl) (by kernel_rfl) (fun _ _ _ h => h) (.inl ⟨by rfl, fun _ _ => rfl⟩) hS ?_
              simp only [Act.put, List.setIfInBounds_toArray, List.set_cons_zero, List.set_cons_succ, List.getElem_toArray, List.getElem_cons_succ, List.getElem_cons_zero]
              refine wpAnyH_take (i := 2) (v := .pointer (some ⟨pd, od + d, none⟩)) rfl (by kernel_rfl) (by kernel_rfl) (by kernel_rfl) (fun _ _ _ h => h) (.inl ⟨by rfl, fun _ _ => by go_simp⟩) hS ?_
              simp only [Act.put, List.setIfInBounds_toArray, List.set_cons_zero, List.set_cons_succ, List.getElem_toArray, List.getElem_cons_succ, List.getElem_cons_zero]
              refine wpAnyH_take (i := 3) (v := .int .i64 s0) rfl (by kernel_rfl) (by kernel_rfl) (by kernel_rfl) (fun _ _ _ h => h) (.inl ⟨by rfl, fun w' hw' => by have c := (HSE.out w' hw').cell hcd id; go_simp⟩) hS ?_
              simp only [Act.put, List.setIfInBounds_toArray, List.set_cons_zero, List.set_cons_succ, List.getElem_toArray, List.getElem_cons_succ, List.getElem_cons_zero]
              refine wpAnyH_take (i := 4) (v := .bool false) rfl (by kernel_rfl) (by kernel_rfl) (by kernel_rfl) (fun _ _ _ h => h) (.inl ⟨by rfl, fun _ _ => by go_simp⟩) hS ?_
              simp only [Act.put, List.setIfInBounds_toArray, List.set_cons_zero, List.set_cons_succ, List.getElem_toArray, List.getElem_cons_succ, List.getElem_cons_zero]
              refine wpAnyH_take (i := 5) (v := .bool false) rfl (by kernel_rfl) (by kernel_rfl) (by kernel_rfl) (fun _ _ _ h => h) (.inl ⟨by rfl, fun _ _ => rfl⟩) hS ?_
              simp only [Act.put, List.setIfInBounds_toArray, List.set_cons_zero, List.set_cons_succ, List.getElem_toArray, List.getElem_cons_succ, List.getElem_cons_zero]
              refine wpAnyH_take (i := 6) (v := undef) rfl (by kernel_rfl) (by kernel_rfl) (by kernel_rfl) (fun _ _ _ h => h) (.inr ⟨by rfl, rfl⟩) hS ?_
              simp only [Act.put, List.setIfInBounds_toArray, List.set_cons_zero, List.set_cons_succ, List.getElem_toArray, List.getElem_cons_succ, List.getElem_cons_zero]
              refine wpAnyH_take (i := 7) (v := undef) rfl (by kernel_rfl) (by kernel_rfl) (by kernel_rfl) (fun _ _ _ h => h) (.inr ⟨by rfl, rfl⟩) hS ?_
              simp only [Act.put, List.setIfInBounds_toArray, List.set_cons_zero, List.set_cons_succ, List.getElem_toArray, List.getElem_cons_succ, List.getElem_cons_zero]
              refine wpAnyH_take (i := 8) (v := undef) rfl (by kernel_rfl) (by kernel_rfl) (by kernel_rfl) (fun _ _ _ h => h) (.inr ⟨by rfl, rfl⟩) hS ?_
              simp only [Act.put, List.setIfInBounds_toArray, List.set_cons_zero, List.set_cons_succ, List.getElem_toArray, List.getElem_cons_succ, List.getElem_cons_zero]
              refine wpAnyH_take (i := 9) (v := undef) rfl (by kernel_rfl) (by kernel_rfl) (by kernel_rfl) (fun _ _ _ h => h) (.inr ⟨by rfl, rfl⟩) hS ?_
              simp only [Act.put, List.setIfInBounds_toArray, List.set_cons_zero, List.set_cons_succ, List.getElem_toArray, List.getElem_cons_succ, List.getElem_cons_zero]
              refine wpAnyH_take (i := 10) (v := undef) rfl (by kernel_rfl) (by kernel_rfl) (by kernel_rfl) (fun _ _ _ h => h) (.inr ⟨by rfl, rfl⟩) hS ?_
              simp only [Act.put, List.setIfInBounds_toArray, List.set_cons_zero, List.set_cons_succ, List.getElem_toArray, List.getElem_cons_succ, List.getElem_cons_zero]
              refine wpAnyH_take (i := 11) (v := undef) rfl (by kernel_rfl) (by kernel_rfl) (by kernel_rfl) (fun _ _ _ h => h) (.inr ⟨by rfl, rfl⟩) hS ?_
              simp only [Act.put, List.setIfInBounds_toArray, List.set_cons_zero, List.set_cons_succ, List.getElem_toArray, List.getElem_cons_succ, List.getElem_cons_zero]
              refine wpAnyH_take (i := 12) (v := undef) rfl (by kernel_rfl) (by kernel_rfl) (by kernel_rfl) (fun _ _ _ h => h) (.inr ⟨by rfl, rfl⟩) hS ?_
              simp only [Act.put, List.setIfInBounds_toArray, List.set_cons_zero, List.set_cons_succ, List.getElem_toArray, List.getElem_cons_succ, List.getElem_cons_zero]
              refine wpAnyH_take (i := 13) (v := .bool false) rfl (by kernel_rfl) (by kernel_rfl) (by kernel_rfl) (fun _ _ _ h => h) (.inl ⟨by rfl, fun _ _ => rfl⟩) hS ?_
              simp only [Act.put, List.setIfInBounds_toArray, List.set_cons_zero, List.set_cons_succ, List.getElem_toArray, List.getElem_cons_succ, List.getElem_cons_zero]
              refine wpAnyH_take (i := 14) (v := .bool false) rfl (by kernel_rfl) (by kernel_rfl) (by kernel_rfl) (fun _ _ _ h => h) (.inl ⟨by rfl, fun _ _ => rfl⟩) hS ?_
              simp only [Act.put, List.setIfInBounds_toArray, List.set_cons_zero, List.set_cons_succ, List.getElem_toArray, List.getElem_cons_succ, List.getElem_cons_zero]
              refine wpAnyH_take (i := 15) (v := undef) rfl (by kernel_rfl) (by kernel_rfl) (by kernel_rfl) (fun _ _ _ h => h) (.inr ⟨by rfl, rfl⟩) hS ?_
              simp only [Act.put, List.setIfInBounds_toArray, List.set_cons_zero, List.set_cons_succ, List.getElem_toArray, List.getElem_cons_succ, List.getElem_cons_zero]
              refine wpAnyH_take (i := 16) (v := undef) rfl (by kernel_rfl) (by kernel_rfl) (by kernel_rfl) (fun _ _ _ h => h) (.inr ⟨by rfl, rfl⟩) hS ?_
              simp only [Act.put, List.setIfInBounds_toArray, List.set_cons_zero, List.set_cons_succ, List.getElem_toArray, List.getElem_cons_succ, List.getElem_cons_zero]
              refine wpAnyH_take (i := 17) (v := undef) rfl (by kernel_rfl) (by kernel_rfl) (by kernel_rfl) (fun _ _ _ h => h) (.inr ⟨by rfl, rfl⟩) hS ?_
              simp only [Act.put, List.setIfInBounds_toArray, List.set_cons_zero, List.set_cons_succ, List.getElem_toArray, List.getElem_cons_succ, List.getElem_cons_zero]
              refine wpAnyH_take (i := 18) (v := undef) rfl (by kernel_rfl) (by kernel_rfl) (by kernel_rfl) (fun _ _ _ h => h) (.inr ⟨by rfl, rfl⟩) hS ?_
              simp only [Act.put, List.setIfInBounds_toArray, List.set_cons_zero, List.set_cons_succ, List.getElem_toArray, List.getElem_cons_succ, List.getElem_cons_zero]
              refine wpAnyH_take (i := 19) (v := undef) rfl (by kernel_rfl) (by kernel_rfl) (by kernel_rfl) (fun _ _ _ h => h) (.inr ⟨by rfl, rfl⟩) hS ?_
              simp only [Act.put, List.setIfInBounds_toArray, List.set_cons_zero, List.set_cons_succ, List.getElem_toArray, List.getElem_cons_succ, List.getElem_cons_zero]
              refine wpAnyH_take (i := 20) (v := undef) rfl (by kernel_rfl) (by kernel_rfl) (by kernel_rfl) (fun _ _ _ h => h) (.inr ⟨by rfl, rfl⟩) hS ?_
              simp only [Act.put, List.setIfInBounds_toArray, List.set_cons_zero, List.set_cons_succ, List.getElem_toArray, List.getElem_cons_succ, List.getElem_cons_zero]
              refine wpAnyH_take (i := 21) (v := undef) rfl (by kernel_rfl) (by kernel_rfl) (by kernel_rfl) (fun _ _ _ h => h) (.inr ⟨by rfl, rfl⟩) hS ?_
              simp only [Act.put, List.setIfInBounds_toArray, List.set_cons_zero, List.set_cons_succ, List.getElem_toArray, List.getElem_cons_succ, List.getElem_cons_zero]
              refine wpAnyH_take (i := 22) (v := undef) rfl (by kernel_rfl) (by kernel_rfl) (by kernel_rfl) (fun _ _ _ h => h) (.inr ⟨by rfl, rfl⟩) hS ?_
              simp only [Act.put, List.setIfInBounds_toArray, List.set_cons_zero, List.set_cons_succ, List.getElem_toArray, List.getElem_cons_succ, List.getElem_cons_zero]
              refine wpAnyH_take (i := 23) (v := undef) rfl (by kernel_rfl) (by kernel_rfl) (by kernel_rfl) (fun _ _ _ h => h) (.inr ⟨by rfl, rfl⟩) hS ?_
              simp only [Act.put, List.setIfInBounds_toArray, List.set_cons_zero, List.set_cons_succ, List.getElem_toArray, List.getElem_cons_succ, List.getElem_cons_zero]
              refine wpAnyH_take (i := 24) (v := undef) rfl (by kernel_rfl) (by kernel_rfl) (by kernel_rfl) (fun _ _ _ h => h) (.inr ⟨by rfl, rfl⟩) hS ?_
              simp only [Act.put, List.setIfInBounds_toArray, List.set_cons_zero, List.set_cons_succ, List.getElem_toArray, List.getElem_cons_succ, List.getElem_cons_zero]
              refine wpAnyH_take (i := 25) (v := undef) rfl (by kernel_rfl) (by kernel_rfl) (by kernel_rfl) (fun _ _ _ h => h) (.inr ⟨by rfl, rfl⟩) hS ?_
              simp only [Act.put, List.setIfInBounds_toArray, List.set_cons_zero, List.set_cons_succ, List.getElem_toArray, List.getElem_cons_succ, List.getElem_cons_zero]
              refine wpAnyH_take (i := 26) (v := undef) rfl (by kernel_rfl) (by kernel_rfl) (by kernel_rfl) (fun _ _ _ h => h) (.inr ⟨by rfl, rfl⟩) hS ?_
              simp only [Act.put, List.setIfInBounds_toArray, List.set_cons_zero, List.set_cons_succ, List.getElem_toArray, List.getElem_cons_succ, List.getElem_cons_zero]
              refine wpAnyH_take (i := 27) (v := undef) rfl (by kernel_rfl) (by kernel_rfl) (by kernel_rfl) (fun _ _ _ h => h) (.inr ⟨by rfl, rfl⟩) hS ?_
              simp only [Act.put, List.setIfInBounds_toArray, List.set_cons_zero, List.set_cons_succ, List.getElem_toArray, List.getElem_cons_succ, List.getElem_cons_zero]
              refine wpAnyH_take (i := 28) (v := .bool false) rfl (by kernel_rfl) (by kernel_rfl) (by kernel_rfl) (fun _ _ _ h => h) (.inl ⟨by rfl, fun _ _ => rfl⟩) hS ?_
              simp only [Act.put, List.setIfInBounds_toArray, List.set_cons_zero, List.set_cons_succ, List.getElem_toArray, List.getElem_cons_succ, List.getElem_cons_zero]
              refine wpAnyH_done (by kernel_rfl) ?_ _
              have HKR := Lib.hid (HSE.out _ hS)
              clear hS HSE HSI
              have HKL := Lib.hid (HKL.out.trans HKR.out)
              clear HKR hcd
              go_wp2_with fail
              go_roundw
              case rel => exact ⟨d + 1, by omega, by go_num, HKL⟩
              case measure => simp [intOf]; omega
          · obtain rfl : d = dn := by omega
            go_wp2_with fail
            go_roundw
            case rel => exact ⟨p + 1, by omega, by go_num, HKL⟩
            case measure => simp [intOf]; omega
        · obtain rfl : p = nB := by omega
          have HRA := Lib.hid (HRA.out.keep HKL.out fun _ _ => id); have HK := Lib.hid (HK.out.trans HKL.out)
          clear HKL HRD HRB HR
          go_wp2_with fail
          refine (told_of (sort_any _ _ A HAA.out (by rw [HNA.out]; exact HRA.out) (by rw [HNA.out]; omega)) ((show canon A = A from by rw [← HEA.out]; exact canon_self _))).mono ?_
          rintro e wq45 ⟨v, rfl, ho2, hk2⟩
          have HRA := Lib.hid (HRA.out.keep hk2 fun _ _ => id)
          have HK := Lib.hid (HK.out.trans hk2)
          rw [HNA.out] at ho2
          obtain ⟨aD, cD, hvD, -, -⟩ := (Rd.of_owns ho2).form
          subst hvD
          have HRD := Lib.hid (Rd.of_owns ho2)
          clear ho2 hk2
          go_wp2_with fail
          refine (same_any _ _ _ A A (by rw [HNA.out]; exact HRA.out) (by rw [HNA.out]; exact HRD.out) true (decide_eq_true rfl)).mono ?_
          rintro e wq46 ⟨rfl, hk⟩
          have HRA := Lib.hid (HRA.out.keep hk fun _ _ => id)
          have HK := Lib.hid (HK.out.trans hk)
          have HRD := Lib.hid (HRD.out.keep hk fun _ _ => id)
          clear hk
          go_wp2_with fail
          go_ret
          exact ⟨rfl, HK.out⟩
  · go_wp2_with fail
    go_ret
    exact ⟨rfl, HK.out⟩

end Go.Proofs.Ytmilgaoilglmjaa
