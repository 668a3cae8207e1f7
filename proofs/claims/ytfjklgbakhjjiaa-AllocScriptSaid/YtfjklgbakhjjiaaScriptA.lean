/-
  AllocScript's walk.
  Conditions: none.
-/
import Derived.Test.YtfjklgbakhjjiaaStepA
import Derived.Test.YtfjklgbakhjjiaaSameI
import Derived.Test.YtfjklgbakhjjiaaLongA
import Derived.Test.YtfjklgbakhjjiaaLawA
namespace Go.Proofs.Ytfjklgbakhjjiaa
open Go.RowKit Go.Maps Go.ChangeMaps
set_option maxRecDepth 100000
set_option linter.unusedVariables false

theorem sizeAct : (Try.prog.info? 41).map (·.size) = some 5 := by kernel_rfl
/-- A list that was told is written over. -/
theorem StIs.over {u : Value} {w0 w w1 w2 : World} {lo a b r D Z : Nat} {c : Nat → Option Nat} {v tv : Value} {C : List Ad} {T : List (Value × List Ad)} (h : StIs w0 w lo a b c r v D Z C tv T) (k0 : Keep noBlk w w1) (k : Keep (fun i => u.ownBlock = some i) w1 w2) (hu : ∀ i, u.ownBlock = some i → w.heap.size ≤ i) : StIs w0 w2 lo a b c r v D Z C tv T :=
  (h.keep0 k0).keepS k fun i hi => by
    have h1 := hu i hi
    refine ⟨by have := (h.mine (k := r) (.inr rfl)); omega, fun hm => by have := (h.mine hm).2; omega, fun hv => by have := h.ref.vl i hv; omega, fun ht => by have := (h.tak.lt.1 i ht).2; omega, fun p hp hpi => by have := (h.tak.lt.2 p hp i hpi).2; omega⟩
/-- What was handed in is written over. -/
theorem StIs.keepI {u : Value} {w0 w w1 : World} {lo a b r D Z : Nat} {c : Nat → Option Nat} {v tv : Value} {C : List Ad} {T : List (Value × List Ad)} (h : StIs w0 w lo a b c r v D Z C tv T) (k : Keep (fun i => u.ownBlock = some i) w w1) (hu : ∀ i, u.ownBlock = some i → w0.heap.size ≤ i ∧ i < lo) (hvl : ∀ i, v.ownBlock = some i → lo ≤ i) : StIs w0 w1 lo a b c r v D Z C tv T :=
  ⟨h.keep.trans' k (U := noBlk) (fun _ _ h => h) (fun i hi e => by have := (hu i e).1; omega), h.lo0, h.led.keep k fun i e ho => by have := (h.led.own_lt ho).1; have := (hu i e).2; omega, h.ref.keep k (fun e => by have := (hu r e).2; have := h.lr; omega) (fun i hi e => by have := (hu i e).2; have := hvl i hi; omega), h.nr, h.lr, h.nv, h.tak.keep k (fun i hi e => by have := (hu i e).2; have := (h.tak.lt.1 i hi).1; omega) (fun p hp i hi e => by have := (hu i e).2; have := (h.tak.lt.2 p hp i hi).1; omega), h.tvv⟩
set_option maxHeartbeats 32000000 in
theorem allocScript_walk (w : World) (dv : Int) (hdv : In64 dv) (sc : Int) (hsc : In64 sc) (vu : Value) (us : List Ad) (hau : AdsOk us) (hru : Rd w 2 vu us.length (adCells us)) (v : Value) (l : List ActV) (ho : ∀ x ∈ l, ActOk w x) (hr : Rd w 5 v l.length (actCells l)) :
    Calls Try.prog 3 #[.int .i64 dv, .int .i64 sc, vu, v] w (TherePost w true) := by
  have CW := Lib.hid (fun w => (awakeA_any w).mono fun e w' (h : TherePost w true e w') => (show e = .returned (.bool true) ∧ Keep noBlk w w' from h))
  have CL := Lib.hid (fun wx (k : Keep noBlk w wx) => (longA_any wx v l (fun x hx => (ho x hx).keep k) (hr.keep k fun _ _ => id)).mono fun e w' (h : TherePost wx (longA l) e w') => (show e = .returned (.bool (longA l)) ∧ Keep noBlk wx w' from h))
  obtain ⟨oa, ca, rfl, -, -⟩ := hr.form
  obtain ⟨ua, uc, rfl, -, -⟩ := hru.form
  have hlm : l.length ≤ maxLen := by obtain ⟨_, a', c', h1, h2, h3, -⟩ := hr; omega
  have hum : us.length ≤ maxLen := by obtain ⟨_, a', c', h1, h2, h3, -⟩ := hru; omega
  unfold maxLen at hlm hum
  obtain ⟨bb, hbb⟩ : ∃ b, longA l = b := ⟨_, rfl⟩
  have HBB := Lib.hid hbb
  obtain ⟨n, hn⟩ : ∃ n, l.length = n := ⟨_, rfl⟩
  obtain ⟨un, hun⟩ : ∃ n, us.length = n := ⟨_, rfl⟩
  have HN := Lib.hid hn; have HUN := Lib.hid hun; have HR := Lib.hid hr; have HRU := Lib.hid hru; have HOA := Lib.hid ho
  rw [hn, hbb] at CL
  rw [hn] at HR hlm ⊢
  rw [hun] at HRU hum ⊢
  have HK := Lib.hid (Keep.refl noBlk w)
  clear hr hru hn hun hbb ho hau
  by_cases h60 : 60 < sc
  · go_enter Try.func3, Try.ntmps3
    go_wp2_with fail
    refine (CW.out _).mono ?_
    rintro e wq41 ⟨rfl, hk⟩
    have HK := Lib.hid (HK.out.trans hk)
    clear hk
    go_wp2_with fail
    go_ret
    exact ⟨rfl, HK.out⟩
  · have h60n : ¬ 60 < sc := h60
    by_cases h100 : 100 < un
    · have h100i : (100 : Int) < (un : Int) := by omega
      go_enter Try.func3, Try.ntmps3
      go_wp2_with fail
      refine (CW.out _).mono ?_
      rintro e wq41 ⟨rfl, hk⟩
      have HK := Lib.hid (HK.out.trans hk)
      clear hk
      go_wp2_with fail
      go_ret
      exact ⟨rfl, HK.out⟩
    · have h100i : ¬ (100 : Int) < (un : Int) := by omega
      go_enter Try.func3, Try.ntmps3
      go_wp2_with fail
      refine (CL.out _ HK.out).mono ?_
      rintro e wq41 ⟨rfl, hk⟩
      have HK := Lib.hid (HK.out.trans hk)
      clear hk
      clear CL
      cases bb
      · have hlong := longA_false HBB.out
        have hn60 : n ≤ 60 := by rw [← HN.out]; exact hlong.1
        have HLG := Lib.hid hlong.2
        clear hlong
        go_wp2_with fail
        refine (copyAddrs_any wq41 (.slice ua un uc) us (by rw [HUN.out]; exact HRU.out.keep HK.out fun _ _ => id) (by rw [HUN.out]; omega)).mono ?_
        rintro e w2 ⟨vi, rfl, hoi, hk⟩
        rw [HUN.out] at hoi
        obtain ⟨ia, ic, rfl, -, -⟩ := (Rd.of_owns hoi).form
        have HOI := Lib.hid hoi
        have HIL : Hid (∀ i, (Value.slice ia un ic).ownBlock = some i → w.heap.size ≤ i ∧ i < w2.heap.size) := Lib.hid (fun i hi => ⟨Nat.le_trans HK.out.size (owns_base hoi hi), by obtain ⟨cur, hc⟩ := owns_block hoi hi; exact lt_of_block hc⟩)
        clear hoi
        have HK := Lib.hid (HK.out.trans hk)
        clear hk
        go_wp2_with fail
        have hsz2 : w.heap.size ≤ w2.heap.size := HK.out.size
        refine (new_any w2 dv sc (.slice ia un ic) us (by rw [HUN.out]; exact Rd.of_owns HOI.out)).mono ?_
        intro e w3 hp
        unfold NewPost at hp
        obtain ⟨nb, hnb⟩ : ∃ b, newB dv sc us = b := ⟨_, rfl⟩
        have HNB := Lib.hid hnb
        rw [hnb] at hp
        clear hnb
        cases nb
        · rw [if_neg (by decide)] at hp
          obtain ⟨rfl, hk⟩ := hp
          have HK := Lib.hid (HK.out.trans hk)
          have HOI := Lib.hid (hk.owns HOI.out fun _ _ => id)
          clear hk
          go_wp2_with fail
          refine (rnew_any w3 dv sc (.slice ua un uc) us (by rw [HUN.out]; exact HRU.out.keep HK.out fun _ _ => id) (by rw [HUN.out]; omega)).mono ?_
          intro e w4 hp
          unfold RNewPost at hp
          rw [HNB.out, if_neg (by decide)] at hp
          obtain ⟨rfl, hk⟩ := hp
          have HK := Lib.hid (HK.out.trans hk)
          have HOI := Lib.hid (hk.owns HOI.out fun _ _ => id)
          clear hk
          go_wp2_with fail
          refine (same_any w4 (.slice ia un ic) (.slice ua un uc) us us (by rw [HUN.out]; exact Rd.of_owns HOI.out) (by rw [HUN.out]; exact HRU.out.keep HK.out fun _ _ => id) true (decide_eq_true rfl)).mono ?_
          rintro e w5 ⟨rfl, hk⟩
          have HK := Lib.hid (HK.out.trans hk)
          have HOI := Lib.hid (hk.owns HOI.out fun _ _ => id)
          clear hk
          go_wp2_with fail
          refine (over_any w5 _ un (.slice ia un ic) _ HOI.out).mono ?_
          rintro e w6 ⟨rfl, hk⟩
          have HK := Lib.hid (HK.out.trans' hk (U := noBlk) (fun _ _ h => h) (fun i hi e => by have := (HIL.out i e).1; omega))
          clear hk HOI
          go_wp2_with fail
          refine (CW.out _).mono ?_
          rintro e wq42 ⟨rfl, hk⟩
          have HK := Lib.hid (HK.out.trans hk)
          clear hk
          go_wp2_with fail
          go_ret
          exact ⟨rfl, HK.out⟩
        · rw [if_pos rfl] at hp
          obtain ⟨a, b, c, rfl, hld, hk⟩ := hp
          have hbd := hld.bd
          obtain ⟨D, hD⟩ : ∃ D, dv.toNat = D := ⟨_, rfl⟩
          obtain ⟨Z, hZ⟩ : ∃ Z, sc.toNat = Z := ⟨_, rfl⟩
          rw [hD, hZ] at hld hbd
          obtain ⟨lo, hlo⟩ : ∃ lo, w2.heap.size = lo := ⟨_, rfl⟩
          rw [hlo] at hld hsz2
          have HLD := Lib.hid hld
          have hlow : w2.heap.size ≤ lo := Nat.le_of_eq hlo
          have HDZ : Hid (dv.toNat = D ∧ sc.toNat = Z) := Lib.hid ⟨hD, hZ⟩
          clear hld hD hZ hlo
          have HK := Lib.hid (HK.out.trans hk)
          have HOI := Lib.hid (hk.owns HOI.out fun _ _ => id)
          clear hk
          go_wp2_with fail
          refine (rnew_any w3 dv sc (.slice ua un uc) us (by rw [HUN.out]; exact HRU.out.keep HK.out fun _ _ => id) (by rw [HUN.out]; omega)).mono ?_
          intro e w4 hp
          unfold RNewPost at hp
          rw [HNB.out, if_pos rfl] at hp
          obtain ⟨r, vr, rfl, hrf, hr4, hv4, hk⟩ := hp
          rw [HDZ.out.1, HDZ.out.2] at hrf
          have hst : StIs w w4 lo a b c r vr D Z (canon us) (.slice none 0 0) [] := by
            have hown : ∀ i, Own a b c D i → i < w3.heap.size := fun i hi => (HLD.out.own_lt hi).2
            have hlo3 : lo ≤ w3.heap.size := by have := HLD.out.own_lt (k := a) (.inl rfl); omega
            refine ⟨HK.out.trans hk, hsz2, (HLD.out.keep0 hk).congr fun x => mem_canon.symm, hrf, (fun ho => by have := hown r ho; omega), by omega, (fun i hi hm => ?_), ⟨World.ownsRow_nil _ _ _ _, (fun p hp => by cases hp), (fun i hi => by cases hi), (fun p hp => by cases hp), (fun p hp => by cases hp)⟩, (fun i hi => by cases hi)⟩
            rcases hm with ho | rfl
            · have := hown i ho; have := hv4 i hi; omega
            · exact hrf.far hi
          have HST := Lib.hid hst
          have HVL : Hid (∀ i, vr.ownBlock = some i → lo ≤ i) := Lib.hid (fun i hi => by have h1 := hv4 i hi; have h2 := HLD.out.own_lt (k := a) (.inl rfl); omega)
          clear hst hrf hv4
          have HOI := Lib.hid (hk.owns HOI.out fun _ _ => id)
          clear hk HK HLD
          go_wp2_with fail
          refine (same_any w4 (.slice ia un ic) (.slice ua un uc) us us (by rw [HUN.out]; exact Rd.of_owns HOI.out) (by rw [HUN.out]; exact HRU.out.keep HST.out.keep fun _ _ => id) true (decide_eq_true rfl)).mono ?_
          rintro e w5 ⟨rfl, hk⟩
          have HOI := Lib.hid (hk.owns HOI.out fun _ _ => id)
          have HST := Lib.hid (HST.out.keep0 hk)
          clear hk
          go_wp2_with fail
          refine (over_any w5 _ un (.slice ia un ic) _ HOI.out).mono ?_
          rintro e w6 ⟨rfl, hk⟩
          have HST := Lib.hid (HST.out.keepI hk (fun i hi => ⟨(HIL.out i hi).1, by have := (HIL.out i hi).2; omega⟩) HVL.out)
          clear hk HOI
          go_wp2_with fail
          go_loopw [14, 15] (fun t i wx => ∃ (k : Nat) (c : Nat → Option Nat) (vz : Value) (C : List Ad) (T : List (Value × List Ad)), k ≤ n ∧ i = .int .i64 k ∧ Hid (StIs w wx lo a b c r vz D Z C t T) ∧ Hid (T.length ≤ k)) (fun _ i _ => n - (intOf i).toNat)
          case atStart => exact ⟨0, c, vr, canon us, [], Nat.zero_le _, rfl, HST, Lib.hid (Nat.le_refl _)⟩
          case round =>
          clear HST
          obtain ⟨k, c, vz, C, T, hk, rfl, HST, HTL⟩ := hrel
          obtain ⟨ra, rc, hvz, -, -⟩ := HST.out.ref.rd.form
          obtain ⟨cl, hcl⟩ : ∃ x, C.length = x := ⟨_, rfl⟩
          rw [hcl] at hvz
          subst hvz
          have HCL := Lib.hid hcl
          clear hcl
          by_cases hlt : k < n
          · have hki : (k : Int) < (n : Int) := by omega
            have hk0 : (0 : Int) ≤ (k : Int) := by omega
            obtain ⟨x, hx⟩ : ∃ x, l[k]? = some x := ⟨l[k]'(by rw [HN.out]; exact hlt), List.getElem?_eq_getElem _⟩
            have hr2 := HR.out.keep HST.out.keep fun _ _ => id
            rw [← HN.out] at hr2
            obtain ⟨gl, ol, cap', hv, hcx⟩ := rd_act hr2 hx
            rw [HN.out] at hv
            have e1 : oa = some ⟨gl, ol, none⟩ := by cases hv; rfl
            subst e1
            have hxm := List.mem_of_getElem? hx
            have HXA := Lib.hid (HOA.out x hxm); have HXL := Lib.hid (HLG.out x hxm)
            have hat : wr.rangeAt gl (ol + k * 5) (actCs x) := hcx
            have hac5 : (actCs x).length = 5 := rfl
            obtain ⟨ac, hac⟩ : ∃ ac, actCs x = ac := ⟨_, rfl⟩
            have HAC := Lib.hid hac
            rw [hac] at hat hac5
            have HAT := Lib.hid hat
            have HSP := Lib.hid (fun ta => step_any w wr lo a b r D Z c (.slice ra cl rc) ta C T)
            obtain ⟨kd, cp, bk, vt, th, vl, ll⟩ := x
            clear hr2 hv hcx hx hxm hat hac
            go_wp2_with (((with_reducible show wpList _ _ _ (⟨_, .load 41 (.tmp 78), _, _, _, _⟩ :: _) _ _); refine wpList_load_mid rfl 41 (.tmp 78) rfl gl (ol + k * 5) rfl ac _ HAT.out actUnder rfl (by rw [hac5]; exact sizeAct) ?_))
            rw [← HAC.out]
            refine (HSP.out _ HST.out (by have := HTL.out; omega) kd cp bk vt vl th ll HXA.out HXL.out.1 HXL.out.2).mono ?_
            rintro e w5 ⟨c', v', C', tv', T', rfl, hst, hT⟩
            have HTL' : Hid (T'.length ≤ k + 1) := Lib.hid (by have := HTL.out; omega)
            have HST := Lib.hid hst
            obtain ⟨sa, sc', hvz, -, -⟩ := HST.out.ref.rd.form
            obtain ⟨cl', hcl⟩ : ∃ x, C'.length = x := ⟨_, rfl⟩
            rw [hcl] at hvz
            subst hvz
            have HCL' := Lib.hid hcl
            have HUS : Hid (usedAll C' D Z = C') := Lib.hid (by rw [usedAll_canon HST.out.ref.inn, canon_of_rises HST.out.ref.up])
            clear hst hT hcl HSP HAT HAC hac5
            go_wp2_with fail
            refine (ledFree_any w5 lo a b D Z c' C' HST.out.led).mono ?_
            rintro e w6 ⟨v1, rfl, ho1, hk⟩
            rw [freeN_len] at ho1
            obtain ⟨fa, fc, rfl, -, -⟩ := (Rd.of_owns ho1).form
            have HF1 := Lib.hid ho1
            clear ho1
            have HST := Lib.hid (HST.out.keep0 hk)
            clear hk
            go_wp2_with fail
            refine (rfree_any w6 r D Z _ C' HST.out.ref).mono ?_
            rintro e w7 ⟨v2, rfl, ho2, hk⟩
            rw [freeN_len] at ho2
            obtain ⟨ga, gc, rfl, -, -⟩ := (Rd.of_owns ho2).form
            have HF2 := Lib.hid ho2
            clear ho2
            have HST := Lib.hid (HST.out.keep0 hk)
            have HF1 := Lib.hid (hk.owns HF1.out fun _ _ => id)
            clear hk
            go_wp2_with fail
            have hsi := sameInts_any w7 (.slice fa D fc) (.slice ga D gc) (freeN C' D Z) (freeN C' D Z) (by rw [freeN_len]; exact Rd.of_owns HF1.out) (by rw [freeN_len]; exact Rd.of_owns HF2.out)
            rw [decide_eq_true rfl] at hsi
            refine hsi.mono ?_
            rintro e w8 ⟨rfl, hk⟩
            clear hsi
            have HST := Lib.hid (HST.out.keep0 hk)
            clear hk HF1 HF2
            go_wp2_with fail
            refine (ledUsed_any w8 lo a b D Z c' C' HST.out.led).mono ?_
            rintro e w9 ⟨v3, rfl, ho3, hk⟩
            rw [HUS.out, HCL'.out] at ho3
            obtain ⟨ha, hc_, rfl, -, -⟩ := (Rd.of_owns ho3).form
            have HU3 := Lib.hid ho3
            have HUL : Hid (∀ i, (Value.slice ha cl' hc_).ownBlock = some i → w8.heap.size ≤ i) := Lib.hid (fun i hi => owns_base ho3 hi)
            have HST8 := HST
            have HK89 := Lib.hid hk
            clear ho3
            have HST := Lib.hid (HST.out.keep0 hk)
            clear hk
            have hc2 := HST.out.ref.c2
            go_wp2_with fail
            refine (same_any w9 (.slice ha cl' hc_) (.slice sa cl' sc') C' C' (by rw [HCL'.out]; exact Rd.of_owns HU3.out) (by have h := HST.out.ref.rd; rw [HCL'.out] at h ⊢; exact h) true (decide_eq_true rfl)).mono ?_
            rintro e wa ⟨rfl, hk⟩
            have HKA := Lib.hid (HK89.out.trans hk)
            have HU3 := Lib.hid (hk.owns HU3.out fun _ _ => id)
            clear hc2 hk HST
            go_wp2_with fail
            refine (over_any wa _ cl' (.slice ha cl' hc_) _ HU3.out).mono ?_
            rintro e wb ⟨rfl, hk⟩
            have HST := Lib.hid (HST8.out.over HKA.out hk HUL.out)
            clear hk HKA HU3 HST8 HK89
            go_wp2_with fail
            go_roundw
            case rel => exact ⟨k + 1, c', _, C', T', by omega, by go_num, HST, HTL'⟩
            case measure => simp [intOf]; omega
          · obtain rfl : n = k := by omega
            have hki : ¬ (n : Int) < (n : Int) := by omega
            have HUS : Hid (usedAll C D Z = C) := Lib.hid (by rw [usedAll_canon HST.out.ref.inn, canon_of_rises HST.out.ref.up])
            have HC2 := Lib.hid HST.out.ref.c2
            go_wp2_with fail
            obtain ⟨S, hS0⟩ : ∃ S : World → Prop, S = fun w' => Keep noBlk wr w' := ⟨_, rfl⟩
            have HSE := Lib.hid (show ∀ w', S w' → Keep noBlk wr w' from fun w' h => by rw [hS0] at h; exact h)
            have HSI := Lib.hid (show ∀ w', Keep noBlk wr w' → S w' from fun w' h => by rw [hS0]; exact h)
            have hS : S wr.drew := by rw [hS0]; exact (Keep.refl _ _).drew
            clear hS0
            refine wp_region_held (S := S) (by kernel_rfl) ?_
            change wpAnyH _ _ _ _ _ _ _ _ wr.drew
            generalize wr.drew = wq42 at hS ⊢
            refine tna 0 (.pointer (some ⟨a, 0, none⟩)) rfl hS ?_
            refine tna 2 (.pointer (some ⟨r, 0, none⟩)) rfl hS ?_
            refine tnb 3 (.pointer (some ⟨r, 0, none⟩)) rfl hS ?_
            refine tnb 4 (.pointer (some ⟨r, 2, none⟩)) rfl hS ?_
            refine tnd 5 (.slice ra cl rc) rfl (.inl ⟨by rfl, fun w' hw' => by have c := (HSE.out w' hw').cell HC2.out id; go_simp⟩) hS ?_
            refine wpAnyH_one (k := 1) rfl (by kernel_rfl) ?_
            go_wp2_with fail
            refine (ledUsed_any wq42 lo a b D Z c C (HST.out.keep0 (HSE.out _ hS)).led).mono ?_
            rintro e wq43 ⟨v3, rfl, ho3, hk⟩
            rw [HUS.out, HCL.out] at ho3
            obtain ⟨ha, hc_, rfl, -, -⟩ := (Rd.of_owns ho3).form
            have HU3 := Lib.hid ho3
            clear ho3
            have hS1 := HSI.out _ ((HSE.out _ hS).trans hk)
            clear hS hk
            go_wp2_with fail
            refine ⟨hS1, ?_⟩
            refine wpAnyH_one (k := 6) rfl (by kernel_rfl) ?_
            go_wp2_with fail
            refine (same_any wq43 (.slice ha cl hc_) (.slice ra cl rc) C C (by rw [HCL.out]; exact Rd.of_owns HU3.out) (by have h := (HST.out.keep0 (HSE.out _ hS1)).ref.rd; rw [HCL.out] at h ⊢; exact h) true (decide_eq_true rfl)).mono ?_
            rintro e wq44 ⟨rfl, hk⟩
            have hS2 := HSI.out _ ((HSE.out _ hS1).trans hk)
            clear hS1 hk
            go_wp2_with fail
            refine ⟨hS2, ?_⟩
            refine tna 7 (.bool true) rfl hS2 ?_
            refine tna 8 (.pointer (some ⟨a, 0, none⟩)) rfl hS2 ?_
            refine tna 10 (.pointer (some ⟨r, 0, none⟩)) rfl hS2 ?_
            refine wpAnyH_one (k := 9) rfl (by kernel_rfl) ?_
            go_wp2_with fail
            refine (ledFree_any wq44 lo a b D Z c C (HST.out.keep0 (HSE.out _ hS2)).led).mono ?_
            rintro e wq45 ⟨v1, rfl, ho1, hk⟩
            rw [freeN_len] at ho1
            obtain ⟨fa, fc, rfl, -, -⟩ := (Rd.of_owns ho1).form
            have HF1 := Lib.hid ho1
            clear ho1
            have hS3 := HSI.out _ ((HSE.out _ hS2).trans hk)
            clear hS2 hk
            go_wp2_with fail
            refine ⟨hS3, ?_⟩
            refine wpAnyH_one (k := 11) rfl (by kernel_rfl) ?_
            go_wp2_with fail
            refine (rfree_any wq45 r D Z _ C (HST.out.keep0 (HSE.out _ hS3)).ref).mono ?_
            rintro e wq46 ⟨v2, rfl, ho2, hk⟩
            rw [freeN_len] at ho2
            obtain ⟨ga, gc, rfl, -, -⟩ := (Rd.of_owns ho2).form
            have HF2 := Lib.hid ho2
            have HF1 := Lib.hid (hk.owns HF1.out fun _ _ => id)
            clear ho2
            have hS4 := HSI.out _ ((HSE.out _ hS3).trans hk)
            clear hS3 hk
            go_wp2_with fail
            refine ⟨hS4, ?_⟩
            refine wpAnyH_one (k := 12) rfl (by kernel_rfl) ?_
            go_wp2_with fail
            have hsi := sameInts_any wq46 (.slice fa D fc) (.slice ga D gc) (freeN C D Z) (freeN C D Z) (by rw [freeN_len]; exact Rd.of_owns HF1.out) (by rw [freeN_len]; exact Rd.of_owns HF2.out)
            rw [decide_eq_true rfl] at hsi
            refine hsi.mono ?_
            rintro e wq47 ⟨rfl, hk⟩
            clear hsi
            have hS5 := HSI.out _ ((HSE.out _ hS4).trans hk)
            clear hS4 hk
            go_wp2_with fail
            refine ⟨hS5, ?_⟩
            refine tna 13 (.bool true) rfl hS5 ?_
            refine tna 14 (.bool true) rfl hS5 ?_
            refine wpAnyH_one (k := 15) rfl (by kernel_rfl) ?_
            go_wp2_with fail
            refine (CW.out wq47).mono ?_
            rintro e wq48 ⟨rfl, hk⟩
            have hS6 := HSI.out _ ((HSE.out _ hS5).trans hk)
            clear hS5 hk
            go_wp2_with fail
            refine ⟨hS6, ?_⟩
            refine tna 16 (.bool true) rfl hS6 ?_
            refine tna 17 (.bool true) rfl hS6 ?_
            refine wpAnyH_done (by kernel_rfl) ?_ _
            have HKR := Lib.hid (HSE.out _ hS6)
            clear hS6 HSE HSI
            have HST := Lib.hid (HST.out.keep0 HKR.out)
            go_wp2_with fail
            go_ret
            exact ⟨rfl, HST.out.keep⟩
      · go_wp2_with fail
        refine (CW.out _).mono ?_
        rintro e wq42 ⟨rfl, hk⟩
        have HK := Lib.hid (HK.out.trans hk)
        clear hk
        go_wp2_with fail
        go_ret
        exact ⟨rfl, HK.out⟩
end Go.Proofs.Ytfjklgbakhjjiaa
