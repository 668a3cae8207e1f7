/-
  without; UsageParts: what is freed, and what the others have, are all, and apart.
  Conditions: none but those of the given statement.
-/
import Derived.Test.YtmilgaoilglmjaaKnownU
import Derived.Test.YtmilgaoilglmjaaLawU
import Derived.Test.YtmilgaoilglmjaaPlainU
namespace Go.Proofs.Ytmilgaoilglmjaa
open Go.RowKit Go.Maps Go.ChangeMaps
set_option maxRecDepth 100000
set_option linter.unusedVariables false

theorem infoLS : (Try.prog.info? 30).map (fun i => (i.zero, i.size, i.bytes)) = some (some (.slice none 0 0), 1, 24) := by kernel_rfl
theorem ownRow_none (w : World) (e size : Nat) : w.ownsRow w.heap.size e size (.slice none 0 0) 0 [] := World.ownsRow_nil _ _ _ _
def WoPost (w : World) (R : List (List Ad)) (e : Ending) (w' : World) : Prop := ∃ v, e = .returned v ∧ Rows2 w' v R ∧ Keep noBlk w w'
/-- A row of slices, each reads its list. -/
def Tells (w : World) (vs : List Value) (R : List (List Ad)) : Prop := vs.length = R.length ∧ ∀ (j : Nat) (L : List Ad), R[j]? = some L → ∃ u, vs[j]? = some u ∧ Rd w 2 u L.length (adCells L)
theorem Tells.snoc {w : World} {vs : List Value} {R : List (List Ad)} (h : Tells w vs R) {u : Value} {L : List Ad} (hu : Rd w 2 u L.length (adCells L)) : Tells w (vs ++ [u]) (R ++ [L]) := by
  refine ⟨by rw [List.length_append, List.length_append, h.1]; rfl, fun j M hj => ?_⟩
  rcases Nat.lt_or_ge j R.length with hl | hl
  · rw [List.getElem?_append_left hl] at hj
    obtain ⟨u', h1, h2⟩ := h.2 j M hj
    exact ⟨u', by rw [List.getElem?_append_left (by rw [h.1]; exact hl)]; exact h1, h2⟩
  · rw [List.getElem?_append_right hl] at hj
    obtain ⟨rfl, hjz⟩ : M = L ∧ j - R.length = 0 := by
      have h1 := (List.getElem?_eq_some_iff.1 hj).1
      have h0 : j - R.length = 0 := by simp at h1; omega
      rw [h0] at hj
      exact ⟨(Option.some.inj hj).symm, h0⟩
    refine ⟨u, ?_, hu⟩
    rw [List.getElem?_append_right (by rw [h.1]; exact hl), h.1, hjz]
    rfl
theorem Tells.rows {w w' : World} {vs : List Value} {R : List (List Ad)} (h : Tells w vs R) (hk : Keep noBlk w w') {v : Value} {n : Nat} (hn : R.length = n) (hv : Rd w' 1 v n vs) : Rows2 w' v R := ⟨vs, by rw [hn]; exact hv, fun i L hi => by
  obtain ⟨u, h1, h2⟩ := h.2 i L hi
  exact ⟨u, h1, h2.keep hk fun _ _ => id⟩⟩
theorem oneCell_sl {u : Value} {w : World} {size n : Nat} {xs : List Value} (h : Rd w size u n xs) : u.oneCell' = true := by
  obtain ⟨a, c, rfl, -, -⟩ := h.form
  rfl

set_option maxHeartbeats 16000000 in
theorem without_any (w : World) (v : Value) (hs : List (List Ad)) (vd : Value) (dr : List Int) (hr : Rows2 w v hs) (h20 : hs.length ≤ 20) (hrd : Rd w 1 vd dr.length (dr.map fun x => .int .i64 x)) (h40 : dr.length ≤ 40) :
    Calls Try.prog 32 #[v, vd] w (WoPost w (woL hs dr hs.length)) := by
  obtain ⟨oa, ca, rfl, hlm⟩ := hr.form
  obtain ⟨da, dc, rfl, -, -⟩ := hrd.form
  obtain ⟨n, hn⟩ : ∃ n, hs.length = n := ⟨_, rfl⟩
  obtain ⟨dn, hdn⟩ : ∃ n, dr.length = n := ⟨_, rfl⟩
  have HN := Lib.hid hn; have HR := Lib.hid hr; have HND := Lib.hid hdn; have HRD := Lib.hid hrd
  rw [hn] at HR h20 ⊢
  rw [hdn] at HRD h40 ⊢
  clear hr hrd hdn hn hlm
  go_enter Try.func32, Try.ntmps32
  go_wp2_with fail
  go_loopw [5, 6, 7, 8] (fun t i _ _ wr => ∃ (k : Nat) (pa : Option Addr) (pc : Nat) (vs : List Value), k ≤ n ∧ t = .slice pa k pc ∧ i = .int .i64 k ∧ Hid (wr.ownsRow w.heap.size 30 1 (.slice pa k pc) k vs) ∧ Hid (Tells w vs (woL hs dr k)) ∧ Hid (Keep noBlk w wr)) (fun _ i _ _ _ => n - (intOf i).toNat)
  case atStart => exact ⟨0, none, 0, [], Nat.zero_le _, rfl, rfl, Lib.hid (ownRow_none _ _ _), Lib.hid ⟨rfl, fun j L h => by cases h⟩, Lib.hid (Keep.refl _ _)⟩
  case round =>
  obtain ⟨k, pa, pc, vs, hk, rfl, rfl, HO, HT, HK⟩ := hrel
  by_cases hlt : k < n
  · have hki : (k : Int) < (n : Int) := by omega
    have hk0 : (0 : Int) ≤ (k : Int) := by omega
    obtain ⟨wo, hwo⟩ : ∃ wo, wr = wo := ⟨_, rfl⟩
    rw [hwo] at HO HK ⊢
    clear hwo
    go_wp2_with fail
    go_loopw [7, 8] (fun b i wr => ∃ (d : Nat) (gb : Bool), d ≤ dn ∧ b = .bool gb ∧ i = .int .i64 d ∧ Hid (gb = decide ((k : Int) ∈ dr.take d)) ∧ wo = wr) (fun _ i _ => dn - (intOf i).toNat)
    case atStart => exact ⟨0, false, Nat.zero_le _, rfl, rfl, Lib.hid (by simp), rfl⟩
    case round =>
    obtain ⟨d, gb, hd, rfl, rfl, HG, rfl⟩ := hrel
    by_cases hld : d < dn
    · have hdi : (d : Int) < (dn : Int) := by omega
      have hd0 : (0 : Int) ≤ (d : Int) := by omega
      obtain ⟨s0, hs0⟩ : ∃ x, dr[d]? = some x := ⟨dr[d]'(by rw [HND.out]; exact hld), List.getElem?_eq_getElem _⟩
      have hr2 := HRD.out.keep HK.out fun _ _ => id
      rw [← HND.out] at hr2
      obtain ⟨pd, od, capd, hvd, hcd⟩ := rd_int hr2 hs0
      rw [HND.out] at hvd
      have e1 : da = some ⟨pd, od, none⟩ := by cases hvd; rfl
      subst e1
      have HTK : Hid (dr.take (d + 1) = dr.take d ++ [s0]) := Lib.hid (by rw [List.take_add_one, hs0]; rfl)
      clear hr2 hvd hs0
      cases gb
      · by_cases he : s0 = (k : Int)
        · subst he
          have HG2 : Hid (true = decide ((k : Int) ∈ dr.take (d + 1))) := Lib.hid (decide_eq_true (by rw [HTK.out]; exact List.mem_append_right _ (List.mem_singleton.2 rfl))).symm
          go_wp2_with fail
          go_roundw
          case rel => exact ⟨d + 1, true, by omega, rfl, by go_num, HG2, trivial⟩
          case measure => simp [intOf]; omega
        · have HG2 : Hid (false = decide ((k : Int) ∈ dr.take (d + 1))) := Lib.hid (decide_eq_false (by rw [HTK.out, List.mem_append, List.mem_singleton]; rintro (h | h); exact of_decide_eq_false HG.out.symm h; exact he h.symm)).symm
          have hbq : (s0 == (k : Int)) = false := beq_false_of_ne he
          go_wp2_with fail
          go_roundw
          case rel => exact ⟨d + 1, false, by omega, rfl, by go_num, HG2, trivial⟩
          case measure => simp [intOf]; omega
      · have HG2 : Hid (true = decide ((k : Int) ∈ dr.take (d + 1))) := Lib.hid (decide_eq_true (by rw [HTK.out]; exact List.mem_append_left _ (of_decide_eq_true HG.out.symm))).symm
        go_wp2_with fail
        go_roundw
        case rel => exact ⟨d + 1, true, by omega, rfl, by go_num, HG2, trivial⟩
        case measure => simp [intOf]; omega
    · obtain rfl : d = dn := by omega
      have hg := HG.out
      rw [List.take_of_length_le (by rw [HND.out]; exact Nat.le_refl _)] at hg
      have HG := Lib.hid hg
      clear hg
      cases gb
      · obtain ⟨L, hL⟩ : ∃ L, hs[k]? = some L := ⟨hs[k]'(by rw [HN.out]; exact hlt), List.getElem?_eq_getElem _⟩
        have hrl := HR.out.at hL
        rw [HN.out] at hrl
        obtain ⟨gl, ol, capl, al, cl, hvl, hcl, hrdl⟩ := hrl
        have e1 : oa = some ⟨gl, ol, none⟩ := by cases hvl; rfl
        subst e1
        have HRL := Lib.hid hrdl
        obtain ⟨q, hq⟩ : ∃ q, L.length = q := ⟨_, rfl⟩
        have HQ := Lib.hid hq
        rw [hq] at hcl
        have hcl := HK.out.cell hcl id
        have hne : (if (k : Int) ∈ dr then [] else hs.getD k []) = L := by rw [if_neg (of_decide_eq_false HG.out.symm), getD_at hL]
        have HNE := Lib.hid hne
        clear hvl hrdl hq hL hne
        obtain ⟨w8, hw8, hk8, hb8, hs8⟩ := alloc_facts wo #[(Value.slice al q cl)] 30
        have HR8 : Hid (Rd w8 1 (.slice (some ⟨wo.heap.size, 0, none⟩) 1 1) 1 [(Value.slice al q cl)]) := Lib.hid (rd_blk (n := 1) (size := 1) (vs := [(Value.slice al q cl)]) hb8 rfl (by unfold maxLen; omega))
        have HO8 := Lib.hid (hk8.owns HO.out fun _ _ => id); have HK8 := Lib.hid (HK.out.trans hk8)
        have hsz8 : w.heap.size ≤ w8.heap.size := HK8.out.size
        have HT8 : Hid (Tells w (vs ++ [(Value.slice al q cl)]) (woL hs dr (k + 1))) := Lib.hid (by rw [woL_succ, HNE.out]; exact HT.out.snoc (by have h := HRL.out; rw [HQ.out] at h ⊢; exact h))
        have hone : ∀ u ∈ [(Value.slice al q cl)], u.oneCell' = true := by simp [Value.oneCell']
        clear hk8 hb8 hs8
        go_wp2_with (first
          | (at_builtin; try rw [hw8]
             refine wpList_append_rd rfl (.tmp 34) (.tmp 39) 22 rfl w.heap.size 30 (.slice none 0 0) 1 24 Try.underlying22 infoLS rfl (by decide) (.slice pa k pc) k vs rfl HO8.out (.slice (some ⟨wo.heap.size, 0, none⟩) 1 1) 1 [(Value.slice al q cl)] rfl HR8.out hone (by unfold maxLen; omega) (by omega) hsz8 ?_
             intro v' w5 ho5 hk5 hn5 hb5
             obtain ⟨va, vc, rfl, -, -⟩ := (Rd.of_owns ho5).form
             have HO5 := Lib.hid ho5
             have HK5 := Lib.hid (HK8.out.trans' hk5 (U := noBlk) (fun _ _ h => h) (fun i hi e => by have := owns_base HO8.out e; omega))
             clear ho5 hk5 hn5 hb5 hw8))
        go_roundw
        case rel => exact ⟨k + 1, va, vc, _, by omega, rfl, by go_num, HO5, HT8, HK5⟩
        case measure => simp [intOf]; omega
      · have hne : (if (k : Int) ∈ dr then [] else hs.getD k []) = [] := by rw [if_pos (of_decide_eq_true HG.out.symm)]
        have HNE := Lib.hid hne
        clear hne
        obtain ⟨w8, hw8, hk8, hb8, hs8⟩ := alloc_facts wo #[(Value.slice none 0 0)] 30
        have HR8 : Hid (Rd w8 1 (.slice (some ⟨wo.heap.size, 0, none⟩) 1 1) 1 [(Value.slice none 0 0)]) := Lib.hid (rd_blk (n := 1) (size := 1) (vs := [(Value.slice none 0 0)]) hb8 rfl (by unfold maxLen; omega))
        have HO8 := Lib.hid (hk8.owns HO.out fun _ _ => id); have HK8 := Lib.hid (HK.out.trans hk8)
        have hsz8 : w.heap.size ≤ w8.heap.size := HK8.out.size
        have HT8 : Hid (Tells w (vs ++ [(Value.slice none 0 0)]) (woL hs dr (k + 1))) := Lib.hid (by rw [woL_succ, HNE.out]; exact HT.out.snoc (Rd.nil _ _))
        have hone : ∀ u ∈ [(Value.slice none 0 0)], u.oneCell' = true := by simp [Value.oneCell']
        clear hk8 hb8 hs8
        go_wp2_with (first
          | (at_builtin; try rw [hw8]
             refine wpList_append_rd rfl (.tmp 31) (.tmp 32) 22 rfl w.heap.size 30 (.slice none 0 0) 1 24 Try.underlying22 infoLS rfl (by decide) (.slice pa k pc) k vs rfl HO8.out (.slice (some ⟨wo.heap.size, 0, none⟩) 1 1) 1 [(Value.slice none 0 0)] rfl HR8.out hone (by unfold maxLen; omega) (by omega) hsz8 ?_
             intro v' w5 ho5 hk5 hn5 hb5
             obtain ⟨va, vc, rfl, -, -⟩ := (Rd.of_owns ho5).form
             have HO5 := Lib.hid ho5
             have HK5 := Lib.hid (HK8.out.trans' hk5 (U := noBlk) (fun _ _ h => h) (fun i hi e => by have := owns_base HO8.out e; omega))
             clear ho5 hk5 hn5 hb5 hw8))
        go_roundw
        case rel => exact ⟨k + 1, va, vc, _, by omega, rfl, by go_num, HO5, HT8, HK5⟩
        case measure => simp [intOf]; omega
  · obtain rfl : k = n := by omega
    have hw : WoPost w (woL hs dr k) (.returned (.slice pa k pc)) wr := ⟨_, rfl, HT.out.rows HK.out (woL_len _ _ _) (Rd.of_owns HO.out), HK.out⟩
    have HW := Lib.hid hw
    clear hw
    go_wp2_with fail
    go_ret
    exact HW.out

set_option maxHeartbeats 16000000 in
theorem usageParts_walk (w : World) (v : Value) (hs : List (List Ad)) (ho : ∀ L ∈ hs, AdsOk L) (hr : Rows2 w v hs) (vd : Value) (dr : List Int) (hI : ∀ x ∈ dr, In64 x) (hrd : Rd w 1 vd dr.length (dr.map fun x => .int .i64 x)) (vm : Value) (mo : List Int) (hIm : ∀ x ∈ mo, In64 x) (hrm : Rd w 1 vm mo.length (mo.map fun x => .int .i64 x)) :
    Calls Try.prog 6 #[v, vd, vm] w (TherePost w true) := by
  have CW := Lib.hid (fun w => (usageKnown_walk w).mono fun e w' (h : TherePost w true e w') => (show e = .returned (.bool true) ∧ Keep noBlk w w' from h))
  obtain ⟨oa, ca, rfl, hlm⟩ := hr.form
  obtain ⟨da, dc, rfl, -, -⟩ := hrd.form
  obtain ⟨n, hn⟩ : ∃ n, hs.length = n := ⟨_, rfl⟩
  obtain ⟨dn, hdn⟩ : ∃ n, dr.length = n := ⟨_, rfl⟩
  have HN := Lib.hid hn; have HR := Lib.hid hr; have HND := Lib.hid hdn; have HRD := Lib.hid hrd; have HI := Lib.hid hI
  have CL := Lib.hid (longU_any w _ _ hs dr hr hrd)
  have HOK := Lib.hid ho
  obtain ⟨bb, hbb⟩ : ∃ b, longB hs dr = b := ⟨_, rfl⟩
  have HBB := Lib.hid hbb
  rw [hn, hdn, hbb] at CL
  rw [hn] at HR ⊢
  rw [hdn] at HRD ⊢
  clear hr hrd hdn hn hbb hlm ho hI
  obtain ⟨ma, mc, rfl, -, -⟩ := hrm.form
  obtain ⟨mn, hmn⟩ : ∃ n, mo.length = n := ⟨_, rfl⟩
  have hml : mo.length ≤ maxLen := by obtain ⟨_, a', c', h1, h2, h3, -⟩ := hrm; omega
  unfold maxLen at hml
  have HNM := Lib.hid hmn; have HRM := Lib.hid hrm; have HIM := Lib.hid hIm
  rw [hmn] at HRM hml ⊢
  clear hrm hmn hIm
  have HK := Lib.hid (Keep.refl noBlk w)
  go_enter Try.func6, Try.ntmps6
  go_wp2_with fail
  refine (CW.out _).mono ?_
  rintro e wq41 ⟨rfl, hk⟩
  have HK := Lib.hid (HK.out.trans hk)
  have HR := Lib.hid (HR.out.keep hk)
  have HRD := Lib.hid (HRD.out.keep hk fun _ _ => id)
  have HRM := Lib.hid (HRM.out.keep hk fun _ _ => id)
  clear hk
  go_wp2_with fail
  have CL := longU_any wq41 (.slice oa n ca) (.slice da dn dc) hs dr HR.out (by rw [HND.out]; exact HRD.out)
  rw [HBB.out] at CL
  have CL := Lib.hid CL
  refine (CL.out).mono ?_
  rintro e wq42 ⟨rfl, hk⟩
  have HK := Lib.hid (HK.out.trans hk)
  have HR := Lib.hid (HR.out.keep hk)
  have HRD := Lib.hid (HRD.out.keep hk fun _ _ => id)
  have HRM := Lib.hid (HRM.out.keep hk fun _ _ => id)
  clear hk
  clear CL
  cases bb
  · have hlim := longB_false HBB.out
    have h20 := hlim.1
    have HF : Hid (hs.flatten.length ≤ 2000) := Lib.hid (by have := flat100 hlim.2.1; omega)
    have H100 := Lib.hid hlim.2.1
    have H40 : Hid (dr.length ≤ 40) := Lib.hid hlim.2.2
    have h64 : hs.length ≤ 64 := by omega
    have H64 := Lib.hid h64
    have H20 := Lib.hid h20
    rw [HN.out] at h20
    clear h64 hlim
    by_cases hm40 : 40 < mn
    · have hmi : (40 : Int) < (mn : Int) := by omega
      go_wp2_with fail
      go_ret
      exact ⟨rfl, HK.out⟩
    · have hmi : ¬ (40 : Int) < (mn : Int) := by omega
      have HPT := Lib.hid (parts_u H64.out dr mo)
      have HWL : Hid ((woL hs dr hs.length).length ≤ 20) := Lib.hid (by rw [woL_len]; exact H20.out)
      have HWF : Hid ((woL hs dr hs.length).flatten.length ≤ 2000) := Lib.hid (by have := flat100 (woL_flen H100.out dr); have := HWL.out; omega)
      have HWO := Lib.hid (woL_ok HOK.out dr)
      obtain ⟨R, hR⟩ : ∃ R, woL hs dr hs.length = R := ⟨_, rfl⟩
      have HWE := Lib.hid hR
      rw [hR] at HWL HWF HWO
      have HP1 := Lib.hid HPT.out.p1; have HP2 := Lib.hid HPT.out.p2; have HP3 := Lib.hid HPT.out.p3; have HP4 := Lib.hid HPT.out.p4
      rw [hR] at HP1 HP2 HP3 HP4
      clear HPT hR
      have HNZ : Hid (([] : List Ad).length = 0) := Lib.hid rfl
      go_wp2_with fail
      refine (told_u (freed_any _ _ _ hs dr HOK.out HR.out H20.out (by have := HF.out; omega) (by rw [HND.out]; exact HRD.out) HI.out) (show _ = frL hs dr from rfl)).mono ?_
      rintro e wq43 ⟨v, rfl, ho2, hk2⟩
      have HK := Lib.hid (HK.out.trans hk2)
      have HR := Lib.hid (HR.out.keep hk2)
      have HRD := Lib.hid (HRD.out.keep hk2 fun _ _ => id)
      have HRM := Lib.hid (HRM.out.keep hk2 fun _ _ => id)
      obtain ⟨A, hA⟩ : ∃ l : List Ad, frL hs dr = l := ⟨_, rfl⟩
      have HEA := Lib.hid hA
      have HAA : Hid (AdsOk A) := Lib.hid (by rw [← hA]; exact frL_ok HOK.out dr)
      rw [hA] at ho2
      clear hA
      obtain ⟨nA, hnA⟩ : ∃ k, A.length = k := ⟨_, rfl⟩
      have HNA := Lib.hid hnA
      rw [hnA] at ho2
      obtain ⟨aA, cA, hvA, -, -⟩ := (Rd.of_owns ho2).form
      subst hvA
      have HRA := Lib.hid (Rd.of_owns ho2)
      clear ho2 hk2 hnA
      go_wp2_with fail
      have hnA : nA ≤ 2000 := by rw [← HNA.out, ← HEA.out]; exact Nat.le_trans (frL_len _ _) HF.out
      refine (without_any _ _ hs _ dr HR.out H20.out (by rw [HND.out]; exact HRD.out) H40.out).mono ?_
      rintro e wq44 ⟨v, rfl, hrw, hk⟩
      rw [HWE.out] at hrw
      obtain ⟨wa, wc, hv2, -⟩ := hrw.form
      subst hv2
      obtain ⟨rn, hrn⟩ : ∃ n, R.length = n := ⟨_, rfl⟩
      rw [hrn] at hrw ⊢
      have HRW := Lib.hid hrw
      clear hrn hrw
      have HK := Lib.hid (HK.out.trans hk)
      have HR := Lib.hid (HR.out.keep hk)
      have HRD := Lib.hid (HRD.out.keep hk fun _ _ => id)
      have HRM := Lib.hid (HRM.out.keep hk fun _ _ => id)
      have HRA := Lib.hid (HRA.out.keep hk fun _ _ => id)
      clear hk
      go_wp2_with fail
      refine (all_any _ _ R HWO.out HRW.out HWL.out (by have := HWF.out; omega)).mono ?_
      rintro e wq45 ⟨v, rfl, ho2, hk2⟩
      have HK := Lib.hid (HK.out.trans hk2)
      have HR := Lib.hid (HR.out.keep hk2)
      have HRD := Lib.hid (HRD.out.keep hk2 fun _ _ => id)
      have HRM := Lib.hid (HRM.out.keep hk2 fun _ _ => id)
      have HRA := Lib.hid (HRA.out.keep hk2 fun _ _ => id)
      have HRW := Lib.hid (HRW.out.keep hk2)
      obtain ⟨B, hB⟩ : ∃ l : List Ad, canon R.flatten = l := ⟨_, rfl⟩
      have HEB := Lib.hid hB
      have HAB : Hid (AdsOk B) := Lib.hid (by rw [← hB]; exact all_ok HWO.out)
      rw [hB] at ho2
      clear hB
      obtain ⟨nB, hnB⟩ : ∃ k, B.length = k := ⟨_, rfl⟩
      have HNB := Lib.hid hnB
      rw [hnB] at ho2
      obtain ⟨aB, cB, hvB, -, -⟩ := (Rd.of_owns ho2).form
      subst hvB
      have HRB := Lib.hid (Rd.of_owns ho2)
      clear ho2 hk2 hnB
      go_wp2_with fail
      refine (all_any _ _ hs HOK.out HR.out H20.out (by have := HF.out; omega)).mono ?_
      rintro e wq46 ⟨v, rfl, ho2, hk2⟩
      have HK := Lib.hid (HK.out.trans hk2)
      have HR := Lib.hid (HR.out.keep hk2)
      have HRD := Lib.hid (HRD.out.keep hk2 fun _ _ => id)
      have HRM := Lib.hid (HRM.out.keep hk2 fun _ _ => id)
      have HRA := Lib.hid (HRA.out.keep hk2 fun _ _ => id)
      have HRW := Lib.hid (HRW.out.keep hk2)
      have HRB := Lib.hid (HRB.out.keep hk2 fun _ _ => id)
      obtain ⟨C, hC⟩ : ∃ l : List Ad, canon hs.flatten = l := ⟨_, rfl⟩
      have HEC := Lib.hid hC
      have HAC : Hid (AdsOk C) := Lib.hid (by rw [← hC]; exact all_ok HOK.out)
      rw [hC] at ho2
      clear hC
      obtain ⟨nC, hnC⟩ : ∃ k, C.length = k := ⟨_, rfl⟩
      have HNC := Lib.hid hnC
      rw [hnC] at ho2
      obtain ⟨aC, cC, hvC, -, -⟩ := (Rd.of_owns ho2).form
      subst hvC
      have HRC := Lib.hid (Rd.of_owns ho2)
      clear ho2 hk2 hnC
      go_wp2_with fail
      have hnB : nB ≤ 2000 := by rw [← HNB.out, ← HEB.out]; exact Nat.le_trans (canon_len _) HWF.out
      have hp1 := HP1.out
      have hp2 := HP2.out
      rw [HEA.out, HEB.out] at hp1 hp2
      rw [HEC.out] at hp2
      have HQ1 := Lib.hid hp1; have HQ2 := Lib.hid hp2
      clear hp1 hp2
      refine (told_of (both_any _ _ _ A B HAA.out HAB.out (by rw [HNA.out]; exact HRA.out) (by rw [HNB.out]; exact HRB.out) (by rw [HNA.out]; omega)) (HQ1.out)).mono ?_
      rintro e wq47 ⟨v, rfl, ho2, hk2⟩
      have HK := Lib.hid (HK.out.trans hk2)
      have HR := Lib.hid (HR.out.keep hk2)
      have HRD := Lib.hid (HRD.out.keep hk2 fun _ _ => id)
      have HRM := Lib.hid (HRM.out.keep hk2 fun _ _ => id)
      have HRA := Lib.hid (HRA.out.keep hk2 fun _ _ => id)
      have HRW := Lib.hid (HRW.out.keep hk2)
      have HRB := Lib.hid (HRB.out.keep hk2 fun _ _ => id)
      have HRC := Lib.hid (HRC.out.keep hk2 fun _ _ => id)
      rw [HNZ.out] at ho2
      obtain ⟨aZ1, cZ1, hvZ1, -, -⟩ := (Rd.of_owns ho2).form
      subst hvZ1
      have HRZ1 := Lib.hid (Rd.of_owns ho2)
      clear ho2 hk2
      go_wp2_with fail
      refine (told_of (union_any _ _ _ A B HAA.out HAB.out (by rw [HNA.out]; exact HRA.out) (by rw [HNB.out]; exact HRB.out) (by rw [HNA.out, HNB.out]; omega)) (HQ2.out)).mono ?_
      rintro e wq48 ⟨v, rfl, ho2, hk2⟩
      have HK := Lib.hid (HK.out.trans hk2)
      have HR := Lib.hid (HR.out.keep hk2)
      have HRD := Lib.hid (HRD.out.keep hk2 fun _ _ => id)
      have HRM := Lib.hid (HRM.out.keep hk2 fun _ _ => id)
      have HRA := Lib.hid (HRA.out.keep hk2 fun _ _ => id)
      have HRW := Lib.hid (HRW.out.keep hk2)
      have HRB := Lib.hid (HRB.out.keep hk2 fun _ _ => id)
      have HRC := Lib.hid (HRC.out.keep hk2 fun _ _ => id)
      rw [HNC.out] at ho2
      obtain ⟨aC2, cC2, hvC2, -, -⟩ := (Rd.of_owns ho2).form
      subst hvC2
      have HRC2 := Lib.hid (Rd.of_owns ho2)
      clear ho2 hk2
      go_wp2_with fail
      refine (same_any _ _ _ C C (by rw [HNC.out]; exact HRC2.out) (by rw [HNC.out]; exact HRC.out) true (decide_eq_true rfl)).mono ?_
      rintro e wq49 ⟨rfl, hk⟩
      have HK := Lib.hid (HK.out.trans hk)
      have HR := Lib.hid (HR.out.keep hk)
      have HRD := Lib.hid (HRD.out.keep hk fun _ _ => id)
      have HRM := Lib.hid (HRM.out.keep hk fun _ _ => id)
      have HRA := Lib.hid (HRA.out.keep hk fun _ _ => id)
      have HRW := Lib.hid (HRW.out.keep hk)
      have HRB := Lib.hid (HRB.out.keep hk fun _ _ => id)
      have HRC := Lib.hid (HRC.out.keep hk fun _ _ => id)
      have HRC2 := Lib.hid (HRC2.out.keep hk fun _ _ => id)
      clear hk
      go_wp2_with fail
      refine (told_u (freed_any _ _ _ R mo HWO.out HRW.out HWL.out (by have := HWF.out; omega) (by rw [HNM.out]; exact HRM.out) HIM.out) (show _ = frL R mo from rfl)).mono ?_
      rintro e wq50 ⟨v, rfl, ho2, hk2⟩
      have HK := Lib.hid (HK.out.trans hk2)
      have HR := Lib.hid (HR.out.keep hk2)
      have HRD := Lib.hid (HRD.out.keep hk2 fun _ _ => id)
      have HRM := Lib.hid (HRM.out.keep hk2 fun _ _ => id)
      have HRA := Lib.hid (HRA.out.keep hk2 fun _ _ => id)
      have HRW := Lib.hid (HRW.out.keep hk2)
      have HRB := Lib.hid (HRB.out.keep hk2 fun _ _ => id)
      have HRC := Lib.hid (HRC.out.keep hk2 fun _ _ => id)
      have HRC2 := Lib.hid (HRC2.out.keep hk2 fun _ _ => id)
      obtain ⟨Q, hQ⟩ : ∃ l : List Ad, frL R mo = l := ⟨_, rfl⟩
      have HEQ := Lib.hid hQ
      have HAQ : Hid (AdsOk Q) := Lib.hid (by rw [← hQ]; exact frL_ok HWO.out mo)
      rw [hQ] at ho2
      clear hQ
      obtain ⟨nQ, hnQ⟩ : ∃ k, Q.length = k := ⟨_, rfl⟩
      have HNQ := Lib.hid hnQ
      rw [hnQ] at ho2
      obtain ⟨aQ, cQ, hvQ, -, -⟩ := (Rd.of_owns ho2).form
      subst hvQ
      have HRQ := Lib.hid (Rd.of_owns ho2)
      clear ho2 hk2 hnQ
      have hnQ : nQ ≤ 2000 := by rw [← HNQ.out, ← HEQ.out]; exact Nat.le_trans (frL_len _ _) HWF.out
      obtain ⟨w8, hw8, hk8, hb8, hs8⟩ := alloc_facts wq50 #[] 3
      have HO0 : Hid (w8.ownsRow wq50.heap.size 3 1 (.slice (some ⟨wq50.heap.size, 0, none⟩) 0 0) 0 []) := Lib.hid (by rw [← hw8]; exact World.ownsRow_made wq50 #[] 0 (Nat.le_refl _) (by unfold maxLen; omega) rfl)
      have HRD8 := Lib.hid (HRD.out.keep hk8 fun _ _ => id); have HRM8 := Lib.hid (HRM.out.keep hk8 fun _ _ => id)
      have HK8 := Lib.hid hk8
      have hs8' : wq50.heap.size < w8.heap.size := by omega
      have hone : ∀ l : List Int, ∀ u ∈ l.map (fun x => Value.int .i64 x), u.oneCell' = true := fun l u hu => by obtain ⟨x, -, rfl⟩ := List.mem_map.1 hu; rfl
      have hdn40 : dn ≤ 40 := by rw [← HND.out]; exact H40.out
      clear hk8 hb8 hs8
      go_wp2_with (first
        | (at_builtin; try rw [hw8]
           refine wpList_append_rd rfl (.tmp 51) (.tmp 52) 23 rfl wq50.heap.size 3 (.int .i64 0) 1 8 Try.underlying23 infoI64 rfl (by decide) (.slice (some ⟨wq50.heap.size, 0, none⟩) 0 0) (0) ([]) rfl HO0.out (.slice da dn dc) (dn) (dr.map fun x => Value.int .i64 x) rfl HRD8.out (hone _) (by unfold maxLen; omega) (by omega) (by omega) ?_
           intro v' wf ho5 hk5 hn5 hb5
           obtain ⟨vwf, cwf, rfl, -, -⟩ := (Rd.of_owns ho5).form
           have HOwf := Lib.hid ho5; have HKwf := Lib.hid hk5
           have hzwf := hk5.size
           rw [Nat.zero_add, List.nil_append] at HOwf
           clear ho5 hk5 hn5 hb5)
        | (at_builtin; try rw [hw8]
           refine wpList_append_rd rfl (.tmp 53) (.tmp 54) 23 rfl wq50.heap.size 3 (.int .i64 0) 1 8 Try.underlying23 infoI64 rfl (by decide) (.slice vwf dn cwf) (dn) (dr.map fun x => Value.int .i64 x) rfl HOwf.out (.slice ma mn mc) (mn) (mo.map fun x => Value.int .i64 x) rfl (HRM.out.keep (HK8.out.trans' HKwf.out (U := noBlk) (fun _ _ h => h) (fun i hi e => by have e' : wq50.heap.size = i := Option.some.inj e; omega)) fun _ _ => id) (hone _) (by unfold maxLen; omega) (by omega) (by omega) ?_
           intro v' wg ho5 hk5 hn5 hb5
           obtain ⟨vwg, cwg, rfl, -, -⟩ := (Rd.of_owns ho5).form
           have HOwg := Lib.hid ho5; have HKwg := Lib.hid hk5
           have hzwg := hk5.size
           rw [← List.map_append] at HOwg
           clear ho5 hk5 hn5 hb5))
      have HKG := Lib.hid (((HK8.out.trans' HKwf.out (U := noBlk) (fun _ _ h => h) (fun i hi e => by have e' : wq50.heap.size = i := Option.some.inj e; omega)).trans' HKwg.out (U := noBlk) (fun _ _ h => h) (fun i hi e => by have := owns_base HOwf.out e; omega)))
      have HRG : Hid (Rd wg 1 (.slice vwg (dn + mn) cwg) (dr ++ mo).length ((dr ++ mo).map fun x => Value.int .i64 x)) := Lib.hid (by rw [List.length_append, HND.out, HNM.out]; exact Rd.of_owns HOwg.out)
      have HIG : Hid (∀ x ∈ dr ++ mo, In64 x) := Lib.hid (fun x hx => (List.mem_append.1 hx).elim (HI.out x) (HIM.out x))
      have HK := Lib.hid (HK.out.trans HKG.out)
      have HR := Lib.hid (HR.out.keep HKG.out)
      have HRA := Lib.hid (HRA.out.keep HKG.out fun _ _ => id)
      have HRW := Lib.hid (HRW.out.keep HKG.out)
      have HRB := Lib.hid (HRB.out.keep HKG.out fun _ _ => id)
      have HRC := Lib.hid (HRC.out.keep HKG.out fun _ _ => id)
      have HRC2 := Lib.hid (HRC2.out.keep HKG.out fun _ _ => id)
      have HRQ := Lib.hid (HRQ.out.keep HKG.out fun _ _ => id)
      clear HKG HK8 HKwf HKwg HOwf HOwg HO0
      refine (told_u (freed_any _ _ _ hs (dr ++ mo) HOK.out HR.out H20.out (by have := HF.out; omega) HRG.out HIG.out) (show _ = frL hs (dr ++ mo) from rfl)).mono ?_
      rintro e wq51 ⟨v, rfl, ho2, hk2⟩
      have HK := Lib.hid (HK.out.trans hk2)
      have HR := Lib.hid (HR.out.keep hk2)
      have HRA := Lib.hid (HRA.out.keep hk2 fun _ _ => id)
      have HRW := Lib.hid (HRW.out.keep hk2)
      have HRB := Lib.hid (HRB.out.keep hk2 fun _ _ => id)
      have HRC := Lib.hid (HRC.out.keep hk2 fun _ _ => id)
      have HRC2 := Lib.hid (HRC2.out.keep hk2 fun _ _ => id)
      have HRQ := Lib.hid (HRQ.out.keep hk2 fun _ _ => id)
      obtain ⟨E, hE⟩ : ∃ l : List Ad, frL hs (dr ++ mo) = l := ⟨_, rfl⟩
      have HEE := Lib.hid hE
      have HAE : Hid (AdsOk E) := Lib.hid (by rw [← hE]; exact frL_ok HOK.out _)
      rw [hE] at ho2
      clear hE
      obtain ⟨nE, hnE⟩ : ∃ k, E.length = k := ⟨_, rfl⟩
      have HNE := Lib.hid hnE
      rw [hnE] at ho2
      obtain ⟨aE, cE, hvE, -, -⟩ := (Rd.of_owns ho2).form
      subst hvE
      have HRE := Lib.hid (Rd.of_owns ho2)
      clear ho2 hk2 hnE
      go_wp2_with fail
      have hp1 := HP3.out
      have hp2 := HP4.out
      rw [HEA.out, HEQ.out] at hp1 hp2
      rw [HEE.out] at hp1
      have HQ3 := Lib.hid hp1; have HQ4 := Lib.hid hp2
      clear hp1 hp2
      refine (told_of (union_any _ _ _ A Q HAA.out HAQ.out (by rw [HNA.out]; exact HRA.out) (by rw [HNQ.out]; exact HRQ.out) (by rw [HNA.out, HNQ.out]; omega)) (HQ3.out)).mono ?_
      rintro e wq52 ⟨v, rfl, ho2, hk2⟩
      have HK := Lib.hid (HK.out.trans hk2)
      have HR := Lib.hid (HR.out.keep hk2)
      have HRA := Lib.hid (HRA.out.keep hk2 fun _ _ => id)
      have HRW := Lib.hid (HRW.out.keep hk2)
      have HRB := Lib.hid (HRB.out.keep hk2 fun _ _ => id)
      have HRC := Lib.hid (HRC.out.keep hk2 fun _ _ => id)
      have HRC2 := Lib.hid (HRC2.out.keep hk2 fun _ _ => id)
      have HRQ := Lib.hid (HRQ.out.keep hk2 fun _ _ => id)
      have HRE := Lib.hid (HRE.out.keep hk2 fun _ _ => id)
      rw [HNE.out] at ho2
      obtain ⟨aE2, cE2, hvE2, -, -⟩ := (Rd.of_owns ho2).form
      subst hvE2
      have HRE2 := Lib.hid (Rd.of_owns ho2)
      clear ho2 hk2
      go_wp2_with fail
      refine (same_any _ _ _ E E (by rw [HNE.out]; exact HRE2.out) (by rw [HNE.out]; exact HRE.out) true (decide_eq_true rfl)).mono ?_
      rintro e wq53 ⟨rfl, hk⟩
      have HK := Lib.hid (HK.out.trans hk)
      have HR := Lib.hid (HR.out.keep hk)
      have HRA := Lib.hid (HRA.out.keep hk fun _ _ => id)
      have HRW := Lib.hid (HRW.out.keep hk)
      have HRB := Lib.hid (HRB.out.keep hk fun _ _ => id)
      have HRC := Lib.hid (HRC.out.keep hk fun _ _ => id)
      have HRC2 := Lib.hid (HRC2.out.keep hk fun _ _ => id)
      have HRQ := Lib.hid (HRQ.out.keep hk fun _ _ => id)
      have HRE := Lib.hid (HRE.out.keep hk fun _ _ => id)
      have HRE2 := Lib.hid (HRE2.out.keep hk fun _ _ => id)
      clear hk
      go_wp2_with fail
      refine (told_of (both_any _ _ _ A Q HAA.out HAQ.out (by rw [HNA.out]; exact HRA.out) (by rw [HNQ.out]; exact HRQ.out) (by rw [HNA.out]; omega)) (HQ4.out)).mono ?_
      rintro e wq54 ⟨v, rfl, ho2, hk2⟩
      have HK := Lib.hid (HK.out.trans hk2)
      have HR := Lib.hid (HR.out.keep hk2)
      have HRA := Lib.hid (HRA.out.keep hk2 fun _ _ => id)
      have HRW := Lib.hid (HRW.out.keep hk2)
      have HRB := Lib.hid (HRB.out.keep hk2 fun _ _ => id)
      have HRC := Lib.hid (HRC.out.keep hk2 fun _ _ => id)
      have HRC2 := Lib.hid (HRC2.out.keep hk2 fun _ _ => id)
      have HRQ := Lib.hid (HRQ.out.keep hk2 fun _ _ => id)
      have HRE := Lib.hid (HRE.out.keep hk2 fun _ _ => id)
      have HRE2 := Lib.hid (HRE2.out.keep hk2 fun _ _ => id)
      rw [HNZ.out] at ho2
      obtain ⟨aZ2, cZ2, hvZ2, -, -⟩ := (Rd.of_owns ho2).form
      subst hvZ2
      have HRZ2 := Lib.hid (Rd.of_owns ho2)
      clear ho2 hk2
      go_wp2_with fail
      go_ret
      exact ⟨rfl, HK.out⟩
  · go_wp2_with fail
    go_ret
    exact ⟨rfl, HK.out⟩

end Go.Proofs.Ytmilgaoilglmjaa
