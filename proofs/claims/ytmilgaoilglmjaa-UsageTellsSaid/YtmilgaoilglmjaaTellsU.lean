/-
  copies, kept; UsageTells: which addresses holders have, alone, together, in all.
  Conditions: none but those of the given statement.
-/
import Derived.Test.YtmilgaoilglmjaaPartsU
import Derived.Test.YtmilgaoilglmjaaLentI
namespace Go.Proofs.Ytmilgaoilglmjaa
open Go.RowKit Go.Maps Go.ChangeMaps
set_option maxRecDepth 100000
set_option linter.unusedVariables false

theorem Rd.keep_far {S : Nat → Prop} {w w' : World} {size n : Nat} {v : Value} {l : List Value} (h : Rd w size v n l) (hk : Keep S w w') (hS : ∀ k, k < w.heap.size → ¬ S k) : Rd w' size v n l := by
  obtain ⟨h0, a, cap, rfl, h1, h2, h3, h4⟩ := h
  refine ⟨h0, a, cap, rfl, h1, h2, h3, fun h0 => ?_⟩
  obtain ⟨g, o, rfl, hc⟩ := h4 h0
  exact ⟨g, o, rfl, fun i u hu => hk.cell (hc i u hu) (hS g (World.block_lt_of_cell? w _ (hc i u hu)))⟩
theorem Rows2.keep_far {S : Nat → Prop} {w w' : World} {v : Value} {hs : List (List Ad)} (h : Rows2 w v hs) (k : Keep S w w') (hS : ∀ k, k < w.heap.size → ¬ S k) : Rows2 w' v hs := by
  obtain ⟨vs, h1, h2⟩ := h.rows
  refine ⟨vs, h1.keep_far k hS, fun i L hi => ?_⟩
  obtain ⟨u, h3, h4⟩ := h2 i L hi
  exact ⟨u, h3, h4.keep_far k hS⟩
theorem owns_apart {w : World} {b b' e e' s s' n m : Nat} {u v : Value} {xs ys : List Value} (h : w.ownsRow b e s u n xs) (h' : w.ownsRow b' e' s' v m ys) (hne : e ≠ e') {k : Nat} (hu : u.ownBlock = some k) : v.ownBlock ≠ some k := by
  intro hv
  rcases h.2 with ⟨rfl, -⟩ | ⟨g, cap, cur, rfl, -, hg, -⟩
  · cases hu
  · rcases h'.2 with ⟨rfl, -⟩ | ⟨g', cap', cur', rfl, -, hg', -⟩
    · cases hv
    · cases hu
      cases hv
      rw [hg] at hg'
      cases hg'
      exact hne rfl
/-- A row of slices, each owns its list. -/
def TellsO (w : World) (vs : List Value) (R : List (List Ad)) : Prop := vs.length = R.length ∧ ∀ (j : Nat) (L : List Ad), R[j]? = some L → ∃ u base, vs[j]? = some u ∧ w.ownsRow base 25 2 u L.length (adCells L)
theorem TellsO.keep {w w' : World} {vs : List Value} {R : List (List Ad)} (h : TellsO w vs R) (k : Keep noBlk w w') : TellsO w' vs R := ⟨h.1, fun j L hj => by
  obtain ⟨u, b, h1, h2⟩ := h.2 j L hj
  exact ⟨u, b, h1, k.owns h2 fun _ _ => id⟩⟩
theorem TellsO.grow {w w' : World} {vs : List Value} {R : List (List Ad)} (h : TellsO w vs R) {b n : Nat} {v : Value} {ys : List Value} (ho : w.ownsRow b 30 1 v n ys) (k : Keep (fun j => v.ownBlock = some j) w w') : TellsO w' vs R := ⟨h.1, fun j L hj => by
  obtain ⟨u, b, h1, h2⟩ := h.2 j L hj
  exact ⟨u, b, h1, k.owns h2 fun i hi => owns_apart h2 ho (by decide) hi⟩⟩
theorem TellsO.snoc {w : World} {vs : List Value} {R : List (List Ad)} (h : TellsO w vs R) {u : Value} {base : Nat} {L : List Ad} (hu : w.ownsRow base 25 2 u L.length (adCells L)) : TellsO w (vs ++ [u]) (R ++ [L]) := by
  refine ⟨by rw [List.length_append, List.length_append, h.1]; rfl, fun j M hj => ?_⟩
  rcases Nat.lt_or_ge j R.length with hl | hl
  · rw [List.getElem?_append_left hl] at hj
    obtain ⟨u', b', h1, h2⟩ := h.2 j M hj
    exact ⟨u', b', by rw [List.getElem?_append_left (by rw [h.1]; exact hl)]; exact h1, h2⟩
  · rw [List.getElem?_append_right hl] at hj
    obtain ⟨rfl, hjz⟩ : M = L ∧ j - R.length = 0 := by
      have h1 := (List.getElem?_eq_some_iff.1 hj).1
      have h0 : j - R.length = 0 := by simp at h1; omega
      rw [h0] at hj
      exact ⟨(Option.some.inj hj).symm, h0⟩
    refine ⟨u, base, ?_, hu⟩
    rw [List.getElem?_append_right (by rw [h.1]; exact hl), h.1, hjz]
    rfl
theorem TellsO.rows {w : World} {vs : List Value} {R : List (List Ad)} (h : TellsO w vs R) {v : Value} {n : Nat} (hn : R.length = n) (hv : Rd w 1 v n vs) : Rows2 w v R := ⟨vs, by rw [hn]; exact hv, fun i L hi => by
  obtain ⟨u, b, h1, h2⟩ := h.2 i L hi
  exact ⟨u, h1, Rd.of_owns h2⟩⟩

set_option maxHeartbeats 16000000 in
theorem copies_any (w : World) (v : Value) (hs : List (List Ad)) (hr : Rows2 w v hs) (h20 : hs.length ≤ 20) (h100 : ∀ L ∈ hs, L.length ≤ 100) : Calls Try.prog 9 #[v] w (WoPost w hs) := by
  obtain ⟨oa, ca, rfl, hlm⟩ := hr.form
  obtain ⟨n, hn⟩ : ∃ n, hs.length = n := ⟨_, rfl⟩
  have HN := Lib.hid hn; have HR := Lib.hid hr; have H100 := Lib.hid h100
  rw [hn] at HR h20 ⊢
  clear hr hn hlm h100
  go_enter Try.func9, Try.ntmps9
  go_wp2_with fail
  go_loopw [3, 4] (fun t i wr => ∃ (k : Nat) (pa : Option Addr) (pc : Nat) (vs : List Value), k ≤ n ∧ t = .slice pa k pc ∧ i = .int .i64 k ∧ Hid (wr.ownsRow w.heap.size 30 1 (.slice pa k pc) k vs) ∧ Hid (TellsO wr vs (hs.take k)) ∧ Hid (Keep noBlk w wr)) (fun _ i _ => n - (intOf i).toNat)
  case atStart => exact ⟨0, none, 0, [], Nat.zero_le _, rfl, rfl, Lib.hid (ownRow_none _ _ _), Lib.hid ⟨rfl, fun j L h => by cases h⟩, Lib.hid (Keep.refl _ _)⟩
  case round =>
  obtain ⟨k, pa, pc, vs, hk, rfl, rfl, HO, HT, HK⟩ := hrel
  by_cases hlt : k < n
  · have hki : (k : Int) < (n : Int) := by omega
    have hk0 : (0 : Int) ≤ (k : Int) := by omega
    obtain ⟨L, hL⟩ : ∃ L, hs[k]? = some L := ⟨hs[k]'(by rw [HN.out]; exact hlt), List.getElem?_eq_getElem _⟩
    have hrl := (HR.out.keep HK.out).at hL
    rw [HN.out] at hrl
    obtain ⟨gl, ol, capl, al, cl, hvl, hcl, hrdl⟩ := hrl
    have e1 : oa = some ⟨gl, ol, none⟩ := by cases hvl; rfl
    subst e1
    have hlL : L.length ≤ 100 := H100.out L (List.mem_of_getElem? hL)
    have HC := Lib.hid (copyAddrs_any wr _ L hrdl (by omega))
    obtain ⟨q, hq⟩ : ∃ q, L.length = q := ⟨_, rfl⟩
    have HQ := Lib.hid hq
    rw [hq] at hcl HC
    have HTK : Hid (hs.take (k + 1) = hs.take k ++ [L]) := Lib.hid (by rw [List.take_add_one, hL]; rfl)
    clear hvl hrdl hq hL hlL
    go_wp2_with fail
    refine HC.out.mono ?_
    rintro e w7 ⟨u, rfl, hou, hk7⟩
    rw [HQ.out] at hou
    obtain ⟨ua, uc, rfl, -, -⟩ := (Rd.of_owns hou).form
    obtain ⟨w8, hw8, hk8, hb8, hs8⟩ := alloc_facts w7 #[(Value.slice ua q uc)] 30
    have HR8 : Hid (Rd w8 1 (.slice (some ⟨w7.heap.size, 0, none⟩) 1 1) 1 [(Value.slice ua q uc)]) := Lib.hid (rd_blk (n := 1) (size := 1) (vs := [(Value.slice ua q uc)]) hb8 rfl (by unfold maxLen; omega))
    have HO8 := Lib.hid (hk8.owns (hk7.owns HO.out fun _ _ => id) fun _ _ => id); have HK8 := Lib.hid ((HK.out.trans hk7).trans hk8)
    have hsz8 : w.heap.size ≤ w8.heap.size := HK8.out.size
    have HT8 : Hid (TellsO w8 (vs ++ [(Value.slice ua q uc)]) (hs.take (k + 1))) := Lib.hid (by rw [HTK.out]; exact (((HT.out.keep hk7).snoc (by rw [HQ.out]; exact hou)).keep hk8))
    have hone : ∀ u ∈ [(Value.slice ua q uc)], u.oneCell' = true := by simp [Value.oneCell']
    clear hk8 hb8 hs8 hk7 hou HC hcl
    go_wp2_with (first
      | (at_builtin; try rw [hw8]
         refine wpList_append_rd rfl (.tmp 11) (.tmp 17) 22 rfl w.heap.size 30 (.slice none 0 0) 1 24 Try.underlying22 infoLS rfl (by decide) (.slice pa k pc) k vs rfl HO8.out (.slice (some ⟨w7.heap.size, 0, none⟩) 1 1) 1 [(Value.slice ua q uc)] rfl HR8.out hone (by unfold maxLen; omega) (by omega) hsz8 ?_
         intro v' w5 ho5 hk5 hn5 hb5
         obtain ⟨va, vc, rfl, -, -⟩ := (Rd.of_owns ho5).form
         have HO5 := Lib.hid ho5
         have HT5 := Lib.hid (HT8.out.grow HO8.out hk5)
         have HK5 := Lib.hid (HK8.out.trans' hk5 (U := noBlk) (fun _ _ h => h) (fun i hi e => by have := owns_base HO8.out e; omega))
         clear ho5 hk5 hn5 hb5 hw8))
    go_roundw
    case rel => exact ⟨k + 1, va, vc, _, by omega, rfl, by go_num, HO5, HT5, HK5⟩
    case measure => simp [intOf]; omega
  · obtain rfl : k = n := by omega
    have hw : WoPost w hs (.returned (.slice pa k pc)) wr := ⟨_, rfl, by have h := HT.out; rw [List.take_of_length_le (by rw [HN.out]; exact Nat.le_refl _)] at h; exact h.rows HN.out (Rd.of_owns HO.out), HK.out⟩
    have HW := Lib.hid hw
    clear hw
    go_wp2_with fail
    go_ret
    exact HW.out

set_option maxHeartbeats 16000000 in
theorem kept_u (w : World) (v v2 : Value) (hs : List (List Ad)) (hr : Rows2 w v hs) (hr2 : Rows2 w v2 hs) (h20 : hs.length ≤ 20) : Calls Try.prog 26 #[v, v2] w (TherePost w true) := by
  obtain ⟨oa, ca, rfl, hlm⟩ := hr.form
  obtain ⟨ob, cb, rfl, -⟩ := hr2.form
  obtain ⟨n, hn⟩ : ∃ n, hs.length = n := ⟨_, rfl⟩
  have HN := Lib.hid hn; have HR := Lib.hid hr; have HRB := Lib.hid hr2
  rw [hn] at HR HRB h20 ⊢
  clear hr hr2 hn hlm
  go_enter Try.func26, Try.ntmps26
  go_wp2_with fail
  go_loopw [5] (fun i wr => ∃ k : Nat, k ≤ n ∧ i = .int .i64 k ∧ Hid (Keep noBlk w wr)) (fun i _ => n - (intOf i).toNat)
  case atStart => exact ⟨0, Nat.zero_le _, rfl, Lib.hid (Keep.refl _ _)⟩
  case round =>
  obtain ⟨k, hk, rfl, HK⟩ := hrel
  by_cases hlt : k < n
  · have hki : (k : Int) < (n : Int) := by omega
    have hk0 : (0 : Int) ≤ (k : Int) := by omega
    obtain ⟨L, hL⟩ : ∃ L, hs[k]? = some L := ⟨hs[k]'(by rw [HN.out]; exact hlt), List.getElem?_eq_getElem _⟩
    have hrl := (HR.out.keep HK.out).at hL
    rw [HN.out] at hrl
    obtain ⟨ga, pa, capa, la, ca', hvl, hca, hrda⟩ := hrl
    have e1 : oa = some ⟨ga, pa, none⟩ := by cases hvl; rfl
    subst e1
    clear hvl
    have hrl := (HRB.out.keep HK.out).at hL
    rw [HN.out] at hrl
    obtain ⟨gb, pb, capb, lb, cb', hvl, hcb, hrdb⟩ := hrl
    have e1 : ob = some ⟨gb, pb, none⟩ := by cases hvl; rfl
    subst e1
    clear hvl
    have HRDa := Lib.hid hrda; have HRDb := Lib.hid hrdb
    obtain ⟨q, hq⟩ : ∃ q, L.length = q := ⟨_, rfl⟩
    rw [hq] at hca hcb HRDa HRDb
    have HQ := Lib.hid hq
    clear hrda hrdb hq hL
    go_wp2_with fail
    obtain ⟨S, hS0⟩ : ∃ S : World → Prop, S = fun w' => Keep noBlk wr w' := ⟨_, rfl⟩
    have HSE := Lib.hid (show ∀ w', S w' → Keep noBlk wr w' from fun w' h => by rw [hS0] at h; exact h)
    have HSI := Lib.hid (show ∀ w', Keep noBlk wr w' → S w' from fun w' h => by rw [hS0]; exact h)
    have hS : S wr.drew := by rw [hS0]; exact (Keep.refl _ _).drew
    clear hS0
    refine wp_region_held (S := S) (by kernel_rfl) ?_
    change wpAnyH _ _ _ _ _ _ _ _ wr.drew
    generalize wr.drew = wq41 at hS ⊢
    refine wpAnyH_take (i := 0) (v := .slice (some ⟨ga, pa, none⟩) n ca) rfl (by kernel_rfl) (by kernel_rfl) (by kernel_rfl) (fun _ _ _ h => h) (.inl ⟨by rfl, fun _ _ => rfl⟩) hS ?_
    simp only [Act.put, List.setIfInBounds_toArray, List.set_cons_zero, List.set_cons_succ, List.getElem_toArray, List.getElem_cons_zero]
    refine wpAnyH_take (i := 1) (v := .int .i64 (k : Int)) rfl (by kernel_rfl) (by kernel_rfl) (by kernel_rfl) (fun _ _ _ h => h) (.inl ⟨by rfl, fun _ _ => rfl⟩) hS ?_
    simp only [Act.put, List.setIfInBounds_toArray, List.set_cons_zero, List.set_cons_succ, List.getElem_toArray, List.getElem_cons_succ, List.getElem_cons_zero]
    refine wpAnyH_take (i := 2) (v := .pointer (some ⟨ga, pa + k, none⟩)) rfl (by kernel_rfl) (by kernel_rfl) (by kernel_rfl) (fun _ _ _ h => h) (.inl ⟨by rfl, fun _ _ => by go_simp⟩) hS ?_
    simp only [Act.put, List.setIfInBounds_toArray, List.set_cons_zero, List.set_cons_succ, List.getElem_toArray, List.getElem_cons_succ, List.getElem_cons_zero]
    refine wpAnyH_take (i := 3) (v := .slice la q ca') rfl (by kernel_rfl) (by kernel_rfl) (by kernel_rfl) (fun _ _ _ h => h) (.inl ⟨by rfl, fun w' hw' => by have c := (HSE.out w' hw').cell hca id; go_simp⟩) hS ?_
    simp only [Act.put, List.setIfInBounds_toArray, List.set_cons_zero, List.set_cons_succ, List.getElem_toArray, List.getElem_cons_succ, List.getElem_cons_zero]
    refine wpAnyH_take (i := 4) (v := .slice (some ⟨gb, pb, none⟩) n cb) rfl (by kernel_rfl) (by kernel_rfl) (by kernel_rfl) (fun _ _ _ h => h) (.inl ⟨by rfl, fun _ _ => rfl⟩) hS ?_
    simp only [Act.put, List.setIfInBounds_toArray, List.set_cons_zero, List.set_cons_succ, List.getElem_toArray, List.getElem_cons_succ, List.getElem_cons_zero]
    refine wpAnyH_take (i := 5) (v := .int .i64 (k : Int)) rfl (by kernel_rfl) (by kernel_rfl) (by kernel_rfl) (fun _ _ _ h => h) (.inl ⟨by rfl, fun _ _ => rfl⟩) hS ?_
    simp only [Act.put, List.setIfInBounds_toArray, List.set_cons_zero, List.set_cons_succ, List.getElem_toArray, List.getElem_cons_succ, List.getElem_cons_zero]
    refine wpAnyH_take (i := 6) (v := .pointer (some ⟨gb, pb + k, none⟩)) rfl (by kernel_rfl) (by kernel_rfl) (by kernel_rfl) (fun _ _ _ h => h) (.inl ⟨by rfl, fun _ _ => by go_simp⟩) hS ?_
    simp only [Act.put, List.setIfInBounds_toArray, List.set_cons_zero, List.set_cons_succ, List.getElem_toArray, List.getElem_cons_succ, List.getElem_cons_zero]
    refine wpAnyH_take (i := 7) (v := .slice lb q cb') rfl (by kernel_rfl) (by kernel_rfl) (by kernel_rfl) (fun _ _ _ h => h) (.inl ⟨by rfl, fun w' hw' => by have c := (HSE.out w' hw').cell hcb id; go_simp⟩) hS ?_
    simp only [Act.put, List.setIfInBounds_toArray, List.set_cons_zero, List.set_cons_succ, List.getElem_toArray, List.getElem_cons_succ, List.getElem_cons_zero]
    refine wpAnyH_one (k := 8) rfl (by kernel_rfl) ?_
    go_wp2_with fail
    refine (same_any _ _ _ L L (by rw [HQ.out]; exact HRDa.out.keep (HSE.out _ hS) fun _ _ => id) (by rw [HQ.out]; exact HRDb.out.keep (HSE.out _ hS) fun _ _ => id) true (decide_eq_true rfl)).mono ?_
    rintro e wq42 ⟨rfl, hk⟩
    have hS1 := HSI.out _ ((HSE.out _ hS).trans hk)
    clear hS hk
    go_wp2_with fail
    refine ⟨hS1, ?_⟩
    refine wpAnyH_take (i := 9) (v := .bool false) rfl (by kernel_rfl) (by kernel_rfl) (by kernel_rfl) (fun _ _ _ h => h) (.inl ⟨by rfl, fun _ _ => by go_simp⟩) hS1 ?_
    simp only [Act.put, List.setIfInBounds_toArray, List.set_cons_zero, List.set_cons_succ, List.getElem_toArray, List.getElem_cons_succ, List.getElem_cons_zero]
    refine wpAnyH_done (by kernel_rfl) ?_ _
    have HKR := Lib.hid (HSE.out _ hS1)
    clear hS1 HSE HSI
    have HK := Lib.hid (HK.out.trans HKR.out)
    clear HKR hca hcb
    go_wp2_with fail
    go_roundw
    case rel => exact ⟨k + 1, by omega, by go_num, HK⟩
    case measure => simp [intOf]; omega
  · obtain rfl : k = n := by omega
    go_wp2_with fail
    go_ret
    exact ⟨rfl, HK.out⟩

set_option maxHeartbeats 16000000 in
theorem usageTells_walk (w : World) (v : Value) (hs : List (List Ad)) (ho : ∀ L ∈ hs, AdsOk L) (hr : Rows2 w v hs) (vd : Value) (dr : List Int) (hI : ∀ x ∈ dr, In64 x) (hrd : Rd w 1 vd dr.length (dr.map fun x => .int .i64 x)) (i : Int) (hi : In64 i) (x : Ad) (hx : AdOk x) :
    Calls Try.prog 3 #[v, vd, .int .i64 i, .agg (adCs x).toArray] w (TherePost w true) := by
  have CW := Lib.hid (fun w => (awakeU_any w).mono fun e w' (h : TherePost w true e w') => (show e = .returned (.bool true) ∧ Keep noBlk w w' from h))
  obtain ⟨oa, ca, rfl, hlm⟩ := hr.form
  obtain ⟨da, dc, rfl, -, -⟩ := hrd.form
  obtain ⟨n, hn⟩ : ∃ n, hs.length = n := ⟨_, rfl⟩
  obtain ⟨dn, hdn⟩ : ∃ n, dr.length = n := ⟨_, rfl⟩
  have HN := Lib.hid hn; have HR := Lib.hid hr; have HND := Lib.hid hdn; have HRD := Lib.hid hrd; have HI := Lib.hid hI
  have CL := Lib.hid (longU_any w _ _ hs dr hr hrd)
  have HOK := Lib.hid ho
  obtain ⟨bb, hbb⟩ : ∃ b, longB hs dr = b := ⟨_, rfl⟩
  have HBB := Lib.hid hbb
  rw [hn, hdn, hbb] at CL
  rw [hn] at HR ⊢
  rw [hdn] at HRD ⊢
  clear hr hrd hdn hn hbb hlm ho hI
  have HXO := Lib.hid hx; have HII := Lib.hid hi
  clear hx hi
  obtain ⟨w0, hw0, hk0, hb0, hs0⟩ := alloc_facts w (adCs x).toArray 25
  have HR := Lib.hid (HR.out.keep hk0); have HRD := Lib.hid (HRD.out.keep hk0 fun _ _ => id)
  have HBX := Lib.hid hb0; have HK := Lib.hid hk0
  have hwx : w.heap.size < w0.heap.size := by omega
  clear hk0 hb0 hs0
  go_enter Try.func3, Try.ntmps3
  go_wp2_with fail
  clear hw0
  have CL := longU_any w0 (.slice oa n ca) (.slice da dn dc) hs dr HR.out (by rw [HND.out]; exact HRD.out)
  rw [HBB.out] at CL
  have CL := Lib.hid CL
  refine (CL.out).mono ?_
  rintro e wq41 ⟨rfl, hk⟩
  have HBX := Lib.hid (hk.blk HBX.out id)
  have HK := Lib.hid (HK.out.trans hk)
  have HR := Lib.hid (HR.out.keep hk)
  have HRD := Lib.hid (HRD.out.keep hk fun _ _ => id)
  clear hk
  clear CL
  cases bb
  · have hlim := longB_false HBB.out
    have h20 := hlim.1
    have HF : Hid (hs.flatten.length ≤ 2000) := Lib.hid (by have := flat100 hlim.2.1; omega)
    have H100 := Lib.hid hlim.2.1
    have H40 : Hid (dr.length ≤ 40) := Lib.hid hlim.2.2
    have h64 : hs.length ≤ 64 := by omega
    have H64 := Lib.hid h64
    have H20 := Lib.hid h20
    rw [HN.out] at h20
    clear h64 hlim
    obtain ⟨U0, hU0⟩ : ∃ l : List Ad, canon (hs.flatten.filter fun a => subB (hw hs a) (wordOf hs.length [i])) = l := ⟨_, rfl⟩
    have HE0 := Lib.hid hU0
    obtain ⟨n0, hn0⟩ : ∃ k, U0.length = k := ⟨_, rfl⟩
    have HN0 := Lib.hid hn0
    clear hU0 hn0
    obtain ⟨U1, hU1⟩ : ∃ l : List Ad, canon hs.flatten = l := ⟨_, rfl⟩
    have HE1 := Lib.hid hU1
    obtain ⟨n1, hn1⟩ : ∃ k, U1.length = k := ⟨_, rfl⟩
    have HN1 := Lib.hid hn1
    clear hU1 hn1
    obtain ⟨U2, hU2⟩ : ∃ l : List Ad, canon (hs.flatten.filter fun a => subB (hw hs a) (wordOf hs.length dr)) = l := ⟨_, rfl⟩
    have HE2 := Lib.hid hU2
    obtain ⟨n2, hn2⟩ : ∃ k, U2.length = k := ⟨_, rfl⟩
    have HN2 := Lib.hid hn2
    clear hU2 hn2
    obtain ⟨U3, hU3⟩ : ∃ l : List Ad, canon (hs.flatten.filter fun a => (someB (wordOf hs.length dr) && subB (wordOf hs.length dr) (hw hs a))) = l := ⟨_, rfl⟩
    have HE3 := Lib.hid hU3
    obtain ⟨n3, hn3⟩ : ∃ k, U3.length = k := ⟨_, rfl⟩
    have HN3 := Lib.hid hn3
    clear hU3 hn3
    go_wp2_with fail
    refine (copies_any _ _ hs HR.out H20.out H100.out).mono ?_
    rintro e wq42 ⟨v, rfl, hrw, hk⟩
    have h1 := hrw.form
    rw [HN.out] at h1
    obtain ⟨ia, ic, hv2, -⟩ := h1
    subst hv2
    have HRI := Lib.hid hrw
    clear hrw
    have HBX := Lib.hid (hk.blk HBX.out id)
    have HK := Lib.hid (HK.out.trans hk)
    have HR := Lib.hid (HR.out.keep hk)
    have HRD := Lib.hid (HRD.out.keep hk fun _ _ => id)
    clear hk
    go_wp2_with fail
    refine (lentI_any _ _ dr (by rw [HND.out]; exact HRD.out) (by have := H40.out; omega)).mono ?_
    rintro e wq43 ⟨lg, rfl, hlg, hk, -⟩
    have HLG := Lib.hid hlg
    clear hlg
    have HBX := Lib.hid (hk.blk HBX.out id)
    have HK := Lib.hid (HK.out.trans hk)
    have HR := Lib.hid (HR.out.keep hk)
    have HRD := Lib.hid (HRD.out.keep hk fun _ _ => id)
    have HRI := Lib.hid (HRI.out.keep hk)
    clear hk
    rw [HND.out]
    obtain ⟨wA, hwA⟩ : ∃ wA, wq43 = wA := ⟨_, rfl⟩
    rw [hwA] at HK HR HRD HRI HLG HBX ⊢
    clear hwA
    have HRA0 := HR; have HRDA0 := HRD; have HRIA0 := HRI; have HLGA0 := HLG; have HBXA0 := HBX; have HKA0 := HK
    have HKZ := Lib.hid (Keep.refl noBlk wA)
    obtain ⟨s0, hs0⟩ : ∃ b, wA.heap.size = b := ⟨_, rfl⟩
    have hwB : w.heap.size < s0 := by have := lt_of_block HBX.out; omega
    have HLB : lg < s0 := by have := lt_of_block HLG.out; omega
    have HS0 := Lib.hid hs0
    clear hs0
    go_wp2_with fail
    refine (told_of (unique_any _ (.slice ia n ic) hs i HII.out HOK.out HRI.out H20.out (by have := HF.out; omega)) HE0.out).mono ?_
    rintro e wq44 ⟨v, rfl, ho2, hk⟩
    rw [HN0.out, HS0.out] at ho2
    obtain ⟨aP0, cP0, hvP0, -, -⟩ := (Rd.of_owns ho2).form
    subst hvP0
    obtain ⟨s1, hs1⟩ : ∃ b, wq44.heap.size = b := ⟨_, rfl⟩
    have hl1 : s0 ≤ s1 := by rw [← hs1, ← HS0.out]; exact hk.size
    have HS1 := Lib.hid hs1
    have HFP0 : Hid (∀ b, (Value.slice aP0 n0 cP0).ownBlock = some b → s0 ≤ b ∧ b < s1) := Lib.hid (fun b hb => by have := ho2.lt b hb; omega)
    have HOP0 := Lib.hid ho2
    clear ho2 hs1
    have HBX := Lib.hid (hk.blk HBX.out id)
    have HK := Lib.hid (HK.out.trans hk)
    have HR := Lib.hid (HR.out.keep hk)
    have HRD := Lib.hid (HRD.out.keep hk fun _ _ => id)
    have HRI := Lib.hid (HRI.out.keep hk)
    have HLG := Lib.hid (HLG.out.keep hk id)
    have HKZ := Lib.hid (HKZ.out.trans hk)
    clear hk
    go_wp2_with fail
    refine (told_of (all_any _ (.slice ia n ic) hs HOK.out HRI.out H20.out (by have := HF.out; omega)) HE1.out).mono ?_
    rintro e wq45 ⟨v, rfl, ho2, hk⟩
    rw [HN1.out, HS1.out] at ho2
    obtain ⟨aP1, cP1, hvP1, -, -⟩ := (Rd.of_owns ho2).form
    subst hvP1
    obtain ⟨s2, hs1⟩ : ∃ b, wq45.heap.size = b := ⟨_, rfl⟩
    have hl2 : s1 ≤ s2 := by rw [← hs1, ← HS1.out]; exact hk.size
    have HS2 := Lib.hid hs1
    have HFP1 : Hid (∀ b, (Value.slice aP1 n1 cP1).ownBlock = some b → s1 ≤ b ∧ b < s2) := Lib.hid (fun b hb => by have := ho2.lt b hb; omega)
    have HOP1 := Lib.hid ho2
    clear ho2 hs1
    have HBX := Lib.hid (hk.blk HBX.out id)
    have HK := Lib.hid (HK.out.trans hk)
    have HR := Lib.hid (HR.out.keep hk)
    have HRD := Lib.hid (HRD.out.keep hk fun _ _ => id)
    have HRI := Lib.hid (HRI.out.keep hk)
    have HLG := Lib.hid (HLG.out.keep hk id)
    have HKZ := Lib.hid (HKZ.out.trans hk)
    have HOP0 := Lib.hid (hk.owns HOP0.out fun _ _ => id)
    clear hk
    go_wp2_with fail
    refine (told_of (freed_any _ (.slice ia n ic) (.slice (some ⟨lg, 0, none⟩) dn (dn + 3)) hs dr HOK.out HRI.out H20.out (by have := HF.out; omega) (by have h := HLG.out.rd (by have := H40.out; omega); rw [HND.out] at h ⊢; exact h) HI.out) HE2.out).mono ?_
    rintro e wq46 ⟨v, rfl, ho2, hk⟩
    rw [HN2.out, HS2.out] at ho2
    obtain ⟨aP2, cP2, hvP2, -, -⟩ := (Rd.of_owns ho2).form
    subst hvP2
    obtain ⟨s3, hs1⟩ : ∃ b, wq46.heap.size = b := ⟨_, rfl⟩
    have hl3 : s2 ≤ s3 := by rw [← hs1, ← HS2.out]; exact hk.size
    have HS3 := Lib.hid hs1
    have HFP2 : Hid (∀ b, (Value.slice aP2 n2 cP2).ownBlock = some b → s2 ≤ b ∧ b < s3) := Lib.hid (fun b hb => by have := ho2.lt b hb; omega)
    have HOP2 := Lib.hid ho2
    clear ho2 hs1
    have HBX := Lib.hid (hk.blk HBX.out id)
    have HK := Lib.hid (HK.out.trans hk)
    have HR := Lib.hid (HR.out.keep hk)
    have HRD := Lib.hid (HRD.out.keep hk fun _ _ => id)
    have HRI := Lib.hid (HRI.out.keep hk)
    have HLG := Lib.hid (HLG.out.keep hk id)
    have HKZ := Lib.hid (HKZ.out.trans hk)
    have HOP0 := Lib.hid (hk.owns HOP0.out fun _ _ => id)
    have HOP1 := Lib.hid (hk.owns HOP1.out fun _ _ => id)
    clear hk
    go_wp2_with fail
    refine (told_of (shared_any _ (.slice ia n ic) (.slice (some ⟨lg, 0, none⟩) dn (dn + 3)) hs dr HOK.out HRI.out H20.out (by have := HF.out; omega) (by have h := HLG.out.rd (by have := H40.out; omega); rw [HND.out] at h ⊢; exact h) HI.out) HE3.out).mono ?_
    rintro e wq47 ⟨v, rfl, ho2, hk⟩
    rw [HN3.out, HS3.out] at ho2
    obtain ⟨aP3, cP3, hvP3, -, -⟩ := (Rd.of_owns ho2).form
    subst hvP3
    obtain ⟨s4, hs1⟩ : ∃ b, wq47.heap.size = b := ⟨_, rfl⟩
    have hl4 : s3 ≤ s4 := by rw [← hs1, ← HS3.out]; exact hk.size
    have HS4 := Lib.hid hs1
    have HFP3 : Hid (∀ b, (Value.slice aP3 n3 cP3).ownBlock = some b → s3 ≤ b ∧ b < s4) := Lib.hid (fun b hb => by have := ho2.lt b hb; omega)
    have HOP3 := Lib.hid ho2
    clear ho2 hs1
    have HBX := Lib.hid (hk.blk HBX.out id)
    have HK := Lib.hid (HK.out.trans hk)
    have HR := Lib.hid (HR.out.keep hk)
    have HRD := Lib.hid (HRD.out.keep hk fun _ _ => id)
    have HRI := Lib.hid (HRI.out.keep hk)
    have HLG := Lib.hid (HLG.out.keep hk id)
    have HKZ := Lib.hid (HKZ.out.trans hk)
    have HOP0 := Lib.hid (hk.owns HOP0.out fun _ _ => id)
    have HOP1 := Lib.hid (hk.owns HOP1.out fun _ _ => id)
    have HOP2 := Lib.hid (hk.owns HOP2.out fun _ _ => id)
    clear hk
    obtain ⟨wq48, hw9, hk, hb9, hs9⟩ := alloc_facts wq47 #[.slice aP0 n0 cP0, .slice aP1 n1 cP1, .slice aP2 n2 cP2, .slice aP3 n3 cP3] 30
    rw [HS4.out] at hb9 hs9
    have HTP := Lib.hid hb9
    have HS5 : Hid (wq48.heap.size = s4 + 1) := Lib.hid hs9
    clear hb9 hs9
    go_wp2_with fail
    try rw [hw9]
    try rw [HS4.out]
    clear hw9
    obtain ⟨s5, hs1⟩ : ∃ b, s4 + 1 = b := ⟨_, rfl⟩
    rw [hs1] at HS5
    have hl5 : s4 + 1 ≤ s5 := by omega
    clear hs1
    have HBX := Lib.hid (hk.blk HBX.out id)
    have HK := Lib.hid (HK.out.trans hk)
    have HR := Lib.hid (HR.out.keep hk)
    have HRD := Lib.hid (HRD.out.keep hk fun _ _ => id)
    have HRI := Lib.hid (HRI.out.keep hk)
    have HLG := Lib.hid (HLG.out.keep hk id)
    have HKZ := Lib.hid (HKZ.out.trans hk)
    have HOP0 := Lib.hid (hk.owns HOP0.out fun _ _ => id)
    have HOP1 := Lib.hid (hk.owns HOP1.out fun _ _ => id)
    have HOP2 := Lib.hid (hk.owns HOP2.out fun _ _ => id)
    have HOP3 := Lib.hid (hk.owns HOP3.out fun _ _ => id)
    clear hk
    refine (told_of (runique_any _ (.slice oa n ca) hs i HR.out H20.out H100.out) HE0.out).mono ?_
    rintro e wq49 ⟨v, rfl, ho2, hk⟩
    rw [HN0.out, HS5.out] at ho2
    obtain ⟨aQ0, cQ0, hvQ0, -, -⟩ := (Rd.of_owns ho2).form
    subst hvQ0
    obtain ⟨s6, hs1⟩ : ∃ b, wq49.heap.size = b := ⟨_, rfl⟩
    have hl6 : s5 ≤ s6 := by rw [← hs1, ← HS5.out]; exact hk.size
    have HS6 := Lib.hid hs1
    have HFQ0 : Hid (∀ b, (Value.slice aQ0 n0 cQ0).ownBlock = some b → s5 ≤ b ∧ b < s6) := Lib.hid (fun b hb => by have := ho2.lt b hb; omega)
    have HOQ0 := Lib.hid ho2
    clear ho2 hs1
    have HBX := Lib.hid (hk.blk HBX.out id)
    have HK := Lib.hid (HK.out.trans hk)
    have HR := Lib.hid (HR.out.keep hk)
    have HRD := Lib.hid (HRD.out.keep hk fun _ _ => id)
    have HRI := Lib.hid (HRI.out.keep hk)
    have HLG := Lib.hid (HLG.out.keep hk id)
    have HKZ := Lib.hid (HKZ.out.trans hk)
    have HOP0 := Lib.hid (hk.owns HOP0.out fun _ _ => id)
    have HOP1 := Lib.hid (hk.owns HOP1.out fun _ _ => id)
    have HOP2 := Lib.hid (hk.owns HOP2.out fun _ _ => id)
    have HOP3 := Lib.hid (hk.owns HOP3.out fun _ _ => id)
    have HTP := Lib.hid (hk.blk HTP.out id)
    clear hk
    go_wp2_with fail
    refine (told_of (rall_any _ (.slice oa n ca) hs HR.out H20.out H100.out) HE1.out).mono ?_
    rintro e wq50 ⟨v, rfl, ho2, hk⟩
    rw [HN1.out, HS6.out] at ho2
    obtain ⟨aQ1, cQ1, hvQ1, -, -⟩ := (Rd.of_owns ho2).form
    subst hvQ1
    obtain ⟨s7, hs1⟩ : ∃ b, wq50.heap.size = b := ⟨_, rfl⟩
    have hl7 : s6 ≤ s7 := by rw [← hs1, ← HS6.out]; exact hk.size
    have HS7 := Lib.hid hs1
    have HFQ1 : Hid (∀ b, (Value.slice aQ1 n1 cQ1).ownBlock = some b → s6 ≤ b ∧ b < s7) := Lib.hid (fun b hb => by have := ho2.lt b hb; omega)
    have HOQ1 := Lib.hid ho2
    clear ho2 hs1
    have HBX := Lib.hid (hk.blk HBX.out id)
    have HK := Lib.hid (HK.out.trans hk)
    have HR := Lib.hid (HR.out.keep hk)
    have HRD := Lib.hid (HRD.out.keep hk fun _ _ => id)
    have HRI := Lib.hid (HRI.out.keep hk)
    have HLG := Lib.hid (HLG.out.keep hk id)
    have HKZ := Lib.hid (HKZ.out.trans hk)
    have HOP0 := Lib.hid (hk.owns HOP0.out fun _ _ => id)
    have HOP1 := Lib.hid (hk.owns HOP1.out fun _ _ => id)
    have HOP2 := Lib.hid (hk.owns HOP2.out fun _ _ => id)
    have HOP3 := Lib.hid (hk.owns HOP3.out fun _ _ => id)
    have HTP := Lib.hid (hk.blk HTP.out id)
    have HOQ0 := Lib.hid (hk.owns HOQ0.out fun _ _ => id)
    clear hk
    go_wp2_with fail
    refine (told_of (rfreed_any _ (.slice oa n ca) (.slice da dn dc) hs dr HR.out H20.out H100.out (by rw [HND.out]; exact HRD.out)) HE2.out).mono ?_
    rintro e wq51 ⟨v, rfl, ho2, hk⟩
    rw [HN2.out, HS7.out] at ho2
    obtain ⟨aQ2, cQ2, hvQ2, -, -⟩ := (Rd.of_owns ho2).form
    subst hvQ2
    obtain ⟨s8, hs1⟩ : ∃ b, wq51.heap.size = b := ⟨_, rfl⟩
    have hl8 : s7 ≤ s8 := by rw [← hs1, ← HS7.out]; exact hk.size
    have HS8 := Lib.hid hs1
    have HFQ2 : Hid (∀ b, (Value.slice aQ2 n2 cQ2).ownBlock = some b → s7 ≤ b ∧ b < s8) := Lib.hid (fun b hb => by have := ho2.lt b hb; omega)
    have HOQ2 := Lib.hid ho2
    clear ho2 hs1
    have HBX := Lib.hid (hk.blk HBX.out id)
    have HK := Lib.hid (HK.out.trans hk)
    have HR := Lib.hid (HR.out.keep hk)
    have HRD := Lib.hid (HRD.out.keep hk fun _ _ => id)
    have HRI := Lib.hid (HRI.out.keep hk)
    have HLG := Lib.hid (HLG.out.keep hk id)
    have HKZ := Lib.hid (HKZ.out.trans hk)
    have HOP0 := Lib.hid (hk.owns HOP0.out fun _ _ => id)
    have HOP1 := Lib.hid (hk.owns HOP1.out fun _ _ => id)
    have HOP2 := Lib.hid (hk.owns HOP2.out fun _ _ => id)
    have HOP3 := Lib.hid (hk.owns HOP3.out fun _ _ => id)
    have HTP := Lib.hid (hk.blk HTP.out id)
    have HOQ0 := Lib.hid (hk.owns HOQ0.out fun _ _ => id)
    have HOQ1 := Lib.hid (hk.owns HOQ1.out fun _ _ => id)
    clear hk
    go_wp2_with fail
    refine (told_of (rshared_any _ (.slice oa n ca) (.slice da dn dc) hs dr HR.out H20.out H100.out (by rw [HND.out]; exact HRD.out)) HE3.out).mono ?_
    rintro e wq52 ⟨v, rfl, ho2, hk⟩
    rw [HN3.out, HS8.out] at ho2
    obtain ⟨aQ3, cQ3, hvQ3, -, -⟩ := (Rd.of_owns ho2).form
    subst hvQ3
    obtain ⟨s9, hs1⟩ : ∃ b, wq52.heap.size = b := ⟨_, rfl⟩
    have hl9 : s8 ≤ s9 := by rw [← hs1, ← HS8.out]; exact hk.size
    have HS9 := Lib.hid hs1
    have HFQ3 : Hid (∀ b, (Value.slice aQ3 n3 cQ3).ownBlock = some b → s8 ≤ b ∧ b < s9) := Lib.hid (fun b hb => by have := ho2.lt b hb; omega)
    have HOQ3 := Lib.hid ho2
    clear ho2 hs1
    have HBX := Lib.hid (hk.blk HBX.out id)
    have HK := Lib.hid (HK.out.trans hk)
    have HR := Lib.hid (HR.out.keep hk)
    have HRD := Lib.hid (HRD.out.keep hk fun _ _ => id)
    have HRI := Lib.hid (HRI.out.keep hk)
    have HLG := Lib.hid (HLG.out.keep hk id)
    have HKZ := Lib.hid (HKZ.out.trans hk)
    have HOP0 := Lib.hid (hk.owns HOP0.out fun _ _ => id)
    have HOP1 := Lib.hid (hk.owns HOP1.out fun _ _ => id)
    have HOP2 := Lib.hid (hk.owns HOP2.out fun _ _ => id)
    have HOP3 := Lib.hid (hk.owns HOP3.out fun _ _ => id)
    have HTP := Lib.hid (hk.blk HTP.out id)
    have HOQ0 := Lib.hid (hk.owns HOQ0.out fun _ _ => id)
    have HOQ1 := Lib.hid (hk.owns HOQ1.out fun _ _ => id)
    have HOQ2 := Lib.hid (hk.owns HOQ2.out fun _ _ => id)
    clear hk
    obtain ⟨wq53, hw9, hk, hb9, hs9⟩ := alloc_facts wq52 #[.slice aQ0 n0 cQ0, .slice aQ1 n1 cQ1, .slice aQ2 n2 cQ2, .slice aQ3 n3 cQ3] 30
    rw [HS9.out] at hb9 hs9
    have HTQ := Lib.hid hb9
    have HS10 : Hid (wq53.heap.size = s9 + 1) := Lib.hid hs9
    clear hb9 hs9
    go_wp2_with fail
    try rw [hw9]
    try rw [HS9.out]
    clear hw9
    obtain ⟨s10, hs1⟩ : ∃ b, s9 + 1 = b := ⟨_, rfl⟩
    rw [hs1] at HS10
    have hl10 : s9 + 1 ≤ s10 := by omega
    clear hs1
    have HBX := Lib.hid (hk.blk HBX.out id)
    have HK := Lib.hid (HK.out.trans hk)
    have HR := Lib.hid (HR.out.keep hk)
    have HRD := Lib.hid (HRD.out.keep hk fun _ _ => id)
    have HRI := Lib.hid (HRI.out.keep hk)
    have HLG := Lib.hid (HLG.out.keep hk id)
    have HKZ := Lib.hid (HKZ.out.trans hk)
    have HOP0 := Lib.hid (hk.owns HOP0.out fun _ _ => id)
    have HOP1 := Lib.hid (hk.owns HOP1.out fun _ _ => id)
    have HOP2 := Lib.hid (hk.owns HOP2.out fun _ _ => id)
    have HOP3 := Lib.hid (hk.owns HOP3.out fun _ _ => id)
    have HTP := Lib.hid (hk.blk HTP.out id)
    have HOQ0 := Lib.hid (hk.owns HOQ0.out fun _ _ => id)
    have HOQ1 := Lib.hid (hk.owns HOQ1.out fun _ _ => id)
    have HOQ2 := Lib.hid (hk.owns HOQ2.out fun _ _ => id)
    have HOQ3 := Lib.hid (hk.owns HOQ3.out fun _ _ => id)
    clear hk
    obtain ⟨wz, hwz⟩ : ∃ wz, wq53 = wz := ⟨_, rfl⟩
    rw [hwz] at HBX HK HR HRD HRI HLG HKZ HOP0 HOP1 HOP2 HOP3 HTP HOQ0 HOQ1 HOQ2 HOQ3 HTQ ⊢
    clear hwz
    go_wp2_with fail
    go_loopw [13] (fun i wr => ∃ j : Nat, j ≤ 4 ∧ i = .int .i64 j ∧ Hid (j ≤ 0 → wr.ownsRow s0 25 2 (.slice aP0 n0 cP0) n0 (adCells U0)) ∧ Hid (j ≤ 1 → wr.ownsRow s1 25 2 (.slice aP1 n1 cP1) n1 (adCells U1)) ∧ Hid (j ≤ 2 → wr.ownsRow s2 25 2 (.slice aP2 n2 cP2) n2 (adCells U2)) ∧ Hid (j ≤ 3 → wr.ownsRow s3 25 2 (.slice aP3 n3 cP3) n3 (adCells U3)) ∧ Hid (Keep (fun k => s0 ≤ k ∧ k < s4) wz wr)) (fun i _ => 4 - (intOf i).toNat)
    case atStart => exact ⟨0, by omega, rfl, Lib.hid (fun _ => HOP0.out), Lib.hid (fun _ => HOP1.out), Lib.hid (fun _ => HOP2.out), Lib.hid (fun _ => HOP3.out), Lib.hid (Keep.refl _ _)⟩
    case round =>
    obtain ⟨j, hj, rfl, HL0, HL1, HL2, HL3, HKL⟩ := hrel
    by_cases hlt : j < 4
    · have HTP := Lib.hid (HKL.out.blk HTP.out (by omega))
      have HTQ := Lib.hid (HKL.out.blk HTQ.out (by omega))
      have hj5 : j = 0 ∨ j = 1 ∨ j = 2 ∨ j = 3 := by omega
      rcases hj5 with rfl | rfl | rfl | rfl
      · have HT0 := Lib.hid (HL0.out (by omega))
        have HQ0 := Lib.hid ((Rd.of_owns HOQ0.out).keep HKL.out (fun b hb h => by have := HFQ0.out b hb; omega))
        have HY1 := Lib.hid (HL1.out (by omega))
        have HY2 := Lib.hid (HL2.out (by omega))
        have HY3 := Lib.hid (HL3.out (by omega))
        have HKM := Lib.hid (Keep.refl noBlk wr)
        go_wp2_with fail
        obtain ⟨S, hS0⟩ : ∃ S : World → Prop, S = fun w' => Keep noBlk wr w' := ⟨_, rfl⟩
        have HSE := Lib.hid (show ∀ w', S w' → Keep noBlk wr w' from fun w' h => by rw [hS0] at h; exact h)
        have HSI := Lib.hid (show ∀ w', Keep noBlk wr w' → S w' from fun w' h => by rw [hS0]; exact h)
        have hS : S wr.drew := by rw [hS0]; exact (Keep.refl _ _).drew
        clear hS0
        refine wp_region_held (S := S) (by kernel_rfl) ?_
        change wpAnyH _ _ _ _ _ _ _ _ wr.drew
        generalize wr.drew = wq54 at hS ⊢
        refine wpAnyH_take (i := 0) (v := .slice (some ⟨s4, 0, none⟩) 4 4) rfl (by kernel_rfl) (by kernel_rfl) (by kernel_rfl) (fun _ _ _ h => h) (.inl ⟨by rfl, fun _ _ => rfl⟩) hS ?_
        simp only [Act.put, List.setIfInBounds_toArray, List.set_cons_zero, List.set_cons_succ, List.getElem_toArray, List.getElem_cons_zero]
        refine wpAnyH_take (i := 1) (v := .int .i64 0) rfl (by kernel_rfl) (by kernel_rfl) (by kernel_rfl) (fun _ _ _ h => h) (.inl ⟨by rfl, fun _ _ => rfl⟩) hS ?_
        simp only [Act.put, List.setIfInBounds_toArray, List.set_cons_zero, List.set_cons_succ, List.getElem_toArray, List.getElem_cons_succ, List.getElem_cons_zero]
        refine wpAnyH_take (i := 2) (v := .pointer (some ⟨s4, 0, none⟩)) rfl (by kernel_rfl) (by kernel_rfl) (by kernel_rfl) (fun _ _ _ h => h) (.inl ⟨by rfl, fun _ _ => by go_simp⟩) hS ?_
        simp only [Act.put, List.setIfInBounds_toArray, List.set_cons_zero, List.set_cons_succ, List.getElem_toArray, List.getElem_cons_succ, List.getElem_cons_zero]
        refine wpAnyH_take (i := 3) (v := .slice aP0 n0 cP0) rfl (by kernel_rfl) (by kernel_rfl) (by kernel_rfl) (fun _ _ _ h => h) (.inl ⟨by rfl, fun w' hw' => by have c := (HSE.out w' hw').cell (blk_cell HTP.out (i := 0) rfl) id; go_simp⟩) hS ?_
        simp only [Act.put, List.setIfInBounds_toArray, List.set_cons_zero, List.set_cons_succ, List.getElem_toArray, List.getElem_cons_succ, List.getElem_cons_zero]
        refine wpAnyH_take (i := 4) (v := .slice (some ⟨s9, 0, none⟩) 4 4) rfl (by kernel_rfl) (by kernel_rfl) (by kernel_rfl) (fun _ _ _ h => h) (.inl ⟨by rfl, fun _ _ => rfl⟩) hS ?_
        simp only [Act.put, List.setIfInBounds_toArray, List.set_cons_zero, List.set_cons_succ, List.getElem_toArray, List.getElem_cons_succ, List.getElem_cons_zero]
        refine wpAnyH_take (i := 5) (v := .int .i64 0) rfl (by kernel_rfl) (by kernel_rfl) (by kernel_rfl) (fun _ _ _ h => h) (.inl ⟨by rfl, fun _ _ => rfl⟩) hS ?_
        simp only [Act.put, List.setIfInBounds_toArray, List.set_cons_zero, List.set_cons_succ, List.getElem_toArray, List.getElem_cons_succ, List.getElem_cons_zero]
        refine wpAnyH_take (i := 6) (v := .pointer (some ⟨s9, 0, none⟩)) rfl (by kernel_rfl) (by kernel_rfl) (by kernel_rfl) (fun _ _ _ h => h) (.inl ⟨by rfl, fun _ _ => by go_simp⟩) hS ?_
        simp only [Act.put, List.setIfInBounds_toArray, List.set_cons_zero, List.set_cons_succ, List.getElem_toArray, List.getElem_cons_succ, List.getElem_cons_zero]
        refine wpAnyH_take (i := 7) (v := .slice aQ0 n0 cQ0) rfl (by kernel_rfl) (by kernel_rfl) (by kernel_rfl) (fun _ _ _ h => h) (.inl ⟨by rfl, fun w' hw' => by have c := (HSE.out w' hw').cell (blk_cell HTQ.out (i := 0) rfl) id; go_simp⟩) hS ?_
        simp only [Act.put, List.setIfInBounds_toArray, List.set_cons_zero, List.set_cons_succ, List.getElem_toArray, List.getElem_cons_succ, List.getElem_cons_zero]
        refine wpAnyH_one (k := 8) rfl (by kernel_rfl) ?_
        go_wp2_with fail
        refine (same_any _ _ _ U0 U0 (by rw [HN0.out]; exact (Rd.of_owns HT0.out).keep (HSE.out _ hS) fun _ _ => id) (by rw [HN0.out]; exact HQ0.out.keep (HSE.out _ hS) fun _ _ => id) true (decide_eq_true rfl)).mono ?_
        rintro e wq55 ⟨rfl, hk⟩
        have hS1 := HSI.out _ ((HSE.out _ hS).trans hk)
        clear hS hk
        go_wp2_with fail
        refine ⟨hS1, ?_⟩
        refine wpAnyH_take (i := 9) (v := .bool false) rfl (by kernel_rfl) (by kernel_rfl) (by kernel_rfl) (fun _ _ _ h => h) (.inl ⟨by rfl, fun _ _ => by go_simp⟩) hS1 ?_
        simp only [Act.put, List.setIfInBounds_toArray, List.set_cons_zero, List.set_cons_succ, List.getElem_toArray, List.getElem_cons_succ, List.getElem_cons_zero]
        refine wpAnyH_done (by kernel_rfl) ?_ _
        have HKR := Lib.hid (HSE.out _ hS1)
        clear hS1 HSE HSI
        have HTP := Lib.hid (HKR.out.blk HTP.out id)
        have HTQ := Lib.hid (HKR.out.blk HTQ.out id)
        have HY1 := Lib.hid (HKR.out.owns HY1.out fun _ _ => id)
        have HY2 := Lib.hid (HKR.out.owns HY2.out fun _ _ => id)
        have HY3 := Lib.hid (HKR.out.owns HY3.out fun _ _ => id)
        have HT0 := Lib.hid (HKR.out.owns HT0.out fun _ _ => id)
        have HQ0 := Lib.hid (HQ0.out.keep HKR.out fun _ _ => id)
        have HKM := Lib.hid (HKM.out.trans HKR.out)
        have hct := blk_cell HTP.out (i := 0) rfl
        go_wp2_with fail
        refine (over_any _ _ n0 _ _ HT0.out).mono ?_
        rintro e wo ⟨rfl, hko⟩
        have HY1 := Lib.hid (hko.owns HY1.out (fun b hb e => by have := HFP1.out b hb; have := HFP0.out b e; omega))
        have HY2 := Lib.hid (hko.owns HY2.out (fun b hb e => by have := HFP2.out b hb; have := HFP0.out b e; omega))
        have HY3 := Lib.hid (hko.owns HY3.out (fun b hb e => by have := HFP3.out b hb; have := HFP0.out b e; omega))
        have HKE := Lib.hid ((HKL.out.trans' HKM.out (U := fun k => s0 ≤ k ∧ k < s4) (fun _ _ h => h) (fun _ _ h => h.elim)).trans' hko (U := fun k => s0 ≤ k ∧ k < s4) (fun _ _ h => h) (fun b _ e => by have := HFP0.out b e; omega))
        clear hko hct
        go_wp2_with fail
        go_roundw
        case rel => exact ⟨1, by omega, by go_num, Lib.hid (fun h => absurd h (by omega)), Lib.hid (fun _ => HY1.out), Lib.hid (fun _ => HY2.out), Lib.hid (fun _ => HY3.out), HKE⟩
        case measure => simp [intOf]
      · have HT1 := Lib.hid (HL1.out (by omega))
        have HQ1 := Lib.hid ((Rd.of_owns HOQ1.out).keep HKL.out (fun b hb h => by have := HFQ1.out b hb; omega))
        have HY2 := Lib.hid (HL2.out (by omega))
        have HY3 := Lib.hid (HL3.out (by omega))
        have HKM := Lib.hid (Keep.refl noBlk wr)
        go_wp2_with fail
        obtain ⟨S, hS0⟩ : ∃ S : World → Prop, S = fun w' => Keep noBlk wr w' := ⟨_, rfl⟩
        have HSE := Lib.hid (show ∀ w', S w' → Keep noBlk wr w' from fun w' h => by rw [hS0] at h; exact h)
        have HSI := Lib.hid (show ∀ w', Keep noBlk wr w' → S w' from fun w' h => by rw [hS0]; exact h)
        have hS : S wr.drew := by rw [hS0]; exact (Keep.refl _ _).drew
        clear hS0
        refine wp_region_held (S := S) (by kernel_rfl) ?_
        change wpAnyH _ _ _ _ _ _ _ _ wr.drew
        generalize wr.drew = wq54 at hS ⊢
        refine wpAnyH_take (i := 0) (v := .slice (some ⟨s4, 0, none⟩) 4 4) rfl (by kernel_rfl) (by kernel_rfl) (by kernel_rfl) (fun _ _ _ h => h) (.inl ⟨by rfl, fun _ _ => rfl⟩) hS ?_
        simp only [Act.put, List.setIfInBounds_toArray, List.set_cons_zero, List.set_cons_succ, List.getElem_toArray, List.getElem_cons_zero]
        refine wpAnyH_take (i := 1) (v := .int .i64 1) rfl (by kernel_rfl) (by kernel_rfl) (by kernel_rfl) (fun _ _ _ h => h) (.inl ⟨by rfl, fun _ _ => rfl⟩) hS ?_
        simp only [Act.put, List.setIfInBounds_toArray, List.set_cons_zero, List.set_cons_succ, List.getElem_toArray, List.getElem_cons_succ, List.getElem_cons_zero]
        refine wpAnyH_take (i := 2) (v := .pointer (some ⟨s4, 1, none⟩)) rfl (by kernel_rfl) (by kernel_rfl) (by kernel_rfl) (fun _ _ _ h => h) (.inl ⟨by rfl, fun _ _ => by go_simp⟩) hS ?_
        simp only [Act.put, List.setIfInBounds_toArray, List.set_cons_zero, List.set_cons_succ, List.getElem_toArray, List.getElem_cons_succ, List.getElem_cons_zero]
        refine wpAnyH_take (i := 3) (v := .slice aP1 n1 cP1) rfl (by kernel_rfl) (by kernel_rfl) (by kernel_rfl) (fun _ _ _ h => h) (.inl ⟨by rfl, fun w' hw' => by have c := (HSE.out w' hw').cell (blk_cell HTP.out (i := 1) rfl) id; go_simp⟩) hS ?_
        simp only [Act.put, List.setIfInBounds_toArray, List.set_cons_zero, List.set_cons_succ, List.getElem_toArray, List.getElem_cons_succ, List.getElem_cons_zero]
        refine wpAnyH_take (i := 4) (v := .slice (some ⟨s9, 0, none⟩) 4 4) rfl (by kernel_rfl) (by kernel_rfl) (by kernel_rfl) (fun _ _ _ h => h) (.inl ⟨by rfl, fun _ _ => rfl⟩) hS ?_
        simp only [Act.put, List.setIfInBounds_toArray, List.set_cons_zero, List.set_cons_succ, List.getElem_toArray, List.getElem_cons_succ, List.getElem_cons_zero]
        refine wpAnyH_take (i := 5) (v := .int .i64 1) rfl (by kernel_rfl) (by kernel_rfl) (by kernel_rfl) (fun _ _ _ h => h) (.inl ⟨by rfl, fun _ _ => rfl⟩) hS ?_
        simp only [Act.put, List.setIfInBounds_toArray, List.set_cons_zero, List.set_cons_succ, List.getElem_toArray, List.getElem_cons_succ, List.getElem_cons_zero]
        refine wpAnyH_take (i := 6) (v := .pointer (some ⟨s9, 1, none⟩)) rfl (by kernel_rfl) (by kernel_rfl) (by kernel_rfl) (fun _ _ _ h => h) (.inl ⟨by rfl, fun _ _ => by go_simp⟩) hS ?_
        simp only [Act.put, List.setIfInBounds_toArray, List.set_cons_zero, List.set_cons_succ, List.getElem_toArray, List.getElem_cons_succ, List.getElem_cons_zero]
        refine wpAnyH_take (i := 7) (v := .slice aQ1 n1 cQ1) rfl (by kernel_rfl) (by kernel_rfl) (by kernel_rfl) (fun _ _ _ h => h) (.inl ⟨by rfl, fun w' hw' => by have c := (HSE.out w' hw').cell (blk_cell HTQ.out (i := 1) rfl) id; go_simp⟩) hS ?_
        simp only [Act.put, List.setIfInBounds_toArray, List.set_cons_zero, List.set_cons_succ, List.getElem_toArray, List.getElem_cons_succ, List.getElem_cons_zero]
        refine wpAnyH_one (k := 8) rfl (by kernel_rfl) ?_
        go_wp2_with fail
        refine (same_any _ _ _ U1 U1 (by rw [HN1.out]; exact (Rd.of_owns HT1.out).keep (HSE.out _ hS) fun _ _ => id) (by rw [HN1.out]; exact HQ1.out.keep (HSE.out _ hS) fun _ _ => id) true (decide_eq_true rfl)).mono ?_
        rintro e wq55 ⟨rfl, hk⟩
        have hS1 := HSI.out _ ((HSE.out _ hS).trans hk)
        clear hS hk
        go_wp2_with fail
        refine ⟨hS1, ?_⟩
        refine wpAnyH_take (i := 9) (v := .bool false) rfl (by kernel_rfl) (by kernel_rfl) (by kernel_rfl) (fun _ _ _ h => h) (.inl ⟨by rfl, fun _ _ => by go_simp⟩) hS1 ?_
        simp only [Act.put, List.setIfInBounds_toArray, List.set_cons_zero, List.set_cons_succ, List.getElem_toArray, List.getElem_cons_succ, List.getElem_cons_zero]
        refine wpAnyH_done (by kernel_rfl) ?_ _
        have HKR := Lib.hid (HSE.out _ hS1)
        clear hS1 HSE HSI
        have HTP := Lib.hid (HKR.out.blk HTP.out id)
        have HTQ := Lib.hid (HKR.out.blk HTQ.out id)
        have HY2 := Lib.hid (HKR.out.owns HY2.out fun _ _ => id)
        have HY3 := Lib.hid (HKR.out.owns HY3.out fun _ _ => id)
        have HT1 := Lib.hid (HKR.out.owns HT1.out fun _ _ => id)
        have HQ1 := Lib.hid (HQ1.out.keep HKR.out fun _ _ => id)
        have HKM := Lib.hid (HKM.out.trans HKR.out)
        have hct := blk_cell HTP.out (i := 1) rfl
        go_wp2_with fail
        refine (over_any _ _ n1 _ _ HT1.out).mono ?_
        rintro e wo ⟨rfl, hko⟩
        have HY2 := Lib.hid (hko.owns HY2.out (fun b hb e => by have := HFP2.out b hb; have := HFP1.out b e; omega))
        have HY3 := Lib.hid (hko.owns HY3.out (fun b hb e => by have := HFP3.out b hb; have := HFP1.out b e; omega))
        have HKE := Lib.hid ((HKL.out.trans' HKM.out (U := fun k => s0 ≤ k ∧ k < s4) (fun _ _ h => h) (fun _ _ h => h.elim)).trans' hko (U := fun k => s0 ≤ k ∧ k < s4) (fun _ _ h => h) (fun b _ e => by have := HFP1.out b e; omega))
        clear hko hct
        go_wp2_with fail
        go_roundw
        case rel => exact ⟨2, by omega, by go_num, Lib.hid (fun h => absurd h (by omega)), Lib.hid (fun h => absurd h (by omega)), Lib.hid (fun _ => HY2.out), Lib.hid (fun _ => HY3.out), HKE⟩
        case measure => simp [intOf]
      · have HT2 := Lib.hid (HL2.out (by omega))
        have HQ2 := Lib.hid ((Rd.of_owns HOQ2.out).keep HKL.out (fun b hb h => by have := HFQ2.out b hb; omega))
        have HY3 := Lib.hid (HL3.out (by omega))
        have HKM := Lib.hid (Keep.refl noBlk wr)
        go_wp2_with fail
        obtain ⟨S, hS0⟩ : ∃ S : World → Prop, S = fun w' => Keep noBlk wr w' := ⟨_, rfl⟩
        have HSE := Lib.hid (show ∀ w', S w' → Keep noBlk wr w' from fun w' h => by rw [hS0] at h; exact h)
        have HSI := Lib.hid (show ∀ w', Keep noBlk wr w' → S w' from fun w' h => by rw [hS0]; exact h)
        have hS : S wr.drew := by rw [hS0]; exact (Keep.refl _ _).drew
        clear hS0
        refine wp_region_held (S := S) (by kernel_rfl) ?_
        change wpAnyH _ _ _ _ _ _ _ _ wr.drew
        generalize wr.drew = wq54 at hS ⊢
        refine wpAnyH_take (i := 0) (v := .slice (some ⟨s4, 0, none⟩) 4 4) rfl (by kernel_rfl) (by kernel_rfl) (by kernel_rfl) (fun _ _ _ h => h) (.inl ⟨by rfl, fun _ _ => rfl⟩) hS ?_
        simp only [Act.put, List.setIfInBounds_toArray, List.set_cons_zero, List.set_cons_succ, List.getElem_toArray, List.getElem_cons_zero]
        refine wpAnyH_take (i := 1) (v := .int .i64 2) rfl (by kernel_rfl) (by kernel_rfl) (by kernel_rfl) (fun _ _ _ h => h) (.inl ⟨by rfl, fun _ _ => rfl⟩) hS ?_
        simp only [Act.put, List.setIfInBounds_toArray, List.set_cons_zero, List.set_cons_succ, List.getElem_toArray, List.getElem_cons_succ, List.getElem_cons_zero]
        refine wpAnyH_take (i := 2) (v := .pointer (some ⟨s4, 2, none⟩)) rfl (by kernel_rfl) (by kernel_rfl) (by kernel_rfl) (fun _ _ _ h => h) (.inl ⟨by rfl, fun _ _ => by go_simp⟩) hS ?_
        simp only [Act.put, List.setIfInBounds_toArray, List.set_cons_zero, List.set_cons_succ, List.getElem_toArray, List.getElem_cons_succ, List.getElem_cons_zero]
        refine wpAnyH_take (i := 3) (v := .slice aP2 n2 cP2) rfl (by kernel_rfl) (by kernel_rfl) (by kernel_rfl) (fun _ _ _ h => h) (.inl ⟨by rfl, fun w' hw' => by have c := (HSE.out w' hw').cell (blk_cell HTP.out (i := 2) rfl) id; go_simp⟩) hS ?_
        simp only [Act.put, List.setIfInBounds_toArray, List.set_cons_zero, List.set_cons_succ, List.getElem_toArray, List.getElem_cons_succ, List.getElem_cons_zero]
        refine wpAnyH_take (i := 4) (v := .slice (some ⟨s9, 0, none⟩) 4 4) rfl (by kernel_rfl) (by kernel_rfl) (by kernel_rfl) (fun _ _ _ h => h) (.inl ⟨by rfl, fun _ _ => rfl⟩) hS ?_
        simp only [Act.put, List.setIfInBounds_toArray, List.set_cons_zero, List.set_cons_succ, List.getElem_toArray, List.getElem_cons_succ, List.getElem_cons_zero]
        refine wpAnyH_take (i := 5) (v := .int .i64 2) rfl (by kernel_rfl) (by kernel_rfl) (by kernel_rfl) (fun _ _ _ h => h) (.inl ⟨by rfl, fun _ _ => rfl⟩) hS ?_
        simp only [Act.put, List.setIfInBounds_toArray, List.set_cons_zero, List.set_cons_succ, List.getElem_toArray, List.getElem_cons_succ, List.getElem_cons_zero]
        refine wpAnyH_take (i := 6) (v := .pointer (some ⟨s9, 2, none⟩)) rfl (by kernel_rfl) (by kernel_rfl) (by kernel_rfl) (fun _ _ _ h => h) (.inl ⟨by rfl, fun _ _ => by go_simp⟩) hS ?_
        simp only [Act.put, List.setIfInBounds_toArray, List.set_cons_zero, List.set_cons_succ, List.getElem_toArray, List.getElem_cons_succ, List.getElem_cons_zero]
        refine wpAnyH_take (i := 7) (v := .slice aQ2 n2 cQ2) rfl (by kernel_rfl) (by kernel_rfl) (by kernel_rfl) (fun _ _ _ h => h) (.inl ⟨by rfl, fun w' hw' => by have c := (HSE.out w' hw').cell (blk_cell HTQ.out (i := 2) rfl) id; go_simp⟩) hS ?_
        simp only [Act.put, List.setIfInBounds_toArray, List.set_cons_zero, List.set_cons_succ, List.getElem_toArray, List.getElem_cons_succ, List.getElem_cons_zero]
        refine wpAnyH_one (k := 8) rfl (by kernel_rfl) ?_
        go_wp2_with fail
        refine (same_any _ _ _ U2 U2 (by rw [HN2.out]; exact (Rd.of_owns HT2.out).keep (HSE.out _ hS) fun _ _ => id) (by rw [HN2.out]; exact HQ2.out.keep (HSE.out _ hS) fun _ _ => id) true (decide_eq_true rfl)).mono ?_
        rintro e wq55 ⟨rfl, hk⟩
        have hS1 := HSI.out _ ((HSE.out _ hS).trans hk)
        clear hS hk
        go_wp2_with fail
        refine ⟨hS1, ?_⟩
        refine wpAnyH_take (i := 9) (v := .bool false) rfl (by kernel_rfl) (by kernel_rfl) (by kernel_rfl) (fun _ _ _ h => h) (.inl ⟨by rfl, fun _ _ => by go_simp⟩) hS1 ?_
        simp only [Act.put, List.setIfInBounds_toArray, List.set_cons_zero, List.set_cons_succ, List.getElem_toArray, List.getElem_cons_succ, List.getElem_cons_zero]
        refine wpAnyH_done (by kernel_rfl) ?_ _
        have HKR := Lib.hid (HSE.out _ hS1)
        clear hS1 HSE HSI
        have HTP := Lib.hid (HKR.out.blk HTP.out id)
        have HTQ := Lib.hid (HKR.out.blk HTQ.out id)
        have HY3 := Lib.hid (HKR.out.owns HY3.out fun _ _ => id)
        have HT2 := Lib.hid (HKR.out.owns HT2.out fun _ _ => id)
        have HQ2 := Lib.hid (HQ2.out.keep HKR.out fun _ _ => id)
        have HKM := Lib.hid (HKM.out.trans HKR.out)
        have hct := blk_cell HTP.out (i := 2) rfl
        go_wp2_with fail
        refine (over_any _ _ n2 _ _ HT2.out).mono ?_
        rintro e wo ⟨rfl, hko⟩
        have HY3 := Lib.hid (hko.owns HY3.out (fun b hb e => by have := HFP3.out b hb; have := HFP2.out b e; omega))
        have HKE := Lib.hid ((HKL.out.trans' HKM.out (U := fun k => s0 ≤ k ∧ k < s4) (fun _ _ h => h) (fun _ _ h => h.elim)).trans' hko (U := fun k => s0 ≤ k ∧ k < s4) (fun _ _ h => h) (fun b _ e => by have := HFP2.out b e; omega))
        clear hko hct
        go_wp2_with fail
        go_roundw
        case rel => exact ⟨3, by omega, by go_num, Lib.hid (fun h => absurd h (by omega)), Lib.hid (fun h => absurd h (by omega)), Lib.hid (fun h => absurd h (by omega)), Lib.hid (fun _ => HY3.out), HKE⟩
        case measure => simp [intOf]
      · have HT3 := Lib.hid (HL3.out (by omega))
        have HQ3 := Lib.hid ((Rd.of_owns HOQ3.out).keep HKL.out (fun b hb h => by have := HFQ3.out b hb; omega))
        have HKM := Lib.hid (Keep.refl noBlk wr)
        go_wp2_with fail
        obtain ⟨S, hS0⟩ : ∃ S : World → Prop, S = fun w' => Keep noBlk wr w' := ⟨_, rfl⟩
        have HSE := Lib.hid (show ∀ w', S w' → Keep noBlk wr w' from fun w' h => by rw [hS0] at h; exact h)
        have HSI := Lib.hid (show ∀ w', Keep noBlk wr w' → S w' from fun w' h => by rw [hS0]; exact h)
        have hS : S wr.drew := by rw [hS0]; exact (Keep.refl _ _).drew
        clear hS0
        refine wp_region_held (S := S) (by kernel_rfl) ?_
        change wpAnyH _ _ _ _ _ _ _ _ wr.drew
        generalize wr.drew = wq54 at hS ⊢
        refine wpAnyH_take (i := 0) (v := .slice (some ⟨s4, 0, none⟩) 4 4) rfl (by kernel_rfl) (by kernel_rfl) (by kernel_rfl) (fun _ _ _ h => h) (.inl ⟨by rfl, fun _ _ => rfl⟩) hS ?_
        simp only [Act.put, List.setIfInBounds_toArray, List.set_cons_zero, List.set_cons_succ, List.getElem_toArray, List.getElem_cons_zero]
        refine wpAnyH_take (i := 1) (v := .int .i64 3) rfl (by kernel_rfl) (by kernel_rfl) (by kernel_rfl) (fun _ _ _ h => h) (.inl ⟨by rfl, fun _ _ => rfl⟩) hS ?_
        simp only [Act.put, List.setIfInBounds_toArray, List.set_cons_zero, List.set_cons_succ, List.getElem_toArray, List.getElem_cons_succ, List.getElem_cons_zero]
        refine wpAnyH_take (i := 2) (v := .pointer (some ⟨s4, 3, none⟩)) rfl (by kernel_rfl) (by kernel_rfl) (by kernel_rfl) (fun _ _ _ h => h) (.inl ⟨by rfl, fun _ _ => by go_simp⟩) hS ?_
        simp only [Act.put, List.setIfInBounds_toArray, List.set_cons_zero, List.set_cons_succ, List.getElem_toArray, List.getElem_cons_succ, List.getElem_cons_zero]
        refine wpAnyH_take (i := 3) (v := .slice aP3 n3 cP3) rfl (by kernel_rfl) (by kernel_rfl) (by kernel_rfl) (fun _ _ _ h => h) (.inl ⟨by rfl, fun w' hw' => by have c := (HSE.out w' hw').cell (blk_cell HTP.out (i := 3) rfl) id; go_simp⟩) hS ?_
        simp only [Act.put, List.setIfInBounds_toArray, List.set_cons_zero, List.set_cons_succ, List.getElem_toArray, List.getElem_cons_succ, List.getElem_cons_zero]
        refine wpAnyH_take (i := 4) (v := .slice (some ⟨s9, 0, none⟩) 4 4) rfl (by kernel_rfl) (by kernel_rfl) (by kernel_rfl) (fun _ _ _ h => h) (.inl ⟨by rfl, fun _ _ => rfl⟩) hS ?_
        simp only [Act.put, List.setIfInBounds_toArray, List.set_cons_zero, List.set_cons_succ, List.getElem_toArray, List.getElem_cons_succ, List.getElem_cons_zero]
        refine wpAnyH_take (i := 5) (v := .int .i64 3) rfl (by kernel_rfl) (by kernel_rfl) (by kernel_rfl) (fun _ _ _ h => h) (.inl ⟨by rfl, fun _ _ => rfl⟩) hS ?_
        simp only [Act.put, List.setIfInBounds_toArray, List.set_cons_zero, List.set_cons_succ, List.getElem_toArray, List.getElem_cons_succ, List.getElem_cons_zero]
        refine wpAnyH_take (i := 6) (v := .pointer (some ⟨s9, 3, none⟩)) rfl (by kernel_rfl) (by kernel_rfl) (by kernel_rfl) (fun _ _ _ h => h) (.inl ⟨by rfl, fun _ _ => by go_simp⟩) hS ?_
        simp only [Act.put, List.setIfInBounds_toArray, List.set_cons_zero, List.set_cons_succ, List.getElem_toArray, List.getElem_cons_succ, List.getElem_cons_zero]
        refine wpAnyH_take (i := 7) (v := .slice aQ3 n3 cQ3) rfl (by kernel_rfl) (by kernel_rfl) (by kernel_rfl) (fun _ _ _ h => h) (.inl ⟨by rfl, fun w' hw' => by have c := (HSE.out w' hw').cell (blk_cell HTQ.out (i := 3) rfl) id; go_simp⟩) hS ?_
        simp only [Act.put, List.setIfInBounds_toArray, List.set_cons_zero, List.set_cons_succ, List.getElem_toArray, List.getElem_cons_succ, List.getElem_cons_zero]
        refine wpAnyH_one (k := 8) rfl (by kernel_rfl) ?_
        go_wp2_with fail
        refine (same_any _ _ _ U3 U3 (by rw [HN3.out]; exact (Rd.of_owns HT3.out).keep (HSE.out _ hS) fun _ _ => id) (by rw [HN3.out]; exact HQ3.out.keep (HSE.out _ hS) fun _ _ => id) true (decide_eq_true rfl)).mono ?_
        rintro e wq55 ⟨rfl, hk⟩
        have hS1 := HSI.out _ ((HSE.out _ hS).trans hk)
        clear hS hk
        go_wp2_with fail
        refine ⟨hS1, ?_⟩
        refine wpAnyH_take (i := 9) (v := .bool false) rfl (by kernel_rfl) (by kernel_rfl) (by kernel_rfl) (fun _ _ _ h => h) (.inl ⟨by rfl, fun _ _ => by go_simp⟩) hS1 ?_
        simp only [Act.put, List.setIfInBounds_toArray, List.set_cons_zero, List.set_cons_succ, List.getElem_toArray, List.getElem_cons_succ, List.getElem_cons_zero]
        refine wpAnyH_done (by kernel_rfl) ?_ _
        have HKR := Lib.hid (HSE.out _ hS1)
        clear hS1 HSE HSI
        have HTP := Lib.hid (HKR.out.blk HTP.out id)
        have HTQ := Lib.hid (HKR.out.blk HTQ.out id)
        have HT3 := Lib.hid (HKR.out.owns HT3.out fun _ _ => id)
        have HQ3 := Lib.hid (HQ3.out.keep HKR.out fun _ _ => id)
        have HKM := Lib.hid (HKM.out.trans HKR.out)
        have hct := blk_cell HTP.out (i := 3) rfl
        go_wp2_with fail
        refine (over_any _ _ n3 _ _ HT3.out).mono ?_
        rintro e wo ⟨rfl, hko⟩
        skip
        have HKE := Lib.hid ((HKL.out.trans' HKM.out (U := fun k => s0 ≤ k ∧ k < s4) (fun _ _ h => h) (fun _ _ h => h.elim)).trans' hko (U := fun k => s0 ≤ k ∧ k < s4) (fun _ _ h => h) (fun b _ e => by have := HFP3.out b e; omega))
        clear hko hct
        go_wp2_with fail
        go_roundw
        case rel => exact ⟨4, by omega, by go_num, Lib.hid (fun h => absurd h (by omega)), Lib.hid (fun h => absurd h (by omega)), Lib.hid (fun h => absurd h (by omega)), Lib.hid (fun h => absurd h (by omega)), HKE⟩
        case measure => simp [intOf]
    · obtain rfl : j = 4 := by omega
      have HKL2 := Lib.hid (HKZ.out.trans' HKL.out (U := fun k => s0 ≤ k ∧ k < s4) (fun _ _ h => h.elim) (fun _ _ h => h))
      have hfar : ∀ k, k < wA.heap.size → ¬ (s0 ≤ k ∧ k < s4) := fun k hk => by have := HS0.out; omega
      have HR := Lib.hid (HRA0.out.keep_far HKL2.out hfar); have HRD := Lib.hid (HRDA0.out.keep_far HKL2.out hfar)
      have HRI := Lib.hid (HRIA0.out.keep_far HKL2.out hfar); have HLG := Lib.hid (HLGA0.out.keep HKL2.out (by omega))
      have HBX := Lib.hid (HKL2.out.blk HBXA0.out (by omega))
      have HK := Lib.hid (HKA0.out.trans' HKL2.out (U := noBlk) (fun _ _ h => h) (fun i hi h => by omega))
      obtain ⟨hl, hhl⟩ : ∃ l, hoL hs x hs.length = l := ⟨_, rfl⟩
      have HHL := Lib.hid hhl
      obtain ⟨hn, hhn⟩ : ∃ k, hl.length = k := ⟨_, rfl⟩
      have HHN := Lib.hid hhn
      obtain ⟨rc, hrc⟩ : ∃ k, (canon (hs.flatten.filter fun a => refB hs.length i (hw hs a))).length = k := ⟨_, rfl⟩
      have HRC := Lib.hid hrc
      clear hfar hhl hhn hrc HKL HKL2
      go_wp2_with (first
        | ((with_reducible show wpList _ _ _ (⟨_, .load 25 _, _, _, _, _⟩ :: _) _ _); refine wpList_load_mid rfl 25 _ rfl w.heap.size 0 rfl (adCs x) _ (rangeAt_whole HBX.out) adUnder rfl sizeAd ?_))
      refine (holders_any _ (.slice ia n ic) hs x HXO.out HOK.out HRI.out H20.out).mono ?_
      rintro e wq54 ⟨v, rfl, ho2, hk2⟩
      rw [HHL.out, HHN.out] at ho2
      obtain ⟨aW1, cW1, hvW1, -, -⟩ := (Rd.of_owns ho2).form
      subst hvW1
      have HRW1 := Lib.hid (Rd.of_owns ho2)
      clear ho2
      have HR := Lib.hid (HR.out.keep hk2)
      have HRD := Lib.hid (HRD.out.keep hk2 fun _ _ => id)
      have HRI := Lib.hid (HRI.out.keep hk2)
      have HLG := Lib.hid (HLG.out.keep hk2 id)
      have HBX := Lib.hid (hk2.blk HBX.out id)
      have HK := Lib.hid (HK.out.trans hk2)
      clear hk2
      go_wp2_with fail
      refine (referenced_any _ (.slice ia n ic) hs i HOK.out HRI.out H20.out (by have := HF.out; omega)).mono ?_
      rintro e wq55 ⟨rfl, hk⟩
      rw [HRC.out]
      have HR := Lib.hid (HR.out.keep hk)
      have HRD := Lib.hid (HRD.out.keep hk fun _ _ => id)
      have HRI := Lib.hid (HRI.out.keep hk)
      have HLG := Lib.hid (HLG.out.keep hk id)
      have HBX := Lib.hid (hk.blk HBX.out id)
      have HK := Lib.hid (HK.out.trans hk)
      have HRW1 := Lib.hid (HRW1.out.keep hk fun _ _ => id)
      clear hk
      go_wp2_with fail
      refine (rreferenced_any _ (.slice oa n ca) hs i HR.out H20.out H100.out).mono ?_
      rintro e wq56 ⟨rfl, hk⟩
      rw [HRC.out]
      have HR := Lib.hid (HR.out.keep hk)
      have HRD := Lib.hid (HRD.out.keep hk fun _ _ => id)
      have HRI := Lib.hid (HRI.out.keep hk)
      have HLG := Lib.hid (HLG.out.keep hk id)
      have HBX := Lib.hid (hk.blk HBX.out id)
      have HK := Lib.hid (HK.out.trans hk)
      have HRW1 := Lib.hid (HRW1.out.keep hk fun _ _ => id)
      clear hk
      go_wp2_with (first
        | ((with_reducible show wpList _ _ _ (⟨_, .load 25 _, _, _, _, _⟩ :: _) _ _); refine wpList_load_g (by rfl) 25 _ rfl w.heap.size 0 rfl (adCs x) _ (rangeAt_whole HBX.out) adUnder rfl sizeAd ?_))
      refine (rholders_any _ (.slice oa n ca) hs x HR.out H20.out).mono ?_
      rintro e wq57 ⟨v, rfl, ho2, hk2⟩
      rw [HHL.out, HHN.out] at ho2
      obtain ⟨aW2, cW2, hvW2, -, -⟩ := (Rd.of_owns ho2).form
      subst hvW2
      have HRW2 := Lib.hid (Rd.of_owns ho2)
      clear ho2
      have HR := Lib.hid (HR.out.keep hk2)
      have HRD := Lib.hid (HRD.out.keep hk2 fun _ _ => id)
      have HRI := Lib.hid (HRI.out.keep hk2)
      have HLG := Lib.hid (HLG.out.keep hk2 id)
      have HBX := Lib.hid (hk2.blk HBX.out id)
      have HK := Lib.hid (HK.out.trans hk2)
      have HRW1 := Lib.hid (HRW1.out.keep hk2 fun _ _ => id)
      clear hk2
      go_wp2_with fail
      refine (yes_of (sameInts_any _ _ _ hl hl (by rw [HHN.out]; exact HRW1.out) (by rw [HHN.out]; exact HRW2.out)) (decide_eq_true rfl)).mono ?_
      rintro e wq58 ⟨rfl, hk⟩
      have HR := Lib.hid (HR.out.keep hk)
      have HRD := Lib.hid (HRD.out.keep hk fun _ _ => id)
      have HRI := Lib.hid (HRI.out.keep hk)
      have HLG := Lib.hid (HLG.out.keep hk id)
      have HBX := Lib.hid (hk.blk HBX.out id)
      have HK := Lib.hid (HK.out.trans hk)
      have HRW1 := Lib.hid (HRW1.out.keep hk fun _ _ => id)
      have HRW2 := Lib.hid (HRW2.out.keep hk fun _ _ => id)
      clear hk
      go_wp2_with fail
      refine (kept_u _ (.slice ia n ic) (.slice oa n ca) hs HRI.out HR.out H20.out).mono ?_
      rintro e wq59 ⟨rfl, hk⟩
      have HR := Lib.hid (HR.out.keep hk)
      have HRD := Lib.hid (HRD.out.keep hk fun _ _ => id)
      have HRI := Lib.hid (HRI.out.keep hk)
      have HLG := Lib.hid (HLG.out.keep hk id)
      have HBX := Lib.hid (hk.blk HBX.out id)
      have HK := Lib.hid (HK.out.trans hk)
      have HRW1 := Lib.hid (HRW1.out.keep hk fun _ _ => id)
      have HRW2 := Lib.hid (HRW2.out.keep hk fun _ _ => id)
      clear hk
      go_wp2_with fail
      have hkl := keptI_any wq59 (.slice da dn dc) dr (by rw [HND.out]; exact HRD.out) (by have := H40.out; omega) lg HLG.out
      rw [HND.out] at hkl
      have HKI := Lib.hid hkl
      clear hkl
      refine (HKI.out).mono ?_
      rintro e wq60 ⟨rfl, hk⟩
      have HR := Lib.hid (HR.out.keep hk)
      have HRD := Lib.hid (HRD.out.keep hk fun _ _ => id)
      have HRI := Lib.hid (HRI.out.keep hk)
      have HLG := Lib.hid (HLG.out.keep hk id)
      have HBX := Lib.hid (hk.blk HBX.out id)
      have HK := Lib.hid (HK.out.trans hk)
      have HRW1 := Lib.hid (HRW1.out.keep hk fun _ _ => id)
      have HRW2 := Lib.hid (HRW2.out.keep hk fun _ _ => id)
      clear hk
      clear HKI
      go_wp2_with fail
      refine (CW.out _).mono ?_
      rintro e wq61 ⟨rfl, hk⟩
      have HR := Lib.hid (HR.out.keep hk)
      have HRD := Lib.hid (HRD.out.keep hk fun _ _ => id)
      have HRI := Lib.hid (HRI.out.keep hk)
      have HLG := Lib.hid (HLG.out.keep hk id)
      have HBX := Lib.hid (hk.blk HBX.out id)
      have HK := Lib.hid (HK.out.trans hk)
      have HRW1 := Lib.hid (HRW1.out.keep hk fun _ _ => id)
      have HRW2 := Lib.hid (HRW2.out.keep hk fun _ _ => id)
      clear hk
      go_wp2_with fail
      go_ret
      exact ⟨rfl, HK.out⟩
  · go_wp2_with fail
    refine (CW.out _).mono ?_
    rintro e wq42 ⟨rfl, hk⟩
    have HBX := Lib.hid (hk.blk HBX.out id)
    have HK := Lib.hid (HK.out.trans hk)
    have HR := Lib.hid (HR.out.keep hk)
    have HRD := Lib.hid (HRD.out.keep hk fun _ _ => id)
    clear hk
    go_wp2_with fail
    go_ret
    exact ⟨rfl, HK.out⟩

end Go.Proofs.Ytmilgaoilglmjaa
