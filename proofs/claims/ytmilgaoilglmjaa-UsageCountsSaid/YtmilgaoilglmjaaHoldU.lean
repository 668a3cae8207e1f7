/-
  Who holds an address: the document's Holders and the program's.
  Conditions: at most 20 holders.
-/
import Derived.Test.YtmilgaoilglmjaaRefV
import Derived.Test.YtmilgaoilglmjaaHasAddr
namespace Go.Proofs.Ytmilgaoilglmjaa
open Go.RowKit Go.Maps Go.ChangeMaps
set_option maxRecDepth 100000
set_option linter.unusedVariables false

theorem infoI64 : (Try.prog.info? 3).map (fun i => (i.zero, i.size, i.bytes)) = some (some (.int .i64 0), 1, 8) := by kernel_rfl
/-- A list of integers is told, in memory of its own. -/
def IPost (w : World) (l : List Int) (e : Ending) (w' : World) : Prop := ∃ v, e = .returned v ∧ w'.ownsRow w.heap.size 3 1 v l.length (l.map fun x => .int .i64 x) ∧ Keep noBlk w w'
/-- The holders below k of an address. -/
def hoL (hs : List (List Ad)) (a : Ad) (k : Nat) : List Int := ((List.range k).filter fun i => decide (a ∈ hs.getD i [])).map fun (i : Nat) => (i : Int)
theorem hoL_succ (hs : List (List Ad)) (a : Ad) (k : Nat) : hoL hs a (k + 1) = hoL hs a k ++ if decide (a ∈ hs.getD k []) then [(k : Int)] else [] := by
  unfold hoL
  rw [List.range_succ, List.filter_append, List.map_append]
  congr 1
  rw [List.filter_cons]
  show List.map _ (if decide (a ∈ hs.getD k []) = true then k :: List.filter _ [] else List.filter _ []) = _
  generalize decide (a ∈ hs.getD k []) = b
  cases b <;> rfl
theorem hoL_len (hs : List (List Ad)) (a : Ad) (k : Nat) : (hoL hs a k).length ≤ k := by
  unfold hoL
  rw [List.length_map]
  have := List.length_filter_le (fun i => decide (a ∈ hs.getD i [])) (List.range k)
  rwa [List.length_range] at this
theorem hoL_none {hs : List (List Ad)} {a : Ad} (h : ∀ L ∈ hs, a ∉ L) (k : Nat) : hoL hs a k = [] := by
  unfold hoL
  rw [List.filter_eq_nil_iff.2]
  · rfl
  · intro i _
    rw [List.getD_eq_getElem?_getD]
    rcases hk : hs[i]? with _ | L
    · simp
    · simpa using h L (List.mem_of_getElem? hk)
theorem hw_dec {hs : List (List Ad)} (h64 : hs.length ≤ 64) (a : Ad) {k : Nat} (hk : k < hs.length) : (hw hs a).getLsbD k = decide (a ∈ hs.getD k []) := by
  rw [List.getD_eq_getElem?_getD, List.getElem?_eq_getElem hk]
  have h := hw_bit hs h64 a k (by omega)
  rw [List.getElem?_eq_getElem hk] at h
  by_cases hm : a ∈ hs[k]
  · rw [h.2 ⟨_, rfl, hm⟩]; exact (decide_eq_true hm).symm
  · cases hb : (hw hs a).getLsbD k
    · exact (decide_eq_false hm).symm
    · obtain ⟨L, h1, h2⟩ := h.1 hb
      cases h1
      exact absurd h2 hm

set_option maxHeartbeats 8000000 in
theorem rholders_any (w : World) (v : Value) (hs : List (List Ad)) (a : Ad) (hr : Rows2 w v hs) (h20 : hs.length ≤ 20) : Calls Try.prog 25 #[v, .agg (adCs a).toArray] w (IPost w (hoL hs a hs.length)) := by
  obtain ⟨oa, ca, rfl, hlm⟩ := hr.form
  obtain ⟨n, hn⟩ : ∃ n, hs.length = n := ⟨_, rfl⟩
  have HN := Lib.hid hn; have HR := Lib.hid hr
  rw [hn] at HR h20  ⊢
  clear hr hlm hn
  obtain ⟨w1, hw1, hk1, hb1, hs1⟩ := alloc_facts w (adCs a).toArray 25
  have hsz := hk1.size
  have HK1 := Lib.hid hk1; have HBX := Lib.hid hb1; have HR1 := Lib.hid (HR.out.keep hk1)
  clear hk1 hb1 hs1
  go_enter Try.func25, Try.ntmps25
  go_wp2_with fail
  clear hw1
  go_loopw [5, 6] (fun t i wr => ∃ (k m : Nat) (pa : Option Addr) (pc : Nat), k ≤ n ∧ m ≤ k ∧ i = .int .i64 k ∧ t = .slice pa m pc ∧ Hid ((hoL hs a k).length = m) ∧ Hid (wr.ownsRow w1.heap.size 3 1 (.slice pa m pc) m ((hoL hs a k).map fun x => .int .i64 x)) ∧ Hid (Keep noBlk w1 wr)) (fun _ i _ => n - (intOf i).toNat)
  case atStart => exact ⟨0, 0, none, 0, Nat.zero_le _, Nat.le_refl _, rfl, rfl, Lib.hid rfl, Lib.hid (World.ownsRow_nil _ _ _ _), Lib.hid (Keep.refl _ _)⟩
  case round =>
  obtain ⟨k, m, pa, pc, hk, hmk, rfl, rfl, HM, HO, HK⟩ := hrel
  by_cases hlt : k < n
  · have hki : (k : Int) < (n : Int) := by omega
    have hk0 : (0 : Int) ≤ (k : Int) := by omega
    obtain ⟨L, hL⟩ : ∃ L, hs[k]? = some L := ⟨hs[k]'(by rw [HN.out]; exact hlt), List.getElem?_eq_getElem _⟩
    have hr2 := HR1.out.keep HK.out
    obtain ⟨g, o, cap, ra, rc, hv, hcell, hrd⟩ := hr2.at hL
    rw [HN.out] at hv
    have e1 : oa = some ⟨g, o, none⟩ := by cases hv; rfl
    subst e1
    have HTS : Hid (hoL hs a (k + 1) = hoL hs a k ++ if decide (a ∈ L) then [(k : Int)] else []) := Lib.hid (by rw [hoL_succ, List.getD_eq_getElem?_getD, hL]; rfl)
    have HC := Lib.hid (fun w (h : Rd w 2 (.slice ra L.length rc) L.length (adCells L)) => rhas_any w _ L a h)
    obtain ⟨bi, hbi⟩ : ∃ b, decide (a ∈ L) = b := ⟨_, rfl⟩
    obtain ⟨q, hq⟩ : ∃ q, L.length = q := ⟨_, rfl⟩
    rw [hq, hbi] at HC
    rw [hbi] at HTS
    rw [hq] at hcell hrd
    have HRL := Lib.hid hrd; have HBW := Lib.hid (HK.out.blk HBX.out id)
    clear hr2 hv hrd hq hbi hL
    go_wp2_with fail
    obtain ⟨S, hS0⟩ : ∃ S : World → Prop, S = fun w' => Keep noBlk wr w' := ⟨_, rfl⟩
    have HSE := Lib.hid (show ∀ w', S w' → Keep noBlk wr w' from fun w' h => by rw [hS0] at h; exact h)
    have HSI := Lib.hid (show ∀ w', Keep noBlk wr w' → S w' from fun w' h => by rw [hS0]; exact h)
    have hS : S wr.drew := by rw [hS0]; exact (Keep.refl _ _).drew
    clear hS0
    refine wp_region_held (S := S) (by kernel_rfl) ?_
    change wpAnyH _ _ _ _ _ _ _ _ wr.drew
    generalize wr.drew = wq41 at hS ⊢
    refine wpAnyH_take (i := 0) (v := .slice (some ⟨g, o, none⟩) n ca) rfl (by kernel_rfl) (by kernel_rfl) (by kernel_rfl) (fun _ _ _ h => h) (.inl ⟨by rfl, fun _ _ => rfl⟩) hS ?_
    simp only [Act.put, List.setIfInBounds_toArray, List.set_cons_zero, List.set_cons_succ, List.getElem_toArray, List.getElem_cons_zero]
    refine wpAnyH_take (i := 1) (v := .int .i64 (k : Int)) rfl (by kernel_rfl) (by kernel_rfl) (by kernel_rfl) (fun _ _ _ h => h) (.inl ⟨by rfl, fun _ _ => rfl⟩) hS ?_
    simp only [Act.put, List.setIfInBounds_toArray, List.set_cons_zero, List.set_cons_succ, List.getElem_toArray, List.getElem_cons_succ, List.getElem_cons_zero]
    refine wpAnyH_take (i := 2) (v := .pointer (some ⟨g, o + k, none⟩)) rfl (by kernel_rfl) (by kernel_rfl) (by kernel_rfl) (fun _ _ _ h => h) (.inl ⟨by rfl, fun _ _ => by go_simp⟩) hS ?_
    simp only [Act.put, List.setIfInBounds_toArray, List.set_cons_zero, List.set_cons_succ, List.getElem_toArray, List.getElem_cons_succ, List.getElem_cons_zero]
    refine wpAnyH_take (i := 3) (v := .slice ra q rc) rfl (by kernel_rfl) (by kernel_rfl) (by kernel_rfl) (fun _ _ _ h => h) (.inl ⟨by rfl, fun w' hw' => by have c := (HSE.out w' hw').cell hcell id; go_simp⟩) hS ?_
    simp only [Act.put, List.setIfInBounds_toArray, List.set_cons_zero, List.set_cons_succ, List.getElem_toArray, List.getElem_cons_succ, List.getElem_cons_zero]
    refine wpAnyH_take (i := 4) (v := .agg (adCs a).toArray) rfl (by kernel_rfl) (by kernel_rfl) (by kernel_rfl) (fun _ _ _ h => h) (yieldsIf_load_mid (by rfl) 25 (.tmp 3) rfl (w.heap.size) (0) rfl (adCs a) _ (fun w' h => rangeAt_whole ((HSE.out w' h).blk HBW.out id)) adUnder rfl sizeAd) hS ?_
    simp only [Act.put, List.setIfInBounds_toArray, List.set_cons_zero, List.set_cons_succ, List.getElem_toArray, List.getElem_cons_succ, List.getElem_cons_zero]
    refine wpAnyH_one (k := 5) rfl (by kernel_rfl) ?_
    go_wp2_with fail
    refine (HC.out _ (HRL.out.keep (HSE.out _ hS) fun _ _ => id)).mono ?_
    rintro e wq42 ⟨rfl, hk⟩
    have hS1 := HSI.out _ ((HSE.out _ hS).trans hk)
    clear hS hk
    go_wp2_with fail
    refine ⟨hS1, ?_⟩
    refine wpAnyH_done (by kernel_rfl) ?_ _
    have HKR := Lib.hid (HSE.out _ hS1)
    clear hS1 HSE HSI
    have HO := Lib.hid (HKR.out.owns HO.out fun _ _ => id)
    have HK := Lib.hid (HK.out.trans HKR.out)
    clear HKR hcell HC HRL HBW
    cases bi
    · go_wp2_with fail
      go_roundw
      case rel => exact ⟨k + 1, m, _, _, by omega, by omega, by go_num, rfl, Lib.hid (by rw [HTS.out, if_neg (by decide), List.append_nil, HM.out]), Lib.hid (by rw [HTS.out, if_neg (by decide), List.append_nil]; exact HO.out), HK⟩
      case measure => simp [intOf]; omega
    · obtain ⟨w8, hw8, hk8, hb8, hs8⟩ := alloc_facts wq42 #[.int .i64 (k : Int)] 3
      have HR8 : Hid (Rd w8 1 (.slice (some ⟨wq42.heap.size, 0, none⟩) 1 1) 1 [.int .i64 (k : Int)]) := Lib.hid (rd_blk (n := 1) (size := 1) (vs := [.int .i64 (k : Int)]) hb8 rfl (by unfold maxLen; omega))
      have HO8 := Lib.hid (hk8.owns HO.out fun _ _ => id); have HK8 := Lib.hid (HK.out.trans hk8)
      have hsz8 : w1.heap.size ≤ w8.heap.size := HK8.out.size
      have HTT : Hid (hoL hs a (k + 1) = hoL hs a k ++ [(k : Int)]) := Lib.hid (by rw [HTS.out]; rfl)
      have hone : ∀ u ∈ [Value.int .i64 (k : Int)], u.oneCell' = true := by simp [Value.oneCell']
      clear hk8 hb8 hs8
      go_wp2_with (first
        | (at_builtin; try rw [hw8]
           refine wpList_append_rd rfl (.tmp 19) (.tmp 21) 23 rfl w1.heap.size 3 (.int .i64 0) 1 8 Try.underlying23 infoI64 rfl (by decide) (.slice pa m pc) m ((hoL hs a k).map fun x => .int .i64 x) rfl HO8.out (.slice (some ⟨wq42.heap.size, 0, none⟩) 1 1) 1 [.int .i64 (k : Int)] rfl HR8.out hone (by unfold maxLen; omega) (by omega) hsz8 ?_
           intro v' w5 ho5 hk5 hn5 hb5
           obtain ⟨va, vc, rfl, -, -⟩ := (Rd.of_owns ho5).form
           have HO5 : Hid (w5.ownsRow w1.heap.size 3 1 (.slice va (m + 1) vc) (m + 1) ((hoL hs a (k + 1)).map fun x => .int .i64 x)) := Lib.hid (by rw [HTT.out, List.map_append]; exact ho5)
           have HK5 := Lib.hid (HK8.out.trans' hk5 (U := noBlk) (fun _ _ h => h) (fun i hi e => by have := owns_base HO8.out e; omega))
           clear ho5 hk5 hn5 hb5 hw8))
      go_roundw
      case rel => exact ⟨k + 1, m + 1, _, _, by omega, by omega, by go_num, rfl, Lib.hid (by rw [HTT.out, List.length_append, HM.out]; rfl), HO5, HK5⟩
      case measure => simp [intOf]; omega
  · obtain rfl : k = n := by omega
    go_wp2_with fail
    go_ret
    exact ⟨_, rfl, by rw [HM.out]; exact ownsRow_mono HO.out hsz, HK1.out.trans HK.out⟩

set_option maxHeartbeats 8000000 in
theorem holders_any (w : World) (v : Value) (hs : List (List Ad)) (a : Ad) (hao : AdOk a) (ho : ∀ L ∈ hs, AdsOk L) (hr : Rows2 w v hs) (h20 : hs.length ≤ 20) : Calls Try.prog 21 #[v, .agg (adCs a).toArray] w (IPost w (hoL hs a hs.length)) := by
  have RD := Lib.hid (fun w (h : Rows2 w v hs) => read_any w v hs ho h (by omega))
  have HAO := Lib.hid hao
  obtain ⟨oa, ca, rfl, hlm⟩ := hr.form
  obtain ⟨n, hn⟩ : ∃ n, hs.length = n := ⟨_, rfl⟩
  have HN := Lib.hid hn; have HR := Lib.hid hr
  rw [hn] at HR h20 RD ⊢
  clear hr hlm hn
  obtain ⟨w1, hw1, hk1, hb1, hs1⟩ := alloc_facts w (adCs a).toArray 25
  have hsz := hk1.size
  have HK1 := Lib.hid hk1; have HBX := Lib.hid hb1; have HR1 := Lib.hid (HR.out.keep hk1)
  clear hk1 hb1 hs1
  have h64 : hs.length ≤ 64 := by rw [HN.out]; omega
  have H64 := Lib.hid h64
  clear h64 hao ho
  go_enter Try.func21, Try.ntmps21
  go_wp2_with fail
  clear hw1
  obtain ⟨S, hS0⟩ : ∃ S : World → Prop, S = fun w' => Keep noBlk w1 w' := ⟨_, rfl⟩
  have HSE := Lib.hid (show ∀ w', S w' → Keep noBlk w1 w' from fun w' h => by rw [hS0] at h; exact h)
  have HSI := Lib.hid (show ∀ w', Keep noBlk w1 w' → S w' from fun w' h => by rw [hS0]; exact h)
  have hS : S w1.drew := by rw [hS0]; exact (Keep.refl _ _).drew
  clear hS0
  refine wp_region_held (S := S) (by kernel_rfl) ?_
  change wpAnyH _ _ _ _ _ _ _ _ w1.drew
  generalize w1.drew = wq41 at hS ⊢
  refine wpAnyH_take (i := 0) (v := .slice oa n ca) rfl (by kernel_rfl) (by kernel_rfl) (by kernel_rfl) (fun _ _ _ h => h) (.inl ⟨by rfl, fun _ _ => rfl⟩) hS ?_
  simp only [Act.put, List.setIfInBounds_toArray, List.set_cons_zero, List.set_cons_succ, List.getElem_toArray, List.getElem_cons_zero]
  refine wpAnyH_take (i := 2) (v := .agg (adCs a).toArray) rfl (by kernel_rfl) (by kernel_rfl) (by kernel_rfl) (fun _ _ _ h => h) (yieldsIf_load_mid (by rfl) 25 (.tmp 3) rfl (w.heap.size) (0) rfl (adCs a) _ (fun w' h => rangeAt_whole ((HSE.out w' h).blk HBX.out id)) adUnder rfl sizeAd) hS ?_
  simp only [Act.put, List.setIfInBounds_toArray, List.set_cons_zero, List.set_cons_succ, List.getElem_toArray, List.getElem_cons_succ, List.getElem_cons_zero]
  refine wpAnyH_one (k := 1) rfl (by kernel_rfl) ?_
  go_wp2_with fail
  refine (RD.out _ (HR1.out.keep (HSE.out _ hS))).mono ?_
  rintro e w3 ⟨b, rfl, ⟨lst, hled, hkeys⟩, hb3, hk⟩
  have hS1 := HSI.out _ ((HSE.out _ hS).trans hk)
  have HLED := Lib.hid hled; have HKEYS := Lib.hid hkeys
  clear hS hk hled hkeys hb3 RD
  go_wp2_with fail
  refine ⟨hS1, ?_⟩
  rcases hlk : look lst a with _ | v
  · refine wpAnyH_one (k := 3) rfl (by kernel_rfl) ?_
    refine wpList_lookup_ok_is rfl (.tmp 11) (.tmp 12) 49 rfl adEnc Try.underlying49 (z := none) (zeroBits _) a HAO.out rfl rfl HLED.out.map ?_
    rw [hlk]
    show wpList _ _ _ _ (Act.put _ _ (Value.tuple #[.slice none 0 0, .bool false])) _
    go_wp2_with fail
    refine ⟨hS1, ?_⟩
    refine wpAnyH_take (i := 4) (v := .tuple #[.slice none 0 0, .bool false]) rfl (by kernel_rfl) (by kernel_rfl) (by kernel_rfl) (fun _ _ _ h => h) (.inl ⟨by rfl, fun _ _ => rfl⟩) hS1 ?_
    simp only [Act.put, List.setIfInBounds_toArray, List.set_cons_zero, List.set_cons_succ, List.getElem_toArray, List.getElem_cons_succ, List.getElem_cons_zero]
    refine wpAnyH_take (i := 5) (v := .slice none 0 0) rfl (by kernel_rfl) (by kernel_rfl) (by kernel_rfl) (fun _ _ _ h => h) (.inl ⟨by rfl, fun _ _ => rfl⟩) hS1 ?_
    simp only [Act.put, List.setIfInBounds_toArray, List.set_cons_zero, List.set_cons_succ, List.getElem_toArray, List.getElem_cons_succ, List.getElem_cons_zero]
    refine wpAnyH_take (i := 6) (v := .bool false) rfl (by kernel_rfl) (by kernel_rfl) (by kernel_rfl) (fun _ _ _ h => h) (.inl ⟨by rfl, fun _ _ => rfl⟩) hS1 ?_
    simp only [Act.put, List.setIfInBounds_toArray, List.set_cons_zero, List.set_cons_succ, List.getElem_toArray, List.getElem_cons_succ, List.getElem_cons_zero]
    refine wpAnyH_take (i := 7) (v := .slice none 0 0) rfl (by kernel_rfl) (by kernel_rfl) (by kernel_rfl) (fun _ _ _ h => h) (.inl ⟨by rfl, fun _ _ => rfl⟩) hS1 ?_
    simp only [Act.put, List.setIfInBounds_toArray, List.set_cons_zero, List.set_cons_succ, List.getElem_toArray, List.getElem_cons_succ, List.getElem_cons_zero]
    refine wpAnyH_take (i := 8) (v := .bool false) rfl (by kernel_rfl) (by kernel_rfl) (by kernel_rfl) (fun _ _ _ h => h) (.inl ⟨by rfl, fun _ _ => rfl⟩) hS1 ?_
    simp only [Act.put, List.setIfInBounds_toArray, List.set_cons_zero, List.set_cons_succ, List.getElem_toArray, List.getElem_cons_succ, List.getElem_cons_zero]
    refine wpAnyH_done (by kernel_rfl) ?_ _
    have HKR := Lib.hid (HSE.out _ hS1)
    clear hS1 HSE HSI
    have HKF := Lib.hid (HK1.out.trans HKR.out)
    have HLK := look_nn hlk
    have HNO : Hid (hoL hs a n = []) := Lib.hid (hoL_none (fun L hL ha => by
      obtain ⟨p', hp', e⟩ := List.mem_map.1 ((HKEYS.out a).2 ⟨L, hL, ha⟩)
      exact HLK p' hp' e) n)
    clear hlk HLK HKR HKEYS HLED
    go_wp2_with fail
    go_ret
    exact ⟨.slice none 0 0, rfl, by rw [HNO.out]; exact World.ownsRow_nil _ _ _ _, HKF.out⟩
  · obtain ⟨gg, e1, hbt, -⟩ := HLED.out.word _ (look_some hlk)
    have e1 : v = some gg := e1
    subst e1
    have HBT := Lib.hid hbt
    clear hbt
    refine wpAnyH_one (k := 3) rfl (by kernel_rfl) ?_
    refine wpList_lookup_ok_is rfl (.tmp 11) (.tmp 12) 49 rfl adEnc Try.underlying49 (z := none) (zeroBits _) a HAO.out rfl rfl HLED.out.map ?_
    rw [hlk]
    show wpList _ _ _ _ (Act.put _ _ (Value.tuple #[.slice (some ⟨gg, 0, none⟩) 1 1, .bool true])) _
    go_wp2_with fail
    refine ⟨hS1, ?_⟩
    refine wpAnyH_take (i := 4) (v := .tuple #[.slice (some ⟨gg, 0, none⟩) 1 1, .bool true]) rfl (by kernel_rfl) (by kernel_rfl) (by kernel_rfl) (fun _ _ _ h => h) (.inl ⟨by rfl, fun _ _ => rfl⟩) hS1 ?_
    simp only [Act.put, List.setIfInBounds_toArray, List.set_cons_zero, List.set_cons_succ, List.getElem_toArray, List.getElem_cons_succ, List.getElem_cons_zero]
    refine wpAnyH_take (i := 5) (v := .slice (some ⟨gg, 0, none⟩) 1 1) rfl (by kernel_rfl) (by kernel_rfl) (by kernel_rfl) (fun _ _ _ h => h) (.inl ⟨by rfl, fun _ _ => rfl⟩) hS1 ?_
    simp only [Act.put, List.setIfInBounds_toArray, List.set_cons_zero, List.set_cons_succ, List.getElem_toArray, List.getElem_cons_succ, List.getElem_cons_zero]
    refine wpAnyH_take (i := 6) (v := .bool true) rfl (by kernel_rfl) (by kernel_rfl) (by kernel_rfl) (fun _ _ _ h => h) (.inl ⟨by rfl, fun _ _ => rfl⟩) hS1 ?_
    simp only [Act.put, List.setIfInBounds_toArray, List.set_cons_zero, List.set_cons_succ, List.getElem_toArray, List.getElem_cons_succ, List.getElem_cons_zero]
    refine wpAnyH_take (i := 7) (v := .slice (some ⟨gg, 0, none⟩) 1 1) rfl (by kernel_rfl) (by kernel_rfl) (by kernel_rfl) (fun _ _ _ h => h) (.inl ⟨by rfl, fun _ _ => rfl⟩) hS1 ?_
    simp only [Act.put, List.setIfInBounds_toArray, List.set_cons_zero, List.set_cons_succ, List.getElem_toArray, List.getElem_cons_succ, List.getElem_cons_zero]
    refine wpAnyH_take (i := 8) (v := .bool true) rfl (by kernel_rfl) (by kernel_rfl) (by kernel_rfl) (fun _ _ _ h => h) (.inl ⟨by rfl, fun _ _ => rfl⟩) hS1 ?_
    simp only [Act.put, List.setIfInBounds_toArray, List.set_cons_zero, List.set_cons_succ, List.getElem_toArray, List.getElem_cons_succ, List.getElem_cons_zero]
    refine wpAnyH_done (by kernel_rfl) ?_ _
    have HKR := Lib.hid (HSE.out _ hS1)
    clear hS1 HSE HSI
    clear hlk HKEYS HLED
    have HKQ := Lib.hid (HK1.out.trans HKR.out)
    have hszq := HKQ.out.size
    generalize w3 = wq at *
    clear HKR HK1 hsz
    go_wp2_with fail
    go_loopw [7, 20] (fun t i wr => ∃ (k m : Nat) (pa : Option Addr) (pc : Nat), k ≤ n ∧ m ≤ k ∧ i = .int .i64 k ∧ t = .slice pa m pc ∧ Hid ((hoL hs a k).length = m) ∧ Hid (wr.ownsRow wq.heap.size 3 1 (.slice pa m pc) m ((hoL hs a k).map fun x => .int .i64 x)) ∧ Hid (Keep noBlk wq wr)) (fun _ i _ => n - (intOf i).toNat)
    case atStart => exact ⟨0, 0, none, 0, Nat.zero_le _, Nat.le_refl _, rfl, rfl, Lib.hid rfl, Lib.hid (World.ownsRow_nil _ _ _ _), Lib.hid (Keep.refl _ _)⟩
    case round =>
    obtain ⟨k, m, pa, pc, hk, hmk, rfl, rfl, HM, HO, HK⟩ := hrel
    by_cases hlt : k < n
    · have hki : (k : Int) < (n : Int) := by omega
      have hk0 : (0 : Int) ≤ (k : Int) := by omega
      have HC := Lib.hid (bhas_any wr gg k _ (HK.out.blk HBT.out id) (by omega))
      have HTS := Lib.hid (hoL_succ hs a k)
      have e := hw_dec H64.out a (k := k) (by rw [HN.out]; exact hlt)
      obtain ⟨bi, hbi⟩ : ∃ b, decide (a ∈ hs.getD k []) = b := ⟨_, rfl⟩
      rw [e, hbi] at HC
      rw [hbi] at HTS
      clear e hbi
      go_wp2_with fail
      refine HC.out.mono ?_
      rintro e w4 ⟨rfl, rfl⟩
      clear HC
      cases bi
      · go_wp2_with fail
        go_roundw
        case rel => exact ⟨k + 1, m, _, _, by omega, by omega, by go_num, rfl, Lib.hid (by rw [HTS.out, if_neg (by decide), List.append_nil, HM.out]), Lib.hid (by rw [HTS.out, if_neg (by decide), List.append_nil]; exact HO.out), HK⟩
        case measure => simp [intOf]; omega
      · obtain ⟨w8, hw8, hk8, hb8, hs8⟩ := alloc_facts wr #[.int .i64 (k : Int)] 3
        have HR8 : Hid (Rd w8 1 (.slice (some ⟨wr.heap.size, 0, none⟩) 1 1) 1 [.int .i64 (k : Int)]) := Lib.hid (rd_blk (n := 1) (size := 1) (vs := [.int .i64 (k : Int)]) hb8 rfl (by unfold maxLen; omega))
        have HO8 := Lib.hid (hk8.owns HO.out fun _ _ => id); have HK8 := Lib.hid (HK.out.trans hk8)
        have hsz8 : wq.heap.size ≤ w8.heap.size := HK8.out.size
        have HTT : Hid (hoL hs a (k + 1) = hoL hs a k ++ [(k : Int)]) := Lib.hid (by rw [HTS.out]; rfl)
        have hone : ∀ u ∈ [Value.int .i64 (k : Int)], u.oneCell' = true := by simp [Value.oneCell']
        clear hk8 hb8 hs8
        go_wp2_with (first
          | (at_builtin; try rw [hw8]
             refine wpList_append_rd rfl (.tmp 26) (.tmp 28) 23 rfl wq.heap.size 3 (.int .i64 0) 1 8 Try.underlying23 infoI64 rfl (by decide) (.slice pa m pc) m ((hoL hs a k).map fun x => .int .i64 x) rfl HO8.out (.slice (some ⟨wr.heap.size, 0, none⟩) 1 1) 1 [.int .i64 (k : Int)] rfl HR8.out hone (by unfold maxLen; omega) (by omega) hsz8 ?_
             intro v' w5 ho5 hk5 hn5 hb5
             obtain ⟨va, vc, rfl, -, -⟩ := (Rd.of_owns ho5).form
             have HO5 : Hid (w5.ownsRow wq.heap.size 3 1 (.slice va (m + 1) vc) (m + 1) ((hoL hs a (k + 1)).map fun x => .int .i64 x)) := Lib.hid (by rw [HTT.out, List.map_append]; exact ho5)
             have HK5 := Lib.hid (HK8.out.trans' hk5 (U := noBlk) (fun _ _ h => h) (fun i hi e => by have := owns_base HO8.out e; omega))
             clear ho5 hk5 hn5 hb5 hw8))
        go_roundw
        case rel => exact ⟨k + 1, m + 1, _, _, by omega, by omega, by go_num, rfl, Lib.hid (by rw [HTT.out, List.length_append, HM.out]; rfl), HO5, HK5⟩
        case measure => simp [intOf]; omega
    · obtain rfl : k = n := by omega
      go_wp2_with fail
      go_ret
      exact ⟨_, rfl, by rw [HM.out]; exact ownsRow_mono HO.out hszq, HKQ.out.trans HK.out⟩

end Go.Proofs.Ytmilgaoilglmjaa
