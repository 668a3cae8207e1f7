/-
  usage.ledger.those: the addresses whose bits are as asked, rising.
  Conditions: at most 65,536 addresses.
-/
import Derived.Test.YtmilgaoilglmjaaReadW
namespace Go.Proofs.Ytmilgaoilglmjaa
open Go.RowKit Go.Maps Go.ChangeMaps
set_option maxRecDepth 100000
set_option linter.unusedVariables false

theorem MapIs.nodup {α β : Type} {ok : α → Prop} {enc : α → Value} {ev : β → Value} {w : World} {b : Nat} {l : List (α × β)} (h : MapIs ok enc ev w b l) : (l.map (·.1)).Nodup := by
  obtain ⟨es, clock, hb, hm⟩ := h
  exact hm.2.2.2.1
theorem MapIs.okA {α β : Type} {ok : α → Prop} {enc : α → Value} {ev : β → Value} {w : World} {b : Nat} {l : List (α × β)} (h : MapIs ok enc ev w b l) (x : α) (hx : x ∈ l.map (·.1)) : ok x := by
  obtain ⟨es, clock, hb, hm⟩ := h
  obtain ⟨p, hp, rfl⟩ := List.mem_map.1 hx
  exact hm.2.2.2.2 p hp

set_option maxHeartbeats 8000000 in
theorem thoseF_any (w : World) (b : Nat) (lst : List (Ad × Option Nat)) (p : Ad → Bool) (c1 : Value) (hm : MapIs AdOk adV bV w b lst) (hwl : ∀ q ∈ lst, ∃ g, q.2 = some g) (hlen : lst.length ≤ 65536)
    (hC : ∀ w' x g, (x, some g) ∈ lst → Keep noBlk w w' → Calls Try.prog 40 #[.slice (some ⟨g, 0, none⟩) 1 1, c1] w' fun e w'' => e = .returned (.bool (p x)) ∧ Keep noBlk w' w'') :
    Calls Try.prog 37 #[.map (some b), .func (.func 40) #[] #[c1]] w (ListPost w (canon ((lst.map (·.1)).filter p))) := by
  have HM := Lib.hid hm; have HC := Lib.hid hC; have HWL := Lib.hid hwl
  have hbw : b < w.heap.size := hm.lt'
  have HNL := Lib.hid hm.nodup
  obtain ⟨U, hU⟩ : ∃ U, canon ((lst.map (·.1)).filter p) = U := ⟨_, rfl⟩
  have HUE := Lib.hid hU
  rw [hU]
  clear hm hC hwl hU
  go_enter Try.func37, Try.ntmps37
  go_wp2_with (first
    | ((with_reducible show wpList _ _ _ (⟨_, .range _ _, _, _, _, _⟩ :: _) _ _); refine wpList_range_is rfl (.tmp 8) 49 rfl Try.underlying49 rfl HM.out ?_
       intro w1 hi1 hk1 hs1
       have HI := Lib.hid hi1; have HK1 := Lib.hid hk1
       have hs1' : w.heap.size < w1.heap.size := by omega
       clear hi1 hk1 hs1))
  go_frame
  go_loopw [5, 11] (fun t _ wr => ∃ (left : List (Ad × Option Nat)) (pre : List Ad) (m : Nat) (pa : Option Addr) (pc : Nat), t = .slice pa m pc ∧ m ≤ lst.length ∧ Hid (IterIs AdOk adV bV wr b w.heap.size lst left) ∧ Hid ((pre ++ left.map (·.1)).Perm (lst.map (·.1))) ∧ Hid ((pre.filter p).length = m) ∧ Hid (wr.ownsRow w.heap.size 25 2 (.slice pa m pc) m (adCells (pre.filter p))) ∧ Hid (Keep noBlk w wr)) (fun _ _ wr => wr.rangeLeft b w.heap.size)
  case atStart => exact ⟨lst, [], 0, none, 0, rfl, by omega, HI, Lib.hid (by simp), Lib.hid rfl, Lib.hid (World.ownsRow_nil _ _ _ _), HK1⟩
  case round =>
  obtain ⟨left, pre, m, pa, pc, rfl, hml, HI2, HP, HMM, HO, HKR⟩ := hrel
  have HCNT := Lib.hid HI2.out.count
  have hsr := HKR.out.size
  have hl65 : lst.length ≤ 65536 := hlen
  go_wp2_with (first
    | ((with_reducible show wpList _ _ _ (⟨_, .next _ _, _, _, _, _⟩ :: _) _ _); refine wpList_next_is rfl (.tmp 9) rfl rfl HI2.out ?_ ?_))
  · intro hl
    subst hl
    have hpk : ∀ x, x ∈ pre.filter p ↔ x ∈ (lst.map (·.1)).filter p := fun x => by
      have := HP.out.mem_iff (a := x)
      simp only [List.map_nil, List.append_nil] at this
      rw [List.mem_filter, List.mem_filter, this]
    have hce := canon_congr hpk
    have hok : AdsOk (pre.filter p) := fun x hx => HM.out.okA x (List.mem_filter.1 ((hpk x).1 hx)).1
    have C := sort_any wr (.slice pa m pc) (pre.filter p) hok (by rw [HMM.out]; exact Rd.of_owns HO.out) (by rw [HMM.out]; omega)
    have hcc : sortA (keysA (setOf (pre.filter p))) = canon (pre.filter p) := rfl
    rw [hcc, hce, HUE.out] at C
    have C := Lib.hid C
    clear hpk hce hok hcc
    go_wp2_with fail
    refine C.out.mono ?_
    rintro e wf ⟨v, rfl, ho2, hk2⟩
    obtain ⟨va, vc, rfl, -, -⟩ := (Rd.of_owns ho2).form
    have HOF := Lib.hid (ownsRow_mono ho2 hsr); have HKF := Lib.hid (HKR.out.trans hk2)
    clear ho2 hk2 C
    go_wp2_with fail
    go_ret
    exact ⟨_, rfl, HOF.out, HKF.out⟩
  · intro i x v w2 hxi hxo hi2 hk2 hs2 he2
    have hxm : (x, v) ∈ lst := HI2.out.sub _ (List.mem_of_getElem? hxi)
    obtain ⟨g4, rfl⟩ : ∃ g4, v = some g4 := HWL.out _ hxm
    have hpe : (left.map (·.1)).Perm (x :: (left.eraseIdx i).map (·.1)) := by have := (eraseIdx_perm hxi).map (fun p : Ad × Option Nat => p.1); exact this
    have HP2 : Hid (((pre ++ [x]) ++ (left.eraseIdx i).map (·.1)).Perm (lst.map (·.1))) := Lib.hid (by
      refine List.Perm.trans ?_ HP.out
      rw [List.append_assoc, List.singleton_append]
      exact (hpe.append_left pre).symm)
    have hpl : pre.length + 1 ≤ lst.length := by have := HP2.out.length_eq; simp only [List.length_append, List.length_map, List.length_cons, List.length_nil] at this; omega
    have hmp : m ≤ pre.length := by rw [← HMM.out]; exact List.length_filter_le _ _
    have hor : ∀ k, (Value.slice pa m pc).ownBlock = some k → k ≠ w.heap.size := fun k hk e => by
      obtain ⟨cur, hc⟩ := owns_block HO.out hk
      obtain ⟨o, ho, hwk⟩ := HI2.out.walk
      rw [e, ho] at hc
      cases hc
      cases hwk
    have hkr : Keep noBlk w w2 := HKR.out.trans' hk2 (fun _ _ h => h) (fun i hi e => by omega)
    have HO2 := Lib.hid (hk2.owns HO.out (fun k hk e => hor k hk e))
    have HI3 := Lib.hid hi2; have HE3 := Lib.hid he2; have HKR2 := Lib.hid hkr; have HXM := Lib.hid hxm; have HXO := Lib.hid hxo
    have HLT := Lib.hid (List.getElem?_eq_some_iff.1 hxi).1
    have hs2' : wr.heap.size ≤ w2.heap.size := hk2.size
    clear hxi hxo hi2 hk2 hs2 he2 hxm hpe hkr hor
    unfold adV bV
    go_wp2_with (first
      | ((with_reducible show wpList _ _ _ (⟨_, .entry _, _, _, _, _⟩ :: _) _ _); refine wpList_entry_is rfl (.tmp 9) rfl rfl HE3.out ?_; show wpList _ _ _ _ (Act.put _ _ (Value.tuple #[.agg (adCs x).toArray, .slice (some ⟨g4, 0, none⟩) 1 1])) _)
      | ((with_reducible show wpList _ _ _ (⟨some 6, .alloc 25, _, _, _, _⟩ :: _) _ _); refine wpList_alloc_at rfl 25 rfl zeroAd zeroAddr #[.int .i64 0, .int .i64 0] rfl ?_)
      | ((with_reducible show wpList _ _ _ (⟨none, .store 25 (.tmp 6) (.tmp 13), _, _, _, _⟩ :: _) _ _); refine wpList_store_agg rfl 25 (.tmp 6) (.tmp 13) rfl w2.heap.size 0 (adCs x) rfl rfl #[.int .i64 0, .int .i64 0] 25 (heap_alloc_new _ _) (Nat.le_refl _) sizeAd (oneCell_ad _) ?_
         intro w3 hb3 hk3
         rw [spl_whole _ _ (by rfl)] at hb3
         have hkr : Keep noBlk w2 w3 := ((Keep.refl noBlk w2).alloc _).trans' hk3 (fun _ _ h => h) (fun i hi e => by omega)
         have HB3 := Lib.hid hb3; have HK3 := Lib.hid (HKR2.out.trans hkr); have HO3 := Lib.hid (hkr.owns HO2.out fun _ _ => id); have HI4 := Lib.hid (HI3.out.keep hkr id id)
         have hs3 := hkr.size
         clear hb3 hk3 hkr))
    refine (HC.out w3 x g4 HXM.out HK3.out).mono ?_
    rintro e w4 ⟨rfl, hk⟩
    have HB4 := Lib.hid (hk.blk HB3.out id); have HK4 := Lib.hid (HK3.out.trans hk); have HO4 := Lib.hid (hk.owns HO3.out fun _ _ => id); have HI5 := Lib.hid (HI4.out.keep hk id id)
    have hs4 := hk.size
    clear hk HB3 HK3 HO3 HI4 HO2 HI3
    obtain ⟨bq, hbq⟩ : ∃ y, p x = y := ⟨_, rfl⟩
    have HF : Hid ((pre ++ [x]).filter p = pre.filter p ++ if bq then [x] else []) := Lib.hid (by rw [List.filter_append, ← hbq]; simp only [List.filter_cons, List.filter_nil])
    rw [hbq]
    clear hbq
    cases bq
    · rw [if_neg (by decide), List.append_nil] at HF
      go_wp2_with fail
      go_roundw
      case rel => exact ⟨_, pre ++ [x], m, _, _, rfl, by omega, HI5, HP2, Lib.hid (by rw [HF.out]; exact HMM.out), Lib.hid (by rw [HF.out]; exact HO4.out), HK4⟩
      case measure => rw [HI5.out.count, HCNT.out, List.length_eraseIdx_of_lt HLT.out]; have := HLT.out; omega
    · rw [if_pos rfl] at HF
      have hsw4 : w.heap.size ≤ w4.heap.size := HK4.out.size
      go_wp2_with (first
        | ((with_reducible show wpList _ _ _ (⟨_, .load 25 (.tmp 6), _, _, _, _⟩ :: _) _ _); refine wpList_load_mid rfl 25 (.tmp 6) rfl w2.heap.size 0 rfl (adCs x) _ (rangeAt_whole HB4.out) adUnder rfl sizeAd ?_)
        | ((with_reducible show wpList _ _ _ (⟨_, .buildSlice _ 1 _, _, _, _, _⟩ :: _) _ _); refine wpList_build_one rfl 30 25 (.tmp 19) rfl Try.underlying30 infoAd (by decide) (adCs x) rfl (by decide) rfl ?_
           have hkb : Keep noBlk w4 (w4.alloc (.cells (adCs x).toArray 25)) := (Keep.refl _ _).alloc _
           have HRN := Lib.hid (rd_blk (n := 1) (size := 2) (heap_alloc_new w4 (.cells (adCs x).toArray 25)) rfl (by unfold maxLen; omega))
           have HO4 := Lib.hid (hkb.owns HO4.out fun _ _ => id)
           have HKB := Lib.hid hkb
           have hsb : w4.heap.size ≤ (w4.alloc (.cells (adCs x).toArray 25)).heap.size := by rw [World.size_alloc]; omega
           obtain ⟨X_w8, hX_w8⟩ : ∃ s, w4.heap.size = s := ⟨_, rfl⟩
           rw [hX_w8] at HRN hsb ⊢
           have hsc_w8 : w4.heap.size ≤ X_w8 := Nat.le_of_eq hX_w8
           have HX_w8 := Lib.hid hX_w8; clear hX_w8
           generalize hW4 : w4.alloc (.cells (adCs x).toArray 25) = w8 at *
           clear hW4 hkb)
        | (at_builtin; refine wpList_append_rd rfl (.tmp 18) (.tmp 20) 30 rfl w.heap.size 25 zeroAd 2 16 Try.underlying30 infoAd rfl (by decide) (.slice pa m pc) (m) (adCells (pre.filter p)) rfl HO4.out (.slice (some ⟨X_w8, 0, none⟩) 1 1) (1) (adCs x) rfl HRN.out (oneCell_ad _) (by unfold maxLen; omega) (by omega) (by omega) ?_
           intro v' w9 ho5 hk5 hn5 hb5
           obtain ⟨g', cap', rfl⟩ := ownsRow_succ ho5
           have HO5 := Lib.hid ho5; have HK5 := Lib.hid hk5; have HB5 := Lib.hid hb5
           clear ho5 hk5 hn5 hb5))
      have hor : ∀ k, (Value.slice pa m pc).ownBlock = some k → k ≠ w.heap.size ∧ k ≠ b := fun k hk => by
        obtain ⟨cur, hc⟩ := owns_block HO4.out hk
        have hi8 := HI5.out.keep HKB.out id id
        obtain ⟨o, ho, hwk⟩ := hi8.walk
        obtain ⟨es, clock, hb, -⟩ := hi8.map
        exact ⟨(fun e => by rw [e, ho] at hc; cases hc; cases hwk), (fun e => by rw [e, hb] at hc; cases hc)⟩
      have HI6 := Lib.hid ((HI5.out.keep HKB.out id id).keep HK5.out (fun e => (hor _ e).2 rfl) (fun e => (hor _ e).1 rfl))
      clear hor
      have HKE := Lib.hid ((HK4.out.trans HKB.out).trans' HK5.out (U := noBlk) (fun _ _ h => h) (fun i hi e => by have := owns_far HO4.out e; omega))
      have HOE := HO5.out
      rw [← adCells_one, ← adCells_append] at HOE
      have HOE := Lib.hid HOE
      clear HKB HK5 HB5 HRN HO5 HX_w8
      go_roundw
      case rel => exact ⟨_, pre ++ [x], m + 1, _, _, by go_num, by omega, HI6, HP2, Lib.hid (by rw [HF.out, List.length_append, HMM.out]; rfl), Lib.hid (by rw [HF.out]; exact HOE.out), HKE⟩
      case measure => rw [HI6.out.count, HCNT.out, List.length_eraseIdx_of_lt HLT.out]; have := HLT.out; omega
set_option maxHeartbeats 8000000 in
theorem thoseS_any (w : World) (b : Nat) (lst : List (Ad × Option Nat)) (p : Ad → Bool) (c1 : Value) (hm : MapIs AdOk adV bV w b lst) (hwl : ∀ q ∈ lst, ∃ g, q.2 = some g) (hlen : lst.length ≤ 65536)
    (hC : ∀ w' x g, (x, some g) ∈ lst → Keep noBlk w w' → Calls Try.prog 42 #[.slice (some ⟨g, 0, none⟩) 1 1, c1] w' fun e w'' => e = .returned (.bool (p x)) ∧ Keep noBlk w' w'') :
    Calls Try.prog 37 #[.map (some b), .func (.func 42) #[] #[c1]] w (ListPost w (canon ((lst.map (·.1)).filter p))) := by
  have HM := Lib.hid hm; have HC := Lib.hid hC; have HWL := Lib.hid hwl
  have hbw : b < w.heap.size := hm.lt'
  have HNL := Lib.hid hm.nodup
  obtain ⟨U, hU⟩ : ∃ U, canon ((lst.map (·.1)).filter p) = U := ⟨_, rfl⟩
  have HUE := Lib.hid hU
  rw [hU]
  clear hm hC hwl hU
  go_enter Try.func37, Try.ntmps37
  go_wp2_with (first
    | ((with_reducible show wpList _ _ _ (⟨_, .range _ _, _, _, _, _⟩ :: _) _ _); refine wpList_range_is rfl (.tmp 8) 49 rfl Try.underlying49 rfl HM.out ?_
       intro w1 hi1 hk1 hs1
       have HI := Lib.hid hi1; have HK1 := Lib.hid hk1
       have hs1' : w.heap.size < w1.heap.size := by omega
       clear hi1 hk1 hs1))
  go_frame
  go_loopw [5, 11] (fun t _ wr => ∃ (left : List (Ad × Option Nat)) (pre : List Ad) (m : Nat) (pa : Option Addr) (pc : Nat), t = .slice pa m pc ∧ m ≤ lst.length ∧ Hid (IterIs AdOk adV bV wr b w.heap.size lst left) ∧ Hid ((pre ++ left.map (·.1)).Perm (lst.map (·.1))) ∧ Hid ((pre.filter p).length = m) ∧ Hid (wr.ownsRow w.heap.size 25 2 (.slice pa m pc) m (adCells (pre.filter p))) ∧ Hid (Keep noBlk w wr)) (fun _ _ wr => wr.rangeLeft b w.heap.size)
  case atStart => exact ⟨lst, [], 0, none, 0, rfl, by omega, HI, Lib.hid (by simp), Lib.hid rfl, Lib.hid (World.ownsRow_nil _ _ _ _), HK1⟩
  case round =>
  obtain ⟨left, pre, m, pa, pc, rfl, hml, HI2, HP, HMM, HO, HKR⟩ := hrel
  have HCNT := Lib.hid HI2.out.count
  have hsr := HKR.out.size
  have hl65 : lst.length ≤ 65536 := hlen
  go_wp2_with (first
    | ((with_reducible show wpList _ _ _ (⟨_, .next _ _, _, _, _, _⟩ :: _) _ _); refine wpList_next_is rfl (.tmp 9) rfl rfl HI2.out ?_ ?_))
  · intro hl
    subst hl
    have hpk : ∀ x, x ∈ pre.filter p ↔ x ∈ (lst.map (·.1)).filter p := fun x => by
      have := HP.out.mem_iff (a := x)
      simp only [List.map_nil, List.append_nil] at this
      rw [List.mem_filter, List.mem_filter, this]
    have hce := canon_congr hpk
    have hok : AdsOk (pre.filter p) := fun x hx => HM.out.okA x (List.mem_filter.1 ((hpk x).1 hx)).1
    have C := sort_any wr (.slice pa m pc) (pre.filter p) hok (by rw [HMM.out]; exact Rd.of_owns HO.out) (by rw [HMM.out]; omega)
    have hcc : sortA (keysA (setOf (pre.filter p))) = canon (pre.filter p) := rfl
    rw [hcc, hce, HUE.out] at C
    have C := Lib.hid C
    clear hpk hce hok hcc
    go_wp2_with fail
    refine C.out.mono ?_
    rintro e wf ⟨v, rfl, ho2, hk2⟩
    obtain ⟨va, vc, rfl, -, -⟩ := (Rd.of_owns ho2).form
    have HOF := Lib.hid (ownsRow_mono ho2 hsr); have HKF := Lib.hid (HKR.out.trans hk2)
    clear ho2 hk2 C
    go_wp2_with fail
    go_ret
    exact ⟨_, rfl, HOF.out, HKF.out⟩
  · intro i x v w2 hxi hxo hi2 hk2 hs2 he2
    have hxm : (x, v) ∈ lst := HI2.out.sub _ (List.mem_of_getElem? hxi)
    obtain ⟨g4, rfl⟩ : ∃ g4, v = some g4 := HWL.out _ hxm
    have hpe : (left.map (·.1)).Perm (x :: (left.eraseIdx i).map (·.1)) := by have := (eraseIdx_perm hxi).map (fun p : Ad × Option Nat => p.1); exact this
    have HP2 : Hid (((pre ++ [x]) ++ (left.eraseIdx i).map (·.1)).Perm (lst.map (·.1))) := Lib.hid (by
      refine List.Perm.trans ?_ HP.out
      rw [List.append_assoc, List.singleton_append]
      exact (hpe.append_left pre).symm)
    have hpl : pre.length + 1 ≤ lst.length := by have := HP2.out.length_eq; simp only [List.length_append, List.length_map, List.length_cons, List.length_nil] at this; omega
    have hmp : m ≤ pre.length := by rw [← HMM.out]; exact List.length_filter_le _ _
    have hor : ∀ k, (Value.slice pa m pc).ownBlock = some k → k ≠ w.heap.size := fun k hk e => by
      obtain ⟨cur, hc⟩ := owns_block HO.out hk
      obtain ⟨o, ho, hwk⟩ := HI2.out.walk
      rw [e, ho] at hc
      cases hc
      cases hwk
    have hkr : Keep noBlk w w2 := HKR.out.trans' hk2 (fun _ _ h => h) (fun i hi e => by omega)
    have HO2 := Lib.hid (hk2.owns HO.out (fun k hk e => hor k hk e))
    have HI3 := Lib.hid hi2; have HE3 := Lib.hid he2; have HKR2 := Lib.hid hkr; have HXM := Lib.hid hxm; have HXO := Lib.hid hxo
    have HLT := Lib.hid (List.getElem?_eq_some_iff.1 hxi).1
    have hs2' : wr.heap.size ≤ w2.heap.size := hk2.size
    clear hxi hxo hi2 hk2 hs2 he2 hxm hpe hkr hor
    unfold adV bV
    go_wp2_with (first
      | ((with_reducible show wpList _ _ _ (⟨_, .entry _, _, _, _, _⟩ :: _) _ _); refine wpList_entry_is rfl (.tmp 9) rfl rfl HE3.out ?_; show wpList _ _ _ _ (Act.put _ _ (Value.tuple #[.agg (adCs x).toArray, .slice (some ⟨g4, 0, none⟩) 1 1])) _)
      | ((with_reducible show wpList _ _ _ (⟨some 6, .alloc 25, _, _, _, _⟩ :: _) _ _); refine wpList_alloc_at rfl 25 rfl zeroAd zeroAddr #[.int .i64 0, .int .i64 0] rfl ?_)
      | ((with_reducible show wpList _ _ _ (⟨none, .store 25 (.tmp 6) (.tmp 13), _, _, _, _⟩ :: _) _ _); refine wpList_store_agg rfl 25 (.tmp 6) (.tmp 13) rfl w2.heap.size 0 (adCs x) rfl rfl #[.int .i64 0, .int .i64 0] 25 (heap_alloc_new _ _) (Nat.le_refl _) sizeAd (oneCell_ad _) ?_
         intro w3 hb3 hk3
         rw [spl_whole _ _ (by rfl)] at hb3
         have hkr : Keep noBlk w2 w3 := ((Keep.refl noBlk w2).alloc _).trans' hk3 (fun _ _ h => h) (fun i hi e => by omega)
         have HB3 := Lib.hid hb3; have HK3 := Lib.hid (HKR2.out.trans hkr); have HO3 := Lib.hid (hkr.owns HO2.out fun _ _ => id); have HI4 := Lib.hid (HI3.out.keep hkr id id)
         have hs3 := hkr.size
         clear hb3 hk3 hkr))
    refine (HC.out w3 x g4 HXM.out HK3.out).mono ?_
    rintro e w4 ⟨rfl, hk⟩
    have HB4 := Lib.hid (hk.blk HB3.out id); have HK4 := Lib.hid (HK3.out.trans hk); have HO4 := Lib.hid (hk.owns HO3.out fun _ _ => id); have HI5 := Lib.hid (HI4.out.keep hk id id)
    have hs4 := hk.size
    clear hk HB3 HK3 HO3 HI4 HO2 HI3
    obtain ⟨bq, hbq⟩ : ∃ y, p x = y := ⟨_, rfl⟩
    have HF : Hid ((pre ++ [x]).filter p = pre.filter p ++ if bq then [x] else []) := Lib.hid (by rw [List.filter_append, ← hbq]; simp only [List.filter_cons, List.filter_nil])
    rw [hbq]
    clear hbq
    cases bq
    · rw [if_neg (by decide), List.append_nil] at HF
      go_wp2_with fail
      go_roundw
      case rel => exact ⟨_, pre ++ [x], m, _, _, rfl, by omega, HI5, HP2, Lib.hid (by rw [HF.out]; exact HMM.out), Lib.hid (by rw [HF.out]; exact HO4.out), HK4⟩
      case measure => rw [HI5.out.count, HCNT.out, List.length_eraseIdx_of_lt HLT.out]; have := HLT.out; omega
    · rw [if_pos rfl] at HF
      have hsw4 : w.heap.size ≤ w4.heap.size := HK4.out.size
      go_wp2_with (first
        | ((with_reducible show wpList _ _ _ (⟨_, .load 25 (.tmp 6), _, _, _, _⟩ :: _) _ _); refine wpList_load_mid rfl 25 (.tmp 6) rfl w2.heap.size 0 rfl (adCs x) _ (rangeAt_whole HB4.out) adUnder rfl sizeAd ?_)
        | ((with_reducible show wpList _ _ _ (⟨_, .buildSlice _ 1 _, _, _, _, _⟩ :: _) _ _); refine wpList_build_one rfl 30 25 (.tmp 19) rfl Try.underlying30 infoAd (by decide) (adCs x) rfl (by decide) rfl ?_
           have hkb : Keep noBlk w4 (w4.alloc (.cells (adCs x).toArray 25)) := (Keep.refl _ _).alloc _
           have HRN := Lib.hid (rd_blk (n := 1) (size := 2) (heap_alloc_new w4 (.cells (adCs x).toArray 25)) rfl (by unfold maxLen; omega))
           have HO4 := Lib.hid (hkb.owns HO4.out fun _ _ => id)
           have HKB := Lib.hid hkb
           have hsb : w4.heap.size ≤ (w4.alloc (.cells (adCs x).toArray 25)).heap.size := by rw [World.size_alloc]; omega
           obtain ⟨X_w8, hX_w8⟩ : ∃ s, w4.heap.size = s := ⟨_, rfl⟩
           rw [hX_w8] at HRN hsb ⊢
           have hsc_w8 : w4.heap.size ≤ X_w8 := Nat.le_of_eq hX_w8
           have HX_w8 := Lib.hid hX_w8; clear hX_w8
           generalize hW4 : w4.alloc (.cells (adCs x).toArray 25) = w8 at *
           clear hW4 hkb)
        | (at_builtin; refine wpList_append_rd rfl (.tmp 18) (.tmp 20) 30 rfl w.heap.size 25 zeroAd 2 16 Try.underlying30 infoAd rfl (by decide) (.slice pa m pc) (m) (adCells (pre.filter p)) rfl HO4.out (.slice (some ⟨X_w8, 0, none⟩) 1 1) (1) (adCs x) rfl HRN.out (oneCell_ad _) (by unfold maxLen; omega) (by omega) (by omega) ?_
           intro v' w9 ho5 hk5 hn5 hb5
           obtain ⟨g', cap', rfl⟩ := ownsRow_succ ho5
           have HO5 := Lib.hid ho5; have HK5 := Lib.hid hk5; have HB5 := Lib.hid hb5
           clear ho5 hk5 hn5 hb5))
      have hor : ∀ k, (Value.slice pa m pc).ownBlock = some k → k ≠ w.heap.size ∧ k ≠ b := fun k hk => by
        obtain ⟨cur, hc⟩ := owns_block HO4.out hk
        have hi8 := HI5.out.keep HKB.out id id
        obtain ⟨o, ho, hwk⟩ := hi8.walk
        obtain ⟨es, clock, hb, -⟩ := hi8.map
        exact ⟨(fun e => by rw [e, ho] at hc; cases hc; cases hwk), (fun e => by rw [e, hb] at hc; cases hc)⟩
      have HI6 := Lib.hid ((HI5.out.keep HKB.out id id).keep HK5.out (fun e => (hor _ e).2 rfl) (fun e => (hor _ e).1 rfl))
      clear hor
      have HKE := Lib.hid ((HK4.out.trans HKB.out).trans' HK5.out (U := noBlk) (fun _ _ h => h) (fun i hi e => by have := owns_far HO4.out e; omega))
      have HOE := HO5.out
      rw [← adCells_one, ← adCells_append] at HOE
      have HOE := Lib.hid HOE
      clear HKB HK5 HB5 HRN HO5 HX_w8
      go_roundw
      case rel => exact ⟨_, pre ++ [x], m + 1, _, _, by go_num, by omega, HI6, HP2, Lib.hid (by rw [HF.out, List.length_append, HMM.out]; rfl), Lib.hid (by rw [HF.out]; exact HOE.out), HKE⟩
      case measure => rw [HI6.out.count, HCNT.out, List.length_eraseIdx_of_lt HLT.out]; have := HLT.out; omega
set_option maxHeartbeats 8000000 in
theorem thoseR_any (w : World) (b : Nat) (lst : List (Ad × Option Nat)) (p : Ad → Bool) (c1 : Value) (c2 : Value) (hm : MapIs AdOk adV bV w b lst) (hwl : ∀ q ∈ lst, ∃ g, q.2 = some g) (hlen : lst.length ≤ 65536)
    (hC : ∀ w' x g, (x, some g) ∈ lst → Keep noBlk w w' → Calls Try.prog 48 #[.slice (some ⟨g, 0, none⟩) 1 1, c1, c2] w' fun e w'' => e = .returned (.bool (p x)) ∧ Keep noBlk w' w'') :
    Calls Try.prog 37 #[.map (some b), .func (.func 48) #[] #[c1, c2]] w (ListPost w (canon ((lst.map (·.1)).filter p))) := by
  have HM := Lib.hid hm; have HC := Lib.hid hC; have HWL := Lib.hid hwl
  have hbw : b < w.heap.size := hm.lt'
  have HNL := Lib.hid hm.nodup
  obtain ⟨U, hU⟩ : ∃ U, canon ((lst.map (·.1)).filter p) = U := ⟨_, rfl⟩
  have HUE := Lib.hid hU
  rw [hU]
  clear hm hC hwl hU
  go_enter Try.func37, Try.ntmps37
  go_wp2_with (first
    | ((with_reducible show wpList _ _ _ (⟨_, .range _ _, _, _, _, _⟩ :: _) _ _); refine wpList_range_is rfl (.tmp 8) 49 rfl Try.underlying49 rfl HM.out ?_
       intro w1 hi1 hk1 hs1
       have HI := Lib.hid hi1; have HK1 := Lib.hid hk1
       have hs1' : w.heap.size < w1.heap.size := by omega
       clear hi1 hk1 hs1))
  go_frame
  go_loopw [5, 11] (fun t _ wr => ∃ (left : List (Ad × Option Nat)) (pre : List Ad) (m : Nat) (pa : Option Addr) (pc : Nat), t = .slice pa m pc ∧ m ≤ lst.length ∧ Hid (IterIs AdOk adV bV wr b w.heap.size lst left) ∧ Hid ((pre ++ left.map (·.1)).Perm (lst.map (·.1))) ∧ Hid ((pre.filter p).length = m) ∧ Hid (wr.ownsRow w.heap.size 25 2 (.slice pa m pc) m (adCells (pre.filter p))) ∧ Hid (Keep noBlk w wr)) (fun _ _ wr => wr.rangeLeft b w.heap.size)
  case atStart => exact ⟨lst, [], 0, none, 0, rfl, by omega, HI, Lib.hid (by simp), Lib.hid rfl, Lib.hid (World.ownsRow_nil _ _ _ _), HK1⟩
  case round =>
  obtain ⟨left, pre, m, pa, pc, rfl, hml, HI2, HP, HMM, HO, HKR⟩ := hrel
  have HCNT := Lib.hid HI2.out.count
  have hsr := HKR.out.size
  have hl65 : lst.length ≤ 65536 := hlen
  go_wp2_with (first
    | ((with_reducible show wpList _ _ _ (⟨_, .next _ _, _, _, _, _⟩ :: _) _ _); refine wpList_next_is rfl (.tmp 9) rfl rfl HI2.out ?_ ?_))
  · intro hl
    subst hl
    have hpk : ∀ x, x ∈ pre.filter p ↔ x ∈ (lst.map (·.1)).filter p := fun x => by
      have := HP.out.mem_iff (a := x)
      simp only [List.map_nil, List.append_nil] at this
      rw [List.mem_filter, List.mem_filter, this]
    have hce := canon_congr hpk
    have hok : AdsOk (pre.filter p) := fun x hx => HM.out.okA x (List.mem_filter.1 ((hpk x).1 hx)).1
    have C := sort_any wr (.slice pa m pc) (pre.filter p) hok (by rw [HMM.out]; exact Rd.of_owns HO.out) (by rw [HMM.out]; omega)
    have hcc : sortA (keysA (setOf (pre.filter p))) = canon (pre.filter p) := rfl
    rw [hcc, hce, HUE.out] at C
    have C := Lib.hid C
    clear hpk hce hok hcc
    go_wp2_with fail
    refine C.out.mono ?_
    rintro e wf ⟨v, rfl, ho2, hk2⟩
    obtain ⟨va, vc, rfl, -, -⟩ := (Rd.of_owns ho2).form
    have HOF := Lib.hid (ownsRow_mono ho2 hsr); have HKF := Lib.hid (HKR.out.trans hk2)
    clear ho2 hk2 C
    go_wp2_with fail
    go_ret
    exact ⟨_, rfl, HOF.out, HKF.out⟩
  · intro i x v w2 hxi hxo hi2 hk2 hs2 he2
    have hxm : (x, v) ∈ lst := HI2.out.sub _ (List.mem_of_getElem? hxi)
    obtain ⟨g4, rfl⟩ : ∃ g4, v = some g4 := HWL.out _ hxm
    have hpe : (left.map (·.1)).Perm (x :: (left.eraseIdx i).map (·.1)) := by have := (eraseIdx_perm hxi).map (fun p : Ad × Option Nat => p.1); exact this
    have HP2 : Hid (((pre ++ [x]) ++ (left.eraseIdx i).map (·.1)).Perm (lst.map (·.1))) := Lib.hid (by
      refine List.Perm.trans ?_ HP.out
      rw [List.append_assoc, List.singleton_append]
      exact (hpe.append_left pre).symm)
    have hpl : pre.length + 1 ≤ lst.length := by have := HP2.out.length_eq; simp only [List.length_append, List.length_map, List.length_cons, List.length_nil] at this; omega
    have hmp : m ≤ pre.length := by rw [← HMM.out]; exact List.length_filter_le _ _
    have hor : ∀ k, (Value.slice pa m pc).ownBlock = some k → k ≠ w.heap.size := fun k hk e => by
      obtain ⟨cur, hc⟩ := owns_block HO.out hk
      obtain ⟨o, ho, hwk⟩ := HI2.out.walk
      rw [e, ho] at hc
      cases hc
      cases hwk
    have hkr : Keep noBlk w w2 := HKR.out.trans' hk2 (fun _ _ h => h) (fun i hi e => by omega)
    have HO2 := Lib.hid (hk2.owns HO.out (fun k hk e => hor k hk e))
    have HI3 := Lib.hid hi2; have HE3 := Lib.hid he2; have HKR2 := Lib.hid hkr; have HXM := Lib.hid hxm; have HXO := Lib.hid hxo
    have HLT := Lib.hid (List.getElem?_eq_some_iff.1 hxi).1
    have hs2' : wr.heap.size ≤ w2.heap.size := hk2.size
    clear hxi hxo hi2 hk2 hs2 he2 hxm hpe hkr hor
    unfold adV bV
    go_wp2_with (first
      | ((with_reducible show wpList _ _ _ (⟨_, .entry _, _, _, _, _⟩ :: _) _ _); refine wpList_entry_is rfl (.tmp 9) rfl rfl HE3.out ?_; show wpList _ _ _ _ (Act.put _ _ (Value.tuple #[.agg (adCs x).toArray, .slice (some ⟨g4, 0, none⟩) 1 1])) _)
      | ((with_reducible show wpList _ _ _ (⟨some 6, .alloc 25, _, _, _, _⟩ :: _) _ _); refine wpList_alloc_at rfl 25 rfl zeroAd zeroAddr #[.int .i64 0, .int .i64 0] rfl ?_)
      | ((with_reducible show wpList _ _ _ (⟨none, .store 25 (.tmp 6) (.tmp 13), _, _, _, _⟩ :: _) _ _); refine wpList_store_agg rfl 25 (.tmp 6) (.tmp 13) rfl w2.heap.size 0 (adCs x) rfl rfl #[.int .i64 0, .int .i64 0] 25 (heap_alloc_new _ _) (Nat.le_refl _) sizeAd (oneCell_ad _) ?_
         intro w3 hb3 hk3
         rw [spl_whole _ _ (by rfl)] at hb3
         have hkr : Keep noBlk w2 w3 := ((Keep.refl noBlk w2).alloc _).trans' hk3 (fun _ _ h => h) (fun i hi e => by omega)
         have HB3 := Lib.hid hb3; have HK3 := Lib.hid (HKR2.out.trans hkr); have HO3 := Lib.hid (hkr.owns HO2.out fun _ _ => id); have HI4 := Lib.hid (HI3.out.keep hkr id id)
         have hs3 := hkr.size
         clear hb3 hk3 hkr))
    refine (HC.out w3 x g4 HXM.out HK3.out).mono ?_
    rintro e w4 ⟨rfl, hk⟩
    have HB4 := Lib.hid (hk.blk HB3.out id); have HK4 := Lib.hid (HK3.out.trans hk); have HO4 := Lib.hid (hk.owns HO3.out fun _ _ => id); have HI5 := Lib.hid (HI4.out.keep hk id id)
    have hs4 := hk.size
    clear hk HB3 HK3 HO3 HI4 HO2 HI3
    obtain ⟨bq, hbq⟩ : ∃ y, p x = y := ⟨_, rfl⟩
    have HF : Hid ((pre ++ [x]).filter p = pre.filter p ++ if bq then [x] else []) := Lib.hid (by rw [List.filter_append, ← hbq]; simp only [List.filter_cons, List.filter_nil])
    rw [hbq]
    clear hbq
    cases bq
    · rw [if_neg (by decide), List.append_nil] at HF
      go_wp2_with fail
      go_roundw
      case rel => exact ⟨_, pre ++ [x], m, _, _, rfl, by omega, HI5, HP2, Lib.hid (by rw [HF.out]; exact HMM.out), Lib.hid (by rw [HF.out]; exact HO4.out), HK4⟩
      case measure => rw [HI5.out.count, HCNT.out, List.length_eraseIdx_of_lt HLT.out]; have := HLT.out; omega
    · rw [if_pos rfl] at HF
      have hsw4 : w.heap.size ≤ w4.heap.size := HK4.out.size
      go_wp2_with (first
        | ((with_reducible show wpList _ _ _ (⟨_, .load 25 (.tmp 6), _, _, _, _⟩ :: _) _ _); refine wpList_load_mid rfl 25 (.tmp 6) rfl w2.heap.size 0 rfl (adCs x) _ (rangeAt_whole HB4.out) adUnder rfl sizeAd ?_)
        | ((with_reducible show wpList _ _ _ (⟨_, .buildSlice _ 1 _, _, _, _, _⟩ :: _) _ _); refine wpList_build_one rfl 30 25 (.tmp 19) rfl Try.underlying30 infoAd (by decide) (adCs x) rfl (by decide) rfl ?_
           have hkb : Keep noBlk w4 (w4.alloc (.cells (adCs x).toArray 25)) := (Keep.refl _ _).alloc _
           have HRN := Lib.hid (rd_blk (n := 1) (size := 2) (heap_alloc_new w4 (.cells (adCs x).toArray 25)) rfl (by unfold maxLen; omega))
           have HO4 := Lib.hid (hkb.owns HO4.out fun _ _ => id)
           have HKB := Lib.hid hkb
           have hsb : w4.heap.size ≤ (w4.alloc (.cells (adCs x).toArray 25)).heap.size := by rw [World.size_alloc]; omega
           obtain ⟨X_w8, hX_w8⟩ : ∃ s, w4.heap.size = s := ⟨_, rfl⟩
           rw [hX_w8] at HRN hsb ⊢
           have hsc_w8 : w4.heap.size ≤ X_w8 := Nat.le_of_eq hX_w8
           have HX_w8 := Lib.hid hX_w8; clear hX_w8
           generalize hW4 : w4.alloc (.cells (adCs x).toArray 25) = w8 at *
           clear hW4 hkb)
        | (at_builtin; refine wpList_append_rd rfl (.tmp 18) (.tmp 20) 30 rfl w.heap.size 25 zeroAd 2 16 Try.underlying30 infoAd rfl (by decide) (.slice pa m pc) (m) (adCells (pre.filter p)) rfl HO4.out (.slice (some ⟨X_w8, 0, none⟩) 1 1) (1) (adCs x) rfl HRN.out (oneCell_ad _) (by unfold maxLen; omega) (by omega) (by omega) ?_
           intro v' w9 ho5 hk5 hn5 hb5
           obtain ⟨g', cap', rfl⟩ := ownsRow_succ ho5
           have HO5 := Lib.hid ho5; have HK5 := Lib.hid hk5; have HB5 := Lib.hid hb5
           clear ho5 hk5 hn5 hb5))
      have hor : ∀ k, (Value.slice pa m pc).ownBlock = some k → k ≠ w.heap.size ∧ k ≠ b := fun k hk => by
        obtain ⟨cur, hc⟩ := owns_block HO4.out hk
        have hi8 := HI5.out.keep HKB.out id id
        obtain ⟨o, ho, hwk⟩ := hi8.walk
        obtain ⟨es, clock, hb, -⟩ := hi8.map
        exact ⟨(fun e => by rw [e, ho] at hc; cases hc; cases hwk), (fun e => by rw [e, hb] at hc; cases hc)⟩
      have HI6 := Lib.hid ((HI5.out.keep HKB.out id id).keep HK5.out (fun e => (hor _ e).2 rfl) (fun e => (hor _ e).1 rfl))
      clear hor
      have HKE := Lib.hid ((HK4.out.trans HKB.out).trans' HK5.out (U := noBlk) (fun _ _ h => h) (fun i hi e => by have := owns_far HO4.out e; omega))
      have HOE := HO5.out
      rw [← adCells_one, ← adCells_append] at HOE
      have HOE := Lib.hid HOE
      clear HKB HK5 HB5 HRN HO5 HX_w8
      go_roundw
      case rel => exact ⟨_, pre ++ [x], m + 1, _, _, by go_num, by omega, HI6, HP2, Lib.hid (by rw [HF.out, List.length_append, HMM.out]; rfl), Lib.hid (by rw [HF.out]; exact HOE.out), HKE⟩
      case measure => rw [HI6.out.count, HCNT.out, List.length_eraseIdx_of_lt HLT.out]; have := HLT.out; omega
set_option maxHeartbeats 8000000 in
theorem thoseB_any (w : World) (b : Nat) (lst : List (Ad × Option Nat)) (p : Ad → Bool) (hm : MapIs AdOk adV bV w b lst) (hwl : ∀ q ∈ lst, ∃ g, q.2 = some g) (hlen : lst.length ≤ 65536)
    (hC : ∀ w' x g, (x, some g) ∈ lst → Keep noBlk w w' → Calls Try.prog 38 #[.slice (some ⟨g, 0, none⟩) 1 1] w' fun e w'' => e = .returned (.bool (p x)) ∧ Keep noBlk w' w'') :
    Calls Try.prog 37 #[.map (some b), .func (.func 38) #[] #[]] w (ListPost w (canon ((lst.map (·.1)).filter p))) := by
  have HM := Lib.hid hm; have HC := Lib.hid hC; have HWL := Lib.hid hwl
  have hbw : b < w.heap.size := hm.lt'
  have HNL := Lib.hid hm.nodup
  obtain ⟨U, hU⟩ : ∃ U, canon ((lst.map (·.1)).filter p) = U := ⟨_, rfl⟩
  have HUE := Lib.hid hU
  rw [hU]
  clear hm hC hwl hU
  go_enter Try.func37, Try.ntmps37
  go_wp2_with (first
    | ((with_reducible show wpList _ _ _ (⟨_, .range _ _, _, _, _, _⟩ :: _) _ _); refine wpList_range_is rfl (.tmp 8) 49 rfl Try.underlying49 rfl HM.out ?_
       intro w1 hi1 hk1 hs1
       have HI := Lib.hid hi1; have HK1 := Lib.hid hk1
       have hs1' : w.heap.size < w1.heap.size := by omega
       clear hi1 hk1 hs1))
  go_frame
  go_loopw [5, 11] (fun t _ wr => ∃ (left : List (Ad × Option Nat)) (pre : List Ad) (m : Nat) (pa : Option Addr) (pc : Nat), t = .slice pa m pc ∧ m ≤ lst.length ∧ Hid (IterIs AdOk adV bV wr b w.heap.size lst left) ∧ Hid ((pre ++ left.map (·.1)).Perm (lst.map (·.1))) ∧ Hid ((pre.filter p).length = m) ∧ Hid (wr.ownsRow w.heap.size 25 2 (.slice pa m pc) m (adCells (pre.filter p))) ∧ Hid (Keep noBlk w wr)) (fun _ _ wr => wr.rangeLeft b w.heap.size)
  case atStart => exact ⟨lst, [], 0, none, 0, rfl, by omega, HI, Lib.hid (by simp), Lib.hid rfl, Lib.hid (World.ownsRow_nil _ _ _ _), HK1⟩
  case round =>
  obtain ⟨left, pre, m, pa, pc, rfl, hml, HI2, HP, HMM, HO, HKR⟩ := hrel
  have HCNT := Lib.hid HI2.out.count
  have hsr := HKR.out.size
  have hl65 : lst.length ≤ 65536 := hlen
  go_wp2_with (first
    | ((with_reducible show wpList _ _ _ (⟨_, .next _ _, _, _, _, _⟩ :: _) _ _); refine wpList_next_is rfl (.tmp 9) rfl rfl HI2.out ?_ ?_))
  · intro hl
    subst hl
    have hpk : ∀ x, x ∈ pre.filter p ↔ x ∈ (lst.map (·.1)).filter p := fun x => by
      have := HP.out.mem_iff (a := x)
      simp only [List.map_nil, List.append_nil] at this
      rw [List.mem_filter, List.mem_filter, this]
    have hce := canon_congr hpk
    have hok : AdsOk (pre.filter p) := fun x hx => HM.out.okA x (List.mem_filter.1 ((hpk x).1 hx)).1
    have C := sort_any wr (.slice pa m pc) (pre.filter p) hok (by rw [HMM.out]; exact Rd.of_owns HO.out) (by rw [HMM.out]; omega)
    have hcc : sortA (keysA (setOf (pre.filter p))) = canon (pre.filter p) := rfl
    rw [hcc, hce, HUE.out] at C
    have C := Lib.hid C
    clear hpk hce hok hcc
    go_wp2_with fail
    refine C.out.mono ?_
    rintro e wf ⟨v, rfl, ho2, hk2⟩
    obtain ⟨va, vc, rfl, -, -⟩ := (Rd.of_owns ho2).form
    have HOF := Lib.hid (ownsRow_mono ho2 hsr); have HKF := Lib.hid (HKR.out.trans hk2)
    clear ho2 hk2 C
    go_wp2_with fail
    go_ret
    exact ⟨_, rfl, HOF.out, HKF.out⟩
  · intro i x v w2 hxi hxo hi2 hk2 hs2 he2
    have hxm : (x, v) ∈ lst := HI2.out.sub _ (List.mem_of_getElem? hxi)
    obtain ⟨g4, rfl⟩ : ∃ g4, v = some g4 := HWL.out _ hxm
    have hpe : (left.map (·.1)).Perm (x :: (left.eraseIdx i).map (·.1)) := by have := (eraseIdx_perm hxi).map (fun p : Ad × Option Nat => p.1); exact this
    have HP2 : Hid (((pre ++ [x]) ++ (left.eraseIdx i).map (·.1)).Perm (lst.map (·.1))) := Lib.hid (by
      refine List.Perm.trans ?_ HP.out
      rw [List.append_assoc, List.singleton_append]
      exact (hpe.append_left pre).symm)
    have hpl : pre.length + 1 ≤ lst.length := by have := HP2.out.length_eq; simp only [List.length_append, List.length_map, List.length_cons, List.length_nil] at this; omega
    have hmp : m ≤ pre.length := by rw [← HMM.out]; exact List.length_filter_le _ _
    have hor : ∀ k, (Value.slice pa m pc).ownBlock = some k → k ≠ w.heap.size := fun k hk e => by
      obtain ⟨cur, hc⟩ := owns_block HO.out hk
      obtain ⟨o, ho, hwk⟩ := HI2.out.walk
      rw [e, ho] at hc
      cases hc
      cases hwk
    have hkr : Keep noBlk w w2 := HKR.out.trans' hk2 (fun _ _ h => h) (fun i hi e => by omega)
    have HO2 := Lib.hid (hk2.owns HO.out (fun k hk e => hor k hk e))
    have HI3 := Lib.hid hi2; have HE3 := Lib.hid he2; have HKR2 := Lib.hid hkr; have HXM := Lib.hid hxm; have HXO := Lib.hid hxo
    have HLT := Lib.hid (List.getElem?_eq_some_iff.1 hxi).1
    have hs2' : wr.heap.size ≤ w2.heap.size := hk2.size
    clear hxi hxo hi2 hk2 hs2 he2 hxm hpe hkr hor
    unfold adV bV
    go_wp2_with (first
      | ((with_reducible show wpList _ _ _ (⟨_, .entry _, _, _, _, _⟩ :: _) _ _); refine wpList_entry_is rfl (.tmp 9) rfl rfl HE3.out ?_; show wpList _ _ _ _ (Act.put _ _ (Value.tuple #[.agg (adCs x).toArray, .slice (some ⟨g4, 0, none⟩) 1 1])) _)
      | ((with_reducible show wpList _ _ _ (⟨some 6, .alloc 25, _, _, _, _⟩ :: _) _ _); refine wpList_alloc_at rfl 25 rfl zeroAd zeroAddr #[.int .i64 0, .int .i64 0] rfl ?_)
      | ((with_reducible show wpList _ _ _ (⟨none, .store 25 (.tmp 6) (.tmp 13), _, _, _, _⟩ :: _) _ _); refine wpList_store_agg rfl 25 (.tmp 6) (.tmp 13) rfl w2.heap.size 0 (adCs x) rfl rfl #[.int .i64 0, .int .i64 0] 25 (heap_alloc_new _ _) (Nat.le_refl _) sizeAd (oneCell_ad _) ?_
         intro w3 hb3 hk3
         rw [spl_whole _ _ (by rfl)] at hb3
         have hkr : Keep noBlk w2 w3 := ((Keep.refl noBlk w2).alloc _).trans' hk3 (fun _ _ h => h) (fun i hi e => by omega)
         have HB3 := Lib.hid hb3; have HK3 := Lib.hid (HKR2.out.trans hkr); have HO3 := Lib.hid (hkr.owns HO2.out fun _ _ => id); have HI4 := Lib.hid (HI3.out.keep hkr id id)
         have hs3 := hkr.size
         clear hb3 hk3 hkr))
    refine (HC.out w3 x g4 HXM.out HK3.out).mono ?_
    rintro e w4 ⟨rfl, hk⟩
    have HB4 := Lib.hid (hk.blk HB3.out id); have HK4 := Lib.hid (HK3.out.trans hk); have HO4 := Lib.hid (hk.owns HO3.out fun _ _ => id); have HI5 := Lib.hid (HI4.out.keep hk id id)
    have hs4 := hk.size
    clear hk HB3 HK3 HO3 HI4 HO2 HI3
    obtain ⟨bq, hbq⟩ : ∃ y, p x = y := ⟨_, rfl⟩
    have HF : Hid ((pre ++ [x]).filter p = pre.filter p ++ if bq then [x] else []) := Lib.hid (by rw [List.filter_append, ← hbq]; simp only [List.filter_cons, List.filter_nil])
    rw [hbq]
    clear hbq
    cases bq
    · rw [if_neg (by decide), List.append_nil] at HF
      go_wp2_with fail
      go_roundw
      case rel => exact ⟨_, pre ++ [x], m, _, _, rfl, by omega, HI5, HP2, Lib.hid (by rw [HF.out]; exact HMM.out), Lib.hid (by rw [HF.out]; exact HO4.out), HK4⟩
      case measure => rw [HI5.out.count, HCNT.out, List.length_eraseIdx_of_lt HLT.out]; have := HLT.out; omega
    · rw [if_pos rfl] at HF
      have hsw4 : w.heap.size ≤ w4.heap.size := HK4.out.size
      go_wp2_with (first
        | ((with_reducible show wpList _ _ _ (⟨_, .load 25 (.tmp 6), _, _, _, _⟩ :: _) _ _); refine wpList_load_mid rfl 25 (.tmp 6) rfl w2.heap.size 0 rfl (adCs x) _ (rangeAt_whole HB4.out) adUnder rfl sizeAd ?_)
        | ((with_reducible show wpList _ _ _ (⟨_, .buildSlice _ 1 _, _, _, _, _⟩ :: _) _ _); refine wpList_build_one rfl 30 25 (.tmp 19) rfl Try.underlying30 infoAd (by decide) (adCs x) rfl (by decide) rfl ?_
           have hkb : Keep noBlk w4 (w4.alloc (.cells (adCs x).toArray 25)) := (Keep.refl _ _).alloc _
           have HRN := Lib.hid (rd_blk (n := 1) (size := 2) (heap_alloc_new w4 (.cells (adCs x).toArray 25)) rfl (by unfold maxLen; omega))
           have HO4 := Lib.hid (hkb.owns HO4.out fun _ _ => id)
           have HKB := Lib.hid hkb
           have hsb : w4.heap.size ≤ (w4.alloc (.cells (adCs x).toArray 25)).heap.size := by rw [World.size_alloc]; omega
           obtain ⟨X_w8, hX_w8⟩ : ∃ s, w4.heap.size = s := ⟨_, rfl⟩
           rw [hX_w8] at HRN hsb ⊢
           have hsc_w8 : w4.heap.size ≤ X_w8 := Nat.le_of_eq hX_w8
           have HX_w8 := Lib.hid hX_w8; clear hX_w8
           generalize hW4 : w4.alloc (.cells (adCs x).toArray 25) = w8 at *
           clear hW4 hkb)
        | (at_builtin; refine wpList_append_rd rfl (.tmp 18) (.tmp 20) 30 rfl w.heap.size 25 zeroAd 2 16 Try.underlying30 infoAd rfl (by decide) (.slice pa m pc) (m) (adCells (pre.filter p)) rfl HO4.out (.slice (some ⟨X_w8, 0, none⟩) 1 1) (1) (adCs x) rfl HRN.out (oneCell_ad _) (by unfold maxLen; omega) (by omega) (by omega) ?_
           intro v' w9 ho5 hk5 hn5 hb5
           obtain ⟨g', cap', rfl⟩ := ownsRow_succ ho5
           have HO5 := Lib.hid ho5; have HK5 := Lib.hid hk5; have HB5 := Lib.hid hb5
           clear ho5 hk5 hn5 hb5))
      have hor : ∀ k, (Value.slice pa m pc).ownBlock = some k → k ≠ w.heap.size ∧ k ≠ b := fun k hk => by
        obtain ⟨cur, hc⟩ := owns_block HO4.out hk
        have hi8 := HI5.out.keep HKB.out id id
        obtain ⟨o, ho, hwk⟩ := hi8.walk
        obtain ⟨es, clock, hb, -⟩ := hi8.map
        exact ⟨(fun e => by rw [e, ho] at hc; cases hc; cases hwk), (fun e => by rw [e, hb] at hc; cases hc)⟩
      have HI6 := Lib.hid ((HI5.out.keep HKB.out id id).keep HK5.out (fun e => (hor _ e).2 rfl) (fun e => (hor _ e).1 rfl))
      clear hor
      have HKE := Lib.hid ((HK4.out.trans HKB.out).trans' HK5.out (U := noBlk) (fun _ _ h => h) (fun i hi e => by have := owns_far HO4.out e; omega))
      have HOE := HO5.out
      rw [← adCells_one, ← adCells_append] at HOE
      have HOE := Lib.hid HOE
      clear HKB HK5 HB5 HRN HO5 HX_w8
      go_roundw
      case rel => exact ⟨_, pre ++ [x], m + 1, _, _, by go_num, by omega, HI6, HP2, Lib.hid (by rw [HF.out, List.length_append, HMM.out]; rfl), Lib.hid (by rw [HF.out]; exact HOE.out), HKE⟩
      case measure => rw [HI6.out.count, HCNT.out, List.length_eraseIdx_of_lt HLT.out]; have := HLT.out; omega
end Go.Proofs.Ytmilgaoilglmjaa
