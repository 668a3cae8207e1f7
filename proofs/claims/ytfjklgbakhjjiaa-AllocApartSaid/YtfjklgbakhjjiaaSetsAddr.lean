/-
  Sets of addresses, together: maps.Copy; Union, Minus, Both, On.
  Conditions: at most 65,536 addresses.
-/
import Derived.Test.YtfjklgbakhjjiaaDelAddr
namespace Go.Proofs.Ytfjklgbakhjjiaa
open Go.RowKit Go.Maps Go.ChangeMaps
set_option maxRecDepth 100000
set_option linter.unusedVariables false

theorem MapIs.lt {w : World} {b : Nat} {l : List (Ad × Nix)} (h : MapIs AdOk adV unitV w b l) : b < w.heap.size := by
  obtain ⟨es, clock, hb, -⟩ := h
  exact lt_of_block hb
theorem mapIs_nodup {w : World} {b : Nat} {l : List (Ad × Nix)} (h : MapIs AdOk adV unitV w b l) : (keysA l).Nodup := by
  obtain ⟨es, clock, hb, hm⟩ := h
  exact hm.2.2.2.1
def CopyPost (w : World) (d : Nat) (dst lst : List (Ad × Nix)) (e : Ending) (w' : World) : Prop := e = .returned (.tuple #[]) ∧ ∃ s, MapIs AdOk adV unitV w' d s ∧ (∀ q, q ∈ keysA s ↔ q ∈ keysA dst ∨ q ∈ keysA lst) ∧ Keep (fun k => k = d) w w'
set_option maxHeartbeats 8000000 in
theorem copy_any (w : World) (d b : Nat) (dst lst : List (Ad × Nix)) (hd : MapIs AdOk adV unitV w d dst) (hm : MapIs AdOk adV unitV w b lst) (hdl : d < w.heap.size) (hdb : d ≠ b) :
    Calls Try.prog 60 #[.map (some d), .map (some b)] w (CopyPost w d dst lst) := by
  have HM := Lib.hid hm; have HD := Lib.hid hd
  clear hm hd
  go_enter Try.func60, Try.ntmps60
  go_wp2_with (first
    | ((with_reducible show wpList _ _ _ (⟨_, .range _ _, _, _, _, _⟩ :: _) _ _); refine wpList_range_is rfl (.tmp 6) 91 rfl Try.underlying91 rfl HM.out ?_
       intro w1 hi1 hk1 hs1
       have HI := Lib.hid hi1; have HK1 := Lib.hid hk1; have HD1 := Lib.hid (HD.out.keep hk1 id)
       have hs1' : w.heap.size < w1.heap.size := by omega
       clear hi1 hk1 hs1))
  go_frame
  go_loopw [9] (fun _ wr => ∃ (left cur : List (Ad × Nix)) (pre : List Ad), Hid (IterIs AdOk adV unitV wr b w.heap.size lst left) ∧ Hid (MapIs AdOk adV unitV wr d cur) ∧ Hid ((pre ++ keysA left).Perm (keysA lst)) ∧ Hid (∀ q, q ∈ keysA cur ↔ q ∈ keysA dst ∨ q ∈ pre) ∧ Hid (Keep (fun k => k = d) w wr)) (fun _ wr => wr.rangeLeft b w.heap.size)
  case atStart => exact ⟨lst, dst, [], HI, HD1, Lib.hid (by simp), Lib.hid (fun q => by simp), Lib.hid (HK1.out.any)⟩
  case round =>
  obtain ⟨left, cur, pre, HI2, HD2, HP, HQ, HKR⟩ := hrel
  have HCNT := Lib.hid HI2.out.count
  have hsr := HKR.out.size
  have hdw : d < w.heap.size := hdl
  have hne : d ≠ b := hdb
  go_wp2_with (first
    | ((with_reducible show wpList _ _ _ (⟨_, .next _ _, _, _, _, _⟩ :: _) _ _); refine wpList_next_is rfl (.tmp 7) rfl rfl HI2.out ?_ ?_))
  · intro hl
    go_wp2_with fail
    go_end0
    subst hl
    exact ⟨rfl, cur, HD2.out, fun q => by rw [HQ.out q, ← HP.out.mem_iff]; simp [keysA], HKR.out⟩
  · intro i x v w2 hxi hxo hi2 hk2 hs2 he2
    have hpe : (keysA left).Perm (x :: keysA (left.eraseIdx i)) := by have := (eraseIdx_perm hxi).map (fun p : Ad × Nix => p.1); exact this
    have HP2 : Hid (((pre ++ [x]) ++ keysA (left.eraseIdx i)).Perm (keysA lst)) := Lib.hid (by
      refine List.Perm.trans ?_ HP.out
      rw [List.append_assoc, List.singleton_append]
      exact (hpe.append_left pre).symm)
    have hkr : Keep (fun k => k = d) w w2 := HKR.out.trans' hk2 (fun _ _ h => h) (fun i hi e => by omega)
    have HI3 := Lib.hid hi2; have HE3 := Lib.hid he2; have HKR2 := Lib.hid hkr; have HXO := Lib.hid hxo
    have HD3 := Lib.hid (HD2.out.keep hk2 (by omega))
    have HLT := Lib.hid (List.getElem?_eq_some_iff.1 hxi).1
    have hs2' : wr.heap.size ≤ w2.heap.size := hk2.size
    have hu : ∀ x : Nix, unitV x = .agg #[] := fun _ => rfl
    have HU := Lib.hid hu
    clear hxi hxo hi2 hk2 hs2 he2 hpe hkr hu
    unfold adV
    rw [HU.out]
    go_wp2_with (first
      | ((with_reducible show wpList _ _ _ (⟨_, .entry _, _, _, _, _⟩ :: _) _ _); refine wpList_entry_is rfl (.tmp 7) rfl rfl HE3.out ?_; show wpList _ _ _ _ (Act.put _ _ (Value.tuple #[.agg (adCs x).toArray, .agg #[]])) _)
      | ((with_reducible show wpList _ _ _ (⟨some 4, .alloc 50, _, _, _, _⟩ :: _) _ _); refine wpList_alloc_at rfl 50 rfl zeroAd zeroAddr #[.int .i64 0, .int .i64 0] rfl ?_)
      | ((with_reducible show wpList _ _ _ (⟨some 5, .alloc 94, _, _, _, _⟩ :: _) _ _); refine wpList_alloc_at rfl 94 rfl (.agg #[]) zeroNix #[] rfl ?_)
      | ((with_reducible show wpList _ _ _ (⟨none, .store 50 (.tmp 4) (.tmp 11), _, _, _, _⟩ :: _) _ _); refine wpList_store_agg rfl 50 (.tmp 4) (.tmp 11) rfl w2.heap.size 0 (adCs x) rfl rfl #[.int .i64 0, .int .i64 0] 50 (heap_alloc2_old _ _ _) (Nat.le_refl _) sizeAd (oneCell_ad _) ?_
         intro w3 hb3 hk3
         rw [spl_whole _ _ (by rfl)] at hb3
         have hk4 : Keep noBlk w2 w3 := (((Keep.refl noBlk w2).alloc _).alloc _).trans' hk3 (fun _ _ h => h) (fun i hi e => by omega)
         have hn3 := hk3.blk (heap_alloc2_new w2 (.cells #[.int .i64 0, .int .i64 0] 50) (.cells #[] 94)) (by omega)
         have HB3 := Lib.hid hb3; have HN3 := Lib.hid hn3; have HK4 := Lib.hid hk4
         have hs4 := hk4.size
         clear hb3 hk3 hk4 hn3)
      | ((with_reducible show wpList _ _ _ (⟨_, .load 50 (.tmp 4), _, _, _, _⟩ :: _) _ _); refine wpList_load_mid rfl 50 (.tmp 4) rfl w2.heap.size 0 rfl (adCs x) _ (rangeAt_whole HB3.out) adUnder rfl sizeAd ?_)
      | ((with_reducible show wpList _ _ _ (⟨none, .mapUpdate 91 (.tmp 13) (.tmp 14) (.tmp 15), _, _, _, _⟩ :: _) _ _); refine wpList_mapUpdate_is rfl rfl (.tmp 13) (.tmp 14) (.tmp 15) 91 rfl adEnc Try.underlying91 x HXO.out Nix.nix rfl rfl rfl (HD3.out.keep HK4.out id) ?_
         intro w4 hm4 hk4
         have HD5 := Lib.hid hm4
         have HI5 := Lib.hid ((HI3.out.keep HK4.out id id).keep hk4 (fun e => hne e.symm) (by omega))
         have HKR5 := Lib.hid ((HKR2.out.trans' HK4.out (U := fun k => k = d) (fun _ _ h => h) (fun _ _ h => h.elim)).trans' hk4 (U := fun k => k = d) (fun _ _ h => h) (fun _ _ h => h))
         clear hm4 hk4))
    have HQ3 : Hid (∀ q, q ∈ keysA (upsert cur x Nix.nix) ↔ q ∈ keysA dst ∨ q ∈ pre ++ [x]) := Lib.hid (fun q => by
      rw [mem_keys_upsert, HQ.out q, List.mem_append, List.mem_singleton, or_assoc])
    go_roundw
    case rel => exact ⟨_, _, _, HI5, HD5, HP2, HQ3, HKR5⟩
    case measure => rw [HI5.out.count, HCNT.out, List.length_eraseIdx_of_lt HLT.out]; have := HLT.out; omega
set_option maxHeartbeats 4000000 in
theorem union_any (w : World) (v vb : Value) (xs ys : List Ad) (ho : AdsOk xs) (hoy : AdsOk ys) (hr : Rd w 2 v xs.length (adCells xs)) (hrb : Rd w 2 vb ys.length (adCells ys)) (hl : xs.length + ys.length ≤ 65536) : Calls Try.prog 33 #[v, vb] w (ListPost w (canon (xs ++ ys))) := by
  have HO := Lib.hid (fun w v (h : Rd w 2 v xs.length (adCells xs)) => of_any w v xs ho h)
  obtain ⟨U, hU⟩ : ∃ U, canon (xs ++ ys) = U := ⟨_, rfl⟩
  have HUE := Lib.hid hU
  rw [hU]
  clear hU
  have HOB := Lib.hid (fun w v (h : Rd w 2 v ys.length (adCells ys)) => of_any w v ys hoy h)
  obtain ⟨oa, ca, rfl, -, hmm⟩ := hr.form
  have hmx_n : xs.length ≤ maxLen := by have h := hr.2; obtain ⟨a', cap', h1, h2, h3, -⟩ := h; omega
  unfold maxLen at hmx_n
  clear hmm
  have HR := Lib.hid hr
  obtain ⟨n, hn_n⟩ : ∃ n, xs.length = n := ⟨_, rfl⟩
  have HN := Lib.hid hn_n
  rw [hn_n] at HR hmx_n
  try rw [hn_n]
  clear hr hn_n
  obtain ⟨ob, cb, rfl, -, hmm⟩ := hrb.form
  have hmx_m : ys.length ≤ maxLen := by have h := hrb.2; obtain ⟨a', cap', h1, h2, h3, -⟩ := h; omega
  unfold maxLen at hmx_m
  clear hmm
  have HRB := Lib.hid hrb
  obtain ⟨m, hn_m⟩ : ∃ n, ys.length = n := ⟨_, rfl⟩
  have HMN := Lib.hid hn_m
  rw [hn_m] at HRB hmx_m
  try rw [hn_m]
  clear hrb hn_m
  have hbnd : xs.length + ys.length ≤ 65536 := by exact hl
  go_enter Try.func33, Try.ntmps33
  go_wp2_with fail
  refine (HO.out w _ (by rw [HN.out]; exact HR.out)).mono ?_
  rintro e w1 ⟨b1, rfl, hm1, hb1, hk1⟩
  have hl1 := hm1.lt
  have HM1 := Lib.hid hm1; have HK1 := Lib.hid hk1; have HRB1 := Lib.hid (HRB.out.keep hk1 fun _ _ => id)
  clear hm1 hk1
  go_wp2_with fail
  refine (HOB.out w1 _ (by rw [HMN.out]; exact HRB1.out)).mono ?_
  rintro e w2 ⟨b2, rfl, hm2, hb2, hk2⟩
  have hl2 := hm2.lt
  have hs2 := hk2.size
  have HM2 := Lib.hid hm2; have HM1 := Lib.hid (HM1.out.keep hk2 id); have HK2 := Lib.hid (HK1.out.trans hk2)
  clear hm2 hk2
  go_wp2_with fail
  refine (copy_any w2 b1 b2 (setOf xs) (setOf ys) HM1.out HM2.out (by omega) (by omega)).mono ?_
  rintro e w4 ⟨rfl, s, hm4, hq4, hk4⟩
  have HM4 := Lib.hid hm4
  have HQ : Hid (∀ q, q ∈ keysA s ↔ q ∈ xs ++ ys) := Lib.hid (fun q => by rw [hq4 q, (setOf_keys xs).2 q, (setOf_keys ys).2 q, List.mem_append])
  have HKW := Lib.hid (HK2.out.trans' hk4 (U := noBlk) (fun _ _ h => h) (fun i hi e => by omega))
  clear hm4 hq4 hk4
  go_wp2_with fail
  have hnd := mapIs_nodup HM4.out
  have hcs := (canon_keys hnd HQ.out).trans HUE.out
  have hlen : s.length ≤ 65536 := by
    have h1 : (sortA (keysA s)).length = s.length := by rw [sortA_len]; exact List.length_map _
    rw [← h1, canon_keys hnd HQ.out]
    exact Nat.le_trans (canon_len _) (by simp only [List.length_append]; omega)
  have L := list_any w4 b1 s HM4.out hlen
  rw [hcs] at L
  have L := Lib.hid L
  have hsz := HKW.out.size
  clear hnd hcs hlen
  go_wp2_with fail
  refine L.out.mono ?_
  rintro e wf ⟨v, rfl, ho2, hk2⟩
  obtain ⟨va, vc, rfl, -, -⟩ := (Rd.of_owns ho2).form
  have HOF := Lib.hid (ownsRow_mono ho2 hsz); have HKF := Lib.hid (HKW.out.trans hk2)
  clear ho2 hk2
  go_wp2_with fail
  go_ret
  exact ⟨_, rfl, HOF.out, HKF.out⟩
set_option maxHeartbeats 4000000 in
theorem minus_any (w : World) (v vb : Value) (xs ys : List Ad) (ho : AdsOk xs) (hoy : AdsOk ys) (hr : Rd w 2 v xs.length (adCells xs)) (hrb : Rd w 2 vb ys.length (adCells ys)) (hl : xs.length ≤ 65536) : Calls Try.prog 34 #[v, vb] w (ListPost w (canon (xs.filter fun x => !decide (x ∈ ys)))) := by
  have HO := Lib.hid (fun w v (h : Rd w 2 v xs.length (adCells xs)) => of_any w v xs ho h)
  obtain ⟨U, hU⟩ : ∃ U, canon (xs.filter fun x => !decide (x ∈ ys)) = U := ⟨_, rfl⟩
  have HUE := Lib.hid hU
  rw [hU]
  clear hU
  have HOB := Lib.hid (fun w v (h : Rd w 2 v ys.length (adCells ys)) => of_any w v ys hoy h)
  obtain ⟨oa, ca, rfl, -, hmm⟩ := hr.form
  have hmx_n : xs.length ≤ maxLen := by have h := hr.2; obtain ⟨a', cap', h1, h2, h3, -⟩ := h; omega
  unfold maxLen at hmx_n
  clear hmm
  have HR := Lib.hid hr
  obtain ⟨n, hn_n⟩ : ∃ n, xs.length = n := ⟨_, rfl⟩
  have HN := Lib.hid hn_n
  rw [hn_n] at HR hmx_n
  try rw [hn_n]
  clear hr hn_n
  obtain ⟨ob, cb, rfl, -, hmm⟩ := hrb.form
  have hmx_m : ys.length ≤ maxLen := by have h := hrb.2; obtain ⟨a', cap', h1, h2, h3, -⟩ := h; omega
  unfold maxLen at hmx_m
  clear hmm
  have HRB := Lib.hid hrb
  obtain ⟨m, hn_m⟩ : ∃ n, ys.length = n := ⟨_, rfl⟩
  have HMN := Lib.hid hn_m
  rw [hn_m] at HRB hmx_m
  try rw [hn_m]
  clear hrb hn_m
  have hbnd : xs.length ≤ 65536 := by exact hl
  go_enter Try.func34, Try.ntmps34
  go_wp2_with fail
  refine (HO.out w _ (by rw [HN.out]; exact HR.out)).mono ?_
  rintro e w1 ⟨b1, rfl, hm1, hb1, hk1⟩
  have hl1 := hm1.lt
  have HM1 := Lib.hid hm1; have HK1 := Lib.hid hk1; have HRB1 := Lib.hid (HRB.out.keep hk1 fun _ _ => id)
  clear hm1 hk1
  go_wp2_with fail
  refine (HOB.out w1 _ (by rw [HMN.out]; exact HRB1.out)).mono ?_
  rintro e w2 ⟨b2, rfl, hm2, hb2, hk2⟩
  have hl2 := hm2.lt
  have hs2 := hk2.size
  have HM2 := Lib.hid hm2; have HM1 := Lib.hid (HM1.out.keep hk2 id); have HK2 := Lib.hid (HK1.out.trans hk2)
  clear hm2 hk2
  go_wp2_with fail
  have hkb := (Keep.refl noBlk w2).alloc (.cells #[.map (some b2)] 91)
  have hbb := heap_alloc_new w2 (.cells #[.map (some b2)] 91)
  have HM1B := Lib.hid (HM1.out.keep hkb id); have HM2B := Lib.hid (HM2.out.keep hkb id); have HBB := Lib.hid hbb; have HKB := Lib.hid (HK2.out.trans hkb)
  have hsb := hkb.size
  clear hkb hbb
  refine (delMinus_any _ b1 (setOf xs) (fun x => decide (x ∈ keysA (setOf ys))) _ HM1B.out (by omega) (setOf_keys xs).1 (fun w' x hx hk => minus1_any w' _ b2 (setOf ys) x hx (hk.blk HBB.out (by omega)) (HM2B.out.keep hk (by omega)))).mono ?_
  rintro e w4 ⟨rfl, s, hm4, hq4, hk4⟩
  have HM4 := Lib.hid hm4
  have HQ : Hid (∀ q, q ∈ keysA s ↔ q ∈ xs.filter fun x => !decide (x ∈ ys)) := Lib.hid (fun q => by
    rw [hq4 q, (setOf_keys xs).2 q, List.mem_filter]
    have := (setOf_keys ys).2 q
    simp only [this, Bool.not_eq_true', decide_eq_false_iff_not])
  have HKW := Lib.hid (HKB.out.trans' hk4 (U := noBlk) (fun _ _ h => h) (fun i hi e => by omega))
  clear hm4 hq4 hk4
  go_wp2_with fail
  have hnd := mapIs_nodup HM4.out
  have hcs := (canon_keys hnd HQ.out).trans HUE.out
  have hlen : s.length ≤ 65536 := by
    have h1 : (sortA (keysA s)).length = s.length := by rw [sortA_len]; exact List.length_map _
    rw [← h1, canon_keys hnd HQ.out]
    exact Nat.le_trans (canon_len _) (Nat.le_trans (List.length_filter_le _ _) (by omega))
  have L := list_any w4 b1 s HM4.out hlen
  rw [hcs] at L
  have L := Lib.hid L
  have hsz := HKW.out.size
  clear hnd hcs hlen
  go_wp2_with fail
  refine L.out.mono ?_
  rintro e wf ⟨v, rfl, ho2, hk2⟩
  obtain ⟨va, vc, rfl, -, -⟩ := (Rd.of_owns ho2).form
  have HOF := Lib.hid (ownsRow_mono ho2 hsz); have HKF := Lib.hid (HKW.out.trans hk2)
  clear ho2 hk2
  go_wp2_with fail
  go_ret
  exact ⟨_, rfl, HOF.out, HKF.out⟩
set_option maxHeartbeats 4000000 in
theorem both_any (w : World) (v vb : Value) (xs ys : List Ad) (ho : AdsOk xs) (hoy : AdsOk ys) (hr : Rd w 2 v xs.length (adCells xs)) (hrb : Rd w 2 vb ys.length (adCells ys)) (hl : xs.length ≤ 65536) : Calls Try.prog 31 #[v, vb] w (ListPost w (canon (xs.filter fun x => decide (x ∈ ys)))) := by
  have HO := Lib.hid (fun w v (h : Rd w 2 v xs.length (adCells xs)) => of_any w v xs ho h)
  obtain ⟨U, hU⟩ : ∃ U, canon (xs.filter fun x => decide (x ∈ ys)) = U := ⟨_, rfl⟩
  have HUE := Lib.hid hU
  rw [hU]
  clear hU
  have HOB := Lib.hid (fun w v (h : Rd w 2 v ys.length (adCells ys)) => of_any w v ys hoy h)
  obtain ⟨oa, ca, rfl, -, hmm⟩ := hr.form
  have hmx_n : xs.length ≤ maxLen := by have h := hr.2; obtain ⟨a', cap', h1, h2, h3, -⟩ := h; omega
  unfold maxLen at hmx_n
  clear hmm
  have HR := Lib.hid hr
  obtain ⟨n, hn_n⟩ : ∃ n, xs.length = n := ⟨_, rfl⟩
  have HN := Lib.hid hn_n
  rw [hn_n] at HR hmx_n
  try rw [hn_n]
  clear hr hn_n
  obtain ⟨ob, cb, rfl, -, hmm⟩ := hrb.form
  have hmx_m : ys.length ≤ maxLen := by have h := hrb.2; obtain ⟨a', cap', h1, h2, h3, -⟩ := h; omega
  unfold maxLen at hmx_m
  clear hmm
  have HRB := Lib.hid hrb
  obtain ⟨m, hn_m⟩ : ∃ n, ys.length = n := ⟨_, rfl⟩
  have HMN := Lib.hid hn_m
  rw [hn_m] at HRB hmx_m
  try rw [hn_m]
  clear hrb hn_m
  have hbnd : xs.length ≤ 65536 := by exact hl
  go_enter Try.func31, Try.ntmps31
  go_wp2_with fail
  refine (HO.out w _ (by rw [HN.out]; exact HR.out)).mono ?_
  rintro e w1 ⟨b1, rfl, hm1, hb1, hk1⟩
  have hl1 := hm1.lt
  have HM1 := Lib.hid hm1; have HK1 := Lib.hid hk1; have HRB1 := Lib.hid (HRB.out.keep hk1 fun _ _ => id)
  clear hm1 hk1
  go_wp2_with fail
  refine (HOB.out w1 _ (by rw [HMN.out]; exact HRB1.out)).mono ?_
  rintro e w2 ⟨b2, rfl, hm2, hb2, hk2⟩
  have hl2 := hm2.lt
  have hs2 := hk2.size
  have HM2 := Lib.hid hm2; have HM1 := Lib.hid (HM1.out.keep hk2 id); have HK2 := Lib.hid (HK1.out.trans hk2)
  clear hm2 hk2
  go_wp2_with fail
  have hkb := (Keep.refl noBlk w2).alloc (.cells #[.map (some b2)] 91)
  have hbb := heap_alloc_new w2 (.cells #[.map (some b2)] 91)
  have HM1B := Lib.hid (HM1.out.keep hkb id); have HM2B := Lib.hid (HM2.out.keep hkb id); have HBB := Lib.hid hbb; have HKB := Lib.hid (HK2.out.trans hkb)
  have hsb := hkb.size
  clear hkb hbb
  refine (delBoth_any _ b1 (setOf xs) (fun x => !decide (x ∈ keysA (setOf ys))) _ HM1B.out (by omega) (setOf_keys xs).1 (fun w' x hx hk => both1_any w' _ b2 (setOf ys) x hx (hk.blk HBB.out (by omega)) (HM2B.out.keep hk (by omega)))).mono ?_
  rintro e w4 ⟨rfl, s, hm4, hq4, hk4⟩
  have HM4 := Lib.hid hm4
  have HQ : Hid (∀ q, q ∈ keysA s ↔ q ∈ xs.filter fun x => decide (x ∈ ys)) := Lib.hid (fun q => by
    rw [hq4 q, (setOf_keys xs).2 q, List.mem_filter]
    have := (setOf_keys ys).2 q
    simp only [this, Bool.not_eq_false', decide_eq_true_iff])
  have HKW := Lib.hid (HKB.out.trans' hk4 (U := noBlk) (fun _ _ h => h) (fun i hi e => by omega))
  clear hm4 hq4 hk4
  go_wp2_with fail
  have hnd := mapIs_nodup HM4.out
  have hcs := (canon_keys hnd HQ.out).trans HUE.out
  have hlen : s.length ≤ 65536 := by
    have h1 : (sortA (keysA s)).length = s.length := by rw [sortA_len]; exact List.length_map _
    rw [← h1, canon_keys hnd HQ.out]
    exact Nat.le_trans (canon_len _) (Nat.le_trans (List.length_filter_le _ _) (by omega))
  have L := list_any w4 b1 s HM4.out hlen
  rw [hcs] at L
  have L := Lib.hid L
  have hsz := HKW.out.size
  clear hnd hcs hlen
  go_wp2_with fail
  refine L.out.mono ?_
  rintro e wf ⟨v, rfl, ho2, hk2⟩
  obtain ⟨va, vc, rfl, -, -⟩ := (Rd.of_owns ho2).form
  have HOF := Lib.hid (ownsRow_mono ho2 hsz); have HKF := Lib.hid (HKW.out.trans hk2)
  clear ho2 hk2
  go_wp2_with fail
  go_ret
  exact ⟨_, rfl, HOF.out, HKF.out⟩
end Go.Proofs.Ytfjklgbakhjjiaa
