/-
  Sets of addresses: is one in; what is struck by a rule.
  Conditions: none.
-/
import Derived.Test.YtfjklgbakhjjiaaRSetAddr
import Derived.Test.YtfjklgbakhjjiaaMapGo
namespace Go.Proofs.Ytfjklgbakhjjiaa
open Go.RowKit Go.Maps Go.ChangeMaps
set_option maxRecDepth 100000
set_option linter.unusedVariables false

theorem zeroNix (w : World) : (zeroValue 94).run Try.prog w = .ok (.agg #[]) w := by kernel_rfl
theorem sizeNix : (Try.prog.info? 94).map (·.size) = some ([] : List Value).length := by kernel_rfl
theorem look_keys (l : List (Ad × Nix)) (a : Ad) : (look l a).isSome = decide (a ∈ keysA l) := by
  rw [Bool.eq_iff_iff, decide_eq_true_iff]
  unfold look keysA
  rw [Option.isSome_map, List.find?_isSome, List.mem_map]
  simp only [decide_eq_true_eq]
theorem mem_keys_filter (l : List (Ad × Nix)) (x q : Ad) : q ∈ keysA (l.filter fun p => !decide (p.1 = x)) ↔ q ∈ keysA l ∧ q ≠ x := by
  unfold keysA
  simp only [List.mem_map, List.mem_filter, Bool.not_eq_true', decide_eq_false_iff_not]
  constructor
  · rintro ⟨p, ⟨h1, h2⟩, rfl⟩
    exact ⟨⟨p, h1, rfl⟩, h2⟩
  · rintro ⟨⟨p, h1, rfl⟩, h2⟩
    exact ⟨p, ⟨h1, h2⟩, rfl⟩
set_option maxHeartbeats 2000000 in
theorem sethas_any (w : World) (b : Nat) (lst : List (Ad × Nix)) (a : Ad) (ho : AdOk a) (hm : MapIs AdOk adV unitV w b lst) : Calls Try.prog 59 #[.map (some b), .agg (adCs a).toArray] w fun e w' => e = .returned (.bool (decide (a ∈ keysA lst))) ∧ Keep noBlk w w' := by
  obtain ⟨w0, hw0, hk0, hb0, hs0⟩ := alloc_facts w (adCs a).toArray 50
  have HA := Lib.hid hb0; have HK := Lib.hid hk0; have HM := Lib.hid (hm.keep hk0 id)
  obtain ⟨bb, hbb⟩ : ∃ x, decide (a ∈ keysA lst) = x := ⟨_, rfl⟩
  have HL := Lib.hid (look_keys lst a)
  rw [hbb] at HL ⊢
  clear hk0 hb0 hs0 hm hbb
  go_enter Try.func59, Try.ntmps59
  go_wp2_with (first
    | ((with_reducible show wpList _ _ _ (⟨_, .load 50 (.tmp 3), _, _, _, _⟩ :: _) _ _); refine wpList_load_mid rfl 50 (.tmp 3) rfl w.heap.size 0 rfl (adCs a) _ (rangeAt_whole HA.out) adUnder rfl sizeAd ?_)
    | ((with_reducible show wpList _ _ _ (⟨_, .lookup _ _ _ true, _, _, _, _⟩ :: _) _ _); refine wpList_lookup_ok_is rfl (.tmp 8) (.tmp 9) 91 rfl adEnc Try.underlying91 (z := Nix.nix) (zeroNix _) a ho rfl rfl HM.out ?_
       rw [HL.out]
       have hu : ∀ x : Nix, unitV x = .agg #[] := fun _ => rfl
       rw [hu])
    | ((with_reducible show wpList _ _ _ (⟨some 5, .alloc 94, _, _, _, _⟩ :: _) _ _); refine wpList_alloc_at rfl 94 rfl (.agg #[]) zeroNix #[] rfl ?_)
    | ((with_reducible show wpList _ _ _ (⟨none, .store 94 (.tmp 5) _, _, _, _, _⟩ :: _) _ _); refine wpList_store_agg rfl 94 (.tmp 5) _ rfl w0.heap.size 0 [] rfl rfl #[] 94 (heap_alloc_new _ _) (Nat.le_refl _) sizeNix (fun _ h => by cases h) ?_
       intro w2 hb3 hk3
       have HK2 := Lib.hid (HK.out.trans (((Keep.refl noBlk w0).alloc _).trans' hk3 (fun _ _ h => h) (fun i hi e => by omega)))
       clear hb3 hk3))
  go_ret
  exact ⟨rfl, HK2.out⟩
set_option maxHeartbeats 2000000 in
theorem minus1_any (w : World) (B b : Nat) (lst : List (Ad × Nix)) (x : Ad) (ho : AdOk x) (hb : w.heap[B]? = some (.cells #[.map (some b)] 91 (0, 0))) (hm : MapIs AdOk adV unitV w b lst) :
    Calls Try.prog 61 #[.agg (adCs x).toArray, .agg #[], .pointer (some ⟨B, 0, none⟩)] w fun e w' => e = .returned (.bool (decide (x ∈ keysA lst))) ∧ Keep noBlk w w' := by
  obtain ⟨w0, hw0⟩ : ∃ w0, (w.alloc (.cells (adCs x).toArray 50)).alloc (.cells #[] 94) = w0 := ⟨_, rfl⟩
  have hk0 : Keep noBlk w w0 := by rw [← hw0]; exact ((Keep.refl _ _).alloc _).alloc _
  have HA := Lib.hid (show w0.heap[w.heap.size]? = some (.cells (adCs x).toArray 50 (0, 0)) by rw [← hw0]; exact heap_alloc2_old _ _ _)
  have HK := Lib.hid hk0
  have hc : w0.cell? ⟨B, 0, none⟩ = some (.map (some b)) := blk_cell (hk0.blk hb id) rfl
  have C := Lib.hid (sethas_any w0 b lst x ho (hm.keep hk0 id))
  obtain ⟨bb, hbb⟩ : ∃ y, decide (x ∈ keysA lst) = y := ⟨_, rfl⟩
  rw [hbb] at C ⊢
  clear hk0 hb hm hbb
  go_enter Try.func61, Try.ntmps61
  go_wp2_with (first
    | ((with_reducible show wpList _ _ _ (⟨_, .load 50 (.tmp 3), _, _, _, _⟩ :: _) _ _); refine wpList_load_mid rfl 50 (.tmp 3) rfl w.heap.size 0 rfl (adCs x) _ (rangeAt_whole HA.out) adUnder rfl sizeAd ?_))
  refine C.out.mono ?_
  rintro e w1 ⟨rfl, hk⟩
  have HK := Lib.hid (HK.out.trans hk)
  clear hk
  go_wp2_with fail
  go_ret
  exact ⟨rfl, HK.out⟩
set_option maxHeartbeats 2000000 in
theorem both1_any (w : World) (B b : Nat) (lst : List (Ad × Nix)) (x : Ad) (ho : AdOk x) (hb : w.heap[B]? = some (.cells #[.map (some b)] 91 (0, 0))) (hm : MapIs AdOk adV unitV w b lst) :
    Calls Try.prog 58 #[.agg (adCs x).toArray, .agg #[], .pointer (some ⟨B, 0, none⟩)] w fun e w' => e = .returned (.bool (!decide (x ∈ keysA lst))) ∧ Keep noBlk w w' := by
  obtain ⟨w0, hw0⟩ : ∃ w0, (w.alloc (.cells (adCs x).toArray 50)).alloc (.cells #[] 94) = w0 := ⟨_, rfl⟩
  have hk0 : Keep noBlk w w0 := by rw [← hw0]; exact ((Keep.refl _ _).alloc _).alloc _
  have HA := Lib.hid (show w0.heap[w.heap.size]? = some (.cells (adCs x).toArray 50 (0, 0)) by rw [← hw0]; exact heap_alloc2_old _ _ _)
  have HK := Lib.hid hk0
  have hc : w0.cell? ⟨B, 0, none⟩ = some (.map (some b)) := blk_cell (hk0.blk hb id) rfl
  have C := Lib.hid (sethas_any w0 b lst x ho (hm.keep hk0 id))
  obtain ⟨bb, hbb⟩ : ∃ y, decide (x ∈ keysA lst) = y := ⟨_, rfl⟩
  rw [hbb] at C ⊢
  clear hk0 hb hm hbb
  go_enter Try.func58, Try.ntmps58
  go_wp2_with (first
    | ((with_reducible show wpList _ _ _ (⟨_, .load 50 (.tmp 3), _, _, _, _⟩ :: _) _ _); refine wpList_load_mid rfl 50 (.tmp 3) rfl w.heap.size 0 rfl (adCs x) _ (rangeAt_whole HA.out) adUnder rfl sizeAd ?_))
  refine C.out.mono ?_
  rintro e w1 ⟨rfl, hk⟩
  have HK := Lib.hid (HK.out.trans hk)
  clear hk
  go_wp2_with fail
  go_ret
  exact ⟨rfl, HK.out⟩

def DelPost (w : World) (b : Nat) (lst : List (Ad × Nix)) (p : Ad → Bool) (e : Ending) (w' : World) : Prop := e = .returned (.tuple #[]) ∧ ∃ s, MapIs AdOk adV unitV w' b s ∧ (∀ q, q ∈ keysA s ↔ q ∈ keysA lst ∧ p q = false) ∧ Keep (fun k => k = b) w w'

set_option maxHeartbeats 8000000 in
theorem delMinus_any (w : World) (b : Nat) (lst : List (Ad × Nix)) (p : Ad → Bool) (cap : Value) (hm : MapIs AdOk adV unitV w b lst) (hbl : b < w.heap.size) (hnl : (keysA lst).Nodup)
    (hC : ∀ w' x, AdOk x → Keep (fun k => k = b) w w' → Calls Try.prog 61 #[.agg (adCs x).toArray, .agg #[], cap] w' fun e w'' => e = .returned (.bool (p x)) ∧ Keep noBlk w' w'') :
    Calls Try.prog 57 #[.map (some b), .func (.func 61) #[] #[cap]] w (DelPost w b lst p) := by
  have HM := Lib.hid hm; have HC := Lib.hid hC
  clear hm hC
  go_enter Try.func57, Try.ntmps57
  go_wp2_with (first
    | ((with_reducible show wpList _ _ _ (⟨_, .range _ _, _, _, _, _⟩ :: _) _ _); refine wpList_range_is rfl (.tmp 6) 91 rfl Try.underlying91 rfl HM.out ?_
       intro w1 hi1 hk1 hs1
       have HI := Lib.hid hi1; have HK1 := Lib.hid hk1
       have hs1' : w.heap.size < w1.heap.size := by omega
       clear hi1 hk1 hs1))
  go_frame
  go_loopw [9] (fun _ wr => ∃ (left cur : List (Ad × Nix)) (pre : List Ad), Hid (IterIs AdOk adV unitV wr b w.heap.size cur left) ∧ Hid ((pre ++ keysA left).Perm (keysA lst)) ∧ Hid (∀ q, q ∈ keysA cur ↔ (q ∈ pre ∧ p q = false) ∨ q ∈ keysA left) ∧ Hid (Keep (fun k => k = b) w wr)) (fun _ wr => wr.rangeLeft b w.heap.size)
  case atStart => exact ⟨lst, lst, [], HI, Lib.hid (by simp), Lib.hid (fun q => by simp), Lib.hid (HK1.out.any)⟩
  case round =>
  obtain ⟨left, cur, pre, HI2, HP, HQ, HKR⟩ := hrel
  have HCNT := Lib.hid HI2.out.count
  have hsr := HKR.out.size
  have hbw : b < w.heap.size := hbl
  go_wp2_with (first
    | ((with_reducible show wpList _ _ _ (⟨_, .next _ _, _, _, _, _⟩ :: _) _ _); refine wpList_next_is rfl (.tmp 7) rfl rfl HI2.out ?_ ?_))
  · intro hl
    go_wp2_with fail
    go_end0
    subst hl
    exact ⟨rfl, cur, HI2.out.map, fun q => by rw [HQ.out q, ← HP.out.mem_iff]; simp [keysA], HKR.out⟩
  · intro i x v w2 hxi hxo hi2 hk2 hs2 he2
    have hxm : x ∈ keysA left := List.mem_map.2 ⟨(x, v), List.mem_of_getElem? hxi, rfl⟩
    have hpe : (keysA left).Perm (x :: keysA (left.eraseIdx i)) := by have := (eraseIdx_perm hxi).map (fun p : Ad × Nix => p.1); exact this
    have hnd : (pre ++ keysA left).Nodup := HP.out.nodup_iff.2 hnl
    have hxp : x ∉ pre := fun h => (List.nodup_append.1 hnd).2.2 x h x hxm rfl
    have hxe : x ∉ keysA (left.eraseIdx i) := (List.nodup_cons.1 (hpe.nodup_iff.1 (List.nodup_append.1 hnd).2.1)).1
    have HP2 : Hid (((pre ++ [x]) ++ keysA (left.eraseIdx i)).Perm (keysA lst)) := Lib.hid (by
      refine List.Perm.trans ?_ HP.out
      rw [List.append_assoc, List.singleton_append]
      exact (hpe.append_left pre).symm)
    have HQ2 := Lib.hid (fun q => (show q ∈ keysA left ↔ q = x ∨ q ∈ keysA (left.eraseIdx i) by rw [hpe.mem_iff, List.mem_cons]))
    have HXP := Lib.hid hxp; have HXE := Lib.hid hxe
    have hkr : Keep (fun k => k = b) w w2 := HKR.out.trans' hk2 (fun _ _ h => h) (fun i hi e => by omega)
    have HI3 := Lib.hid hi2; have HE3 := Lib.hid he2; have HKR2 := Lib.hid hkr; have HXO := Lib.hid hxo
    have HLT := Lib.hid (List.getElem?_eq_some_iff.1 hxi).1
    have HC1 := Lib.hid hi2.count
    have hs2' : wr.heap.size ≤ w2.heap.size := hk2.size
    have hu : ∀ x : Nix, unitV x = .agg #[] := fun _ => rfl
    have HU := Lib.hid hu
    clear hxi hxo hi2 hk2 hs2 he2 hxm hpe hnd hxp hxe hkr hu
    unfold adV
    rw [HU.out]
    go_wp2_with (first
      | ((with_reducible show wpList _ _ _ (⟨_, .entry _, _, _, _, _⟩ :: _) _ _); refine wpList_entry_is rfl (.tmp 7) rfl rfl HE3.out ?_; show wpList _ _ _ _ (Act.put _ _ (Value.tuple #[.agg (adCs x).toArray, .agg #[]])) _)
      | ((with_reducible show wpList _ _ _ (⟨some 4, .alloc 50, _, _, _, _⟩ :: _) _ _); refine wpList_alloc_at rfl 50 rfl zeroAd zeroAddr #[.int .i64 0, .int .i64 0] rfl ?_)
      | ((with_reducible show wpList _ _ _ (⟨some 5, .alloc 94, _, _, _, _⟩ :: _) _ _); refine wpList_alloc_at rfl 94 rfl (.agg #[]) zeroNix #[] rfl ?_)
      | ((with_reducible show wpList _ _ _ (⟨none, .store 50 (.tmp 4) (.tmp 11), _, _, _, _⟩ :: _) _ _); refine wpList_store_agg rfl 50 (.tmp 4) (.tmp 11) rfl w2.heap.size 0 (adCs x) rfl rfl #[.int .i64 0, .int .i64 0] 50 (heap_alloc2_old _ _ _) (Nat.le_refl _) sizeAd (oneCell_ad _) ?_
         intro w3 hb3 hk3
         rw [spl_whole _ _ (by rfl)] at hb3
         have hk4 : Keep noBlk w2 w3 := (((Keep.refl noBlk w2).alloc _).alloc _).trans' hk3 (fun _ _ h => h) (fun i hi e => by omega)
         have hn3 := hk3.blk (heap_alloc2_new w2 (.cells #[.int .i64 0, .int .i64 0] 50) (.cells #[] 94)) (by omega)
         have HB3 := Lib.hid hb3; have HN3 := Lib.hid hn3; have HK4 := Lib.hid hk4
         have hs4 := hk4.size
         clear hb3 hk3 hk4 hn3)
      | ((with_reducible show wpList _ _ _ (⟨_, .load 50 (.tmp 4), _, _, _, _⟩ :: _) _ _); refine wpList_load_mid rfl 50 (.tmp 4) rfl w2.heap.size 0 rfl (adCs x) _ (rangeAt_whole HB3.out) adUnder rfl sizeAd ?_)
      | ((with_reducible show wpList _ _ _ (⟨_, .load 94 (.tmp 5), _, _, _, _⟩ :: _) _ _); refine wpList_load_mid rfl 94 (.tmp 5) rfl (w2.heap.size + 1) 0 rfl ([]) _ (fun j u h => by cases h) Try.underlying94 rfl sizeNix ?_))
    have HKR3 := Lib.hid (HKR2.out.trans' HK4.out (U := fun k => k = b) (fun _ _ h => h) (fun _ _ h => h.elim))
    refine (HC.out w3 x HXO.out HKR3.out).mono ?_
    rintro e w4 ⟨rfl, hk⟩
    have HI5 := Lib.hid ((HI3.out.keep HK4.out id id).keep hk id id)
    have HB5 := Lib.hid (hk.blk HB3.out id)
    have HKR4 := Lib.hid (HKR3.out.trans' hk (U := fun k => k = b) (fun _ _ h => h) (fun _ _ h => h.elim))
    have hs5 := hk.size
    clear hk HI3 HB3 HN3 HK4 HKR3
    obtain ⟨bq, hbq⟩ : ∃ y, p x = y := ⟨_, rfl⟩
    have HBQ := Lib.hid hbq
    rw [hbq]
    clear hbq
    cases bq
    · have HQ3 : Hid (∀ q, q ∈ keysA cur ↔ (q ∈ pre ++ [x] ∧ p q = false) ∨ q ∈ keysA (left.eraseIdx i)) := Lib.hid (fun q => by
        rw [HQ.out q, HQ2.out q, List.mem_append, List.mem_singleton]
        constructor
        · rintro (⟨h1, h2⟩ | rfl | h)
          · exact .inl ⟨.inl h1, h2⟩
          · exact .inl ⟨.inr rfl, HBQ.out⟩
          · exact .inr h
        · rintro (⟨h1 | rfl, h2⟩ | h)
          · exact .inl ⟨h1, h2⟩
          · exact .inr (.inl rfl)
          · exact .inr (.inr h))
      go_wp2_with fail
      go_roundw
      case rel => exact ⟨_, _, _, HI5, HP2, HQ3, HKR4⟩
      case measure => rw [HI5.out.count, HCNT.out, List.length_eraseIdx_of_lt HLT.out]; have := HLT.out; omega
    · have hna : ∀ p ∈ left.eraseIdx i, p.1 ≠ x := fun p hp e => HXE.out (List.mem_map.2 ⟨p, hp, e⟩)
      have HNA := Lib.hid hna
      clear hna
      go_wp2_with (first
        | ((with_reducible show wpList _ _ _ (⟨_, .load 50 (.tmp 4), _, _, _, _⟩ :: _) _ _); refine wpList_load_mid rfl 50 (.tmp 4) rfl w2.heap.size 0 rfl (adCs x) _ (rangeAt_whole HB5.out) adUnder rfl sizeAd ?_)
        | ((with_reducible show wpList _ _ _ (⟨_, .call _, _, _, _, _⟩ :: _) _ _); refine wpList_delete_is rfl (.tmp 17) (.tmp 18) rfl adEnc Try.underlying91 x HXO.out rfl rfl HI5.out HNA.out ?_
           intro w6 hi6 hk6 hs6
           have HI6 := Lib.hid hi6
           have HKR6 := Lib.hid (HKR4.out.trans' hk6 (U := fun k => k = b) (fun _ _ h => h) (fun _ _ h => h))
           clear hi6 hk6 hs6))
      have HQ3 : Hid (∀ q, q ∈ keysA (cur.filter fun p => !decide (p.1 = x)) ↔ (q ∈ pre ++ [x] ∧ p q = false) ∨ q ∈ keysA (left.eraseIdx i)) := Lib.hid (fun q => by
        rw [mem_keys_filter, HQ.out q, HQ2.out q, List.mem_append, List.mem_singleton]
        constructor
        · rintro ⟨⟨h1, h2⟩ | rfl | h, hne⟩
          · exact .inl ⟨.inl h1, h2⟩
          · exact absurd rfl hne
          · exact .inr h
        · rintro (⟨h1 | rfl, h2⟩ | h)
          · exact ⟨.inl ⟨h1, h2⟩, fun e => HXP.out (e ▸ h1)⟩
          · rw [HBQ.out] at h2; cases h2
          · exact ⟨.inr (.inr h), fun e => HXE.out (e ▸ h)⟩)
      go_wp2_with fail
      go_frame
      go_roundw
      case rel => exact ⟨_, _, _, HI6, HP2, HQ3, HKR6⟩
      case measure => rw [HI6.out.count, HCNT.out, List.length_eraseIdx_of_lt HLT.out]; have := HLT.out; omega
set_option maxHeartbeats 8000000 in
theorem delBoth_any (w : World) (b : Nat) (lst : List (Ad × Nix)) (p : Ad → Bool) (cap : Value) (hm : MapIs AdOk adV unitV w b lst) (hbl : b < w.heap.size) (hnl : (keysA lst).Nodup)
    (hC : ∀ w' x, AdOk x → Keep (fun k => k = b) w w' → Calls Try.prog 58 #[.agg (adCs x).toArray, .agg #[], cap] w' fun e w'' => e = .returned (.bool (p x)) ∧ Keep noBlk w' w'') :
    Calls Try.prog 57 #[.map (some b), .func (.func 58) #[] #[cap]] w (DelPost w b lst p) := by
  have HM := Lib.hid hm; have HC := Lib.hid hC
  clear hm hC
  go_enter Try.func57, Try.ntmps57
  go_wp2_with (first
    | ((with_reducible show wpList _ _ _ (⟨_, .range _ _, _, _, _, _⟩ :: _) _ _); refine wpList_range_is rfl (.tmp 6) 91 rfl Try.underlying91 rfl HM.out ?_
       intro w1 hi1 hk1 hs1
       have HI := Lib.hid hi1; have HK1 := Lib.hid hk1
       have hs1' : w.heap.size < w1.heap.size := by omega
       clear hi1 hk1 hs1))
  go_frame
  go_loopw [9] (fun _ wr => ∃ (left cur : List (Ad × Nix)) (pre : List Ad), Hid (IterIs AdOk adV unitV wr b w.heap.size cur left) ∧ Hid ((pre ++ keysA left).Perm (keysA lst)) ∧ Hid (∀ q, q ∈ keysA cur ↔ (q ∈ pre ∧ p q = false) ∨ q ∈ keysA left) ∧ Hid (Keep (fun k => k = b) w wr)) (fun _ wr => wr.rangeLeft b w.heap.size)
  case atStart => exact ⟨lst, lst, [], HI, Lib.hid (by simp), Lib.hid (fun q => by simp), Lib.hid (HK1.out.any)⟩
  case round =>
  obtain ⟨left, cur, pre, HI2, HP, HQ, HKR⟩ := hrel
  have HCNT := Lib.hid HI2.out.count
  have hsr := HKR.out.size
  have hbw : b < w.heap.size := hbl
  go_wp2_with (first
    | ((with_reducible show wpList _ _ _ (⟨_, .next _ _, _, _, _, _⟩ :: _) _ _); refine wpList_next_is rfl (.tmp 7) rfl rfl HI2.out ?_ ?_))
  · intro hl
    go_wp2_with fail
    go_end0
    subst hl
    exact ⟨rfl, cur, HI2.out.map, fun q => by rw [HQ.out q, ← HP.out.mem_iff]; simp [keysA], HKR.out⟩
  · intro i x v w2 hxi hxo hi2 hk2 hs2 he2
    have hxm : x ∈ keysA left := List.mem_map.2 ⟨(x, v), List.mem_of_getElem? hxi, rfl⟩
    have hpe : (keysA left).Perm (x :: keysA (left.eraseIdx i)) := by have := (eraseIdx_perm hxi).map (fun p : Ad × Nix => p.1); exact this
    have hnd : (pre ++ keysA left).Nodup := HP.out.nodup_iff.2 hnl
    have hxp : x ∉ pre := fun h => (List.nodup_append.1 hnd).2.2 x h x hxm rfl
    have hxe : x ∉ keysA (left.eraseIdx i) := (List.nodup_cons.1 (hpe.nodup_iff.1 (List.nodup_append.1 hnd).2.1)).1
    have HP2 : Hid (((pre ++ [x]) ++ keysA (left.eraseIdx i)).Perm (keysA lst)) := Lib.hid (by
      refine List.Perm.trans ?_ HP.out
      rw [List.append_assoc, List.singleton_append]
      exact (hpe.append_left pre).symm)
    have HQ2 := Lib.hid (fun q => (show q ∈ keysA left ↔ q = x ∨ q ∈ keysA (left.eraseIdx i) by rw [hpe.mem_iff, List.mem_cons]))
    have HXP := Lib.hid hxp; have HXE := Lib.hid hxe
    have hkr : Keep (fun k => k = b) w w2 := HKR.out.trans' hk2 (fun _ _ h => h) (fun i hi e => by omega)
    have HI3 := Lib.hid hi2; have HE3 := Lib.hid he2; have HKR2 := Lib.hid hkr; have HXO := Lib.hid hxo
    have HLT := Lib.hid (List.getElem?_eq_some_iff.1 hxi).1
    have HC1 := Lib.hid hi2.count
    have hs2' : wr.heap.size ≤ w2.heap.size := hk2.size
    have hu : ∀ x : Nix, unitV x = .agg #[] := fun _ => rfl
    have HU := Lib.hid hu
    clear hxi hxo hi2 hk2 hs2 he2 hxm hpe hnd hxp hxe hkr hu
    unfold adV
    rw [HU.out]
    go_wp2_with (first
      | ((with_reducible show wpList _ _ _ (⟨_, .entry _, _, _, _, _⟩ :: _) _ _); refine wpList_entry_is rfl (.tmp 7) rfl rfl HE3.out ?_; show wpList _ _ _ _ (Act.put _ _ (Value.tuple #[.agg (adCs x).toArray, .agg #[]])) _)
      | ((with_reducible show wpList _ _ _ (⟨some 4, .alloc 50, _, _, _, _⟩ :: _) _ _); refine wpList_alloc_at rfl 50 rfl zeroAd zeroAddr #[.int .i64 0, .int .i64 0] rfl ?_)
      | ((with_reducible show wpList _ _ _ (⟨some 5, .alloc 94, _, _, _, _⟩ :: _) _ _); refine wpList_alloc_at rfl 94 rfl (.agg #[]) zeroNix #[] rfl ?_)
      | ((with_reducible show wpList _ _ _ (⟨none, .store 50 (.tmp 4) (.tmp 11), _, _, _, _⟩ :: _) _ _); refine wpList_store_agg rfl 50 (.tmp 4) (.tmp 11) rfl w2.heap.size 0 (adCs x) rfl rfl #[.int .i64 0, .int .i64 0] 50 (heap_alloc2_old _ _ _) (Nat.le_refl _) sizeAd (oneCell_ad _) ?_
         intro w3 hb3 hk3
         rw [spl_whole _ _ (by rfl)] at hb3
         have hk4 : Keep noBlk w2 w3 := (((Keep.refl noBlk w2).alloc _).alloc _).trans' hk3 (fun _ _ h => h) (fun i hi e => by omega)
         have hn3 := hk3.blk (heap_alloc2_new w2 (.cells #[.int .i64 0, .int .i64 0] 50) (.cells #[] 94)) (by omega)
         have HB3 := Lib.hid hb3; have HN3 := Lib.hid hn3; have HK4 := Lib.hid hk4
         have hs4 := hk4.size
         clear hb3 hk3 hk4 hn3)
      | ((with_reducible show wpList _ _ _ (⟨_, .load 50 (.tmp 4), _, _, _, _⟩ :: _) _ _); refine wpList_load_mid rfl 50 (.tmp 4) rfl w2.heap.size 0 rfl (adCs x) _ (rangeAt_whole HB3.out) adUnder rfl sizeAd ?_)
      | ((with_reducible show wpList _ _ _ (⟨_, .load 94 (.tmp 5), _, _, _, _⟩ :: _) _ _); refine wpList_load_mid rfl 94 (.tmp 5) rfl (w2.heap.size + 1) 0 rfl ([]) _ (fun j u h => by cases h) Try.underlying94 rfl sizeNix ?_))
    have HKR3 := Lib.hid (HKR2.out.trans' HK4.out (U := fun k => k = b) (fun _ _ h => h) (fun _ _ h => h.elim))
    refine (HC.out w3 x HXO.out HKR3.out).mono ?_
    rintro e w4 ⟨rfl, hk⟩
    have HI5 := Lib.hid ((HI3.out.keep HK4.out id id).keep hk id id)
    have HB5 := Lib.hid (hk.blk HB3.out id)
    have HKR4 := Lib.hid (HKR3.out.trans' hk (U := fun k => k = b) (fun _ _ h => h) (fun _ _ h => h.elim))
    have hs5 := hk.size
    clear hk HI3 HB3 HN3 HK4 HKR3
    obtain ⟨bq, hbq⟩ : ∃ y, p x = y := ⟨_, rfl⟩
    have HBQ := Lib.hid hbq
    rw [hbq]
    clear hbq
    cases bq
    · have HQ3 : Hid (∀ q, q ∈ keysA cur ↔ (q ∈ pre ++ [x] ∧ p q = false) ∨ q ∈ keysA (left.eraseIdx i)) := Lib.hid (fun q => by
        rw [HQ.out q, HQ2.out q, List.mem_append, List.mem_singleton]
        constructor
        · rintro (⟨h1, h2⟩ | rfl | h)
          · exact .inl ⟨.inl h1, h2⟩
          · exact .inl ⟨.inr rfl, HBQ.out⟩
          · exact .inr h
        · rintro (⟨h1 | rfl, h2⟩ | h)
          · exact .inl ⟨h1, h2⟩
          · exact .inr (.inl rfl)
          · exact .inr (.inr h))
      go_wp2_with fail
      go_roundw
      case rel => exact ⟨_, _, _, HI5, HP2, HQ3, HKR4⟩
      case measure => rw [HI5.out.count, HCNT.out, List.length_eraseIdx_of_lt HLT.out]; have := HLT.out; omega
    · have hna : ∀ p ∈ left.eraseIdx i, p.1 ≠ x := fun p hp e => HXE.out (List.mem_map.2 ⟨p, hp, e⟩)
      have HNA := Lib.hid hna
      clear hna
      go_wp2_with (first
        | ((with_reducible show wpList _ _ _ (⟨_, .load 50 (.tmp 4), _, _, _, _⟩ :: _) _ _); refine wpList_load_mid rfl 50 (.tmp 4) rfl w2.heap.size 0 rfl (adCs x) _ (rangeAt_whole HB5.out) adUnder rfl sizeAd ?_)
        | ((with_reducible show wpList _ _ _ (⟨_, .call _, _, _, _, _⟩ :: _) _ _); refine wpList_delete_is rfl (.tmp 17) (.tmp 18) rfl adEnc Try.underlying91 x HXO.out rfl rfl HI5.out HNA.out ?_
           intro w6 hi6 hk6 hs6
           have HI6 := Lib.hid hi6
           have HKR6 := Lib.hid (HKR4.out.trans' hk6 (U := fun k => k = b) (fun _ _ h => h) (fun _ _ h => h))
           clear hi6 hk6 hs6))
      have HQ3 : Hid (∀ q, q ∈ keysA (cur.filter fun p => !decide (p.1 = x)) ↔ (q ∈ pre ++ [x] ∧ p q = false) ∨ q ∈ keysA (left.eraseIdx i)) := Lib.hid (fun q => by
        rw [mem_keys_filter, HQ.out q, HQ2.out q, List.mem_append, List.mem_singleton]
        constructor
        · rintro ⟨⟨h1, h2⟩ | rfl | h, hne⟩
          · exact .inl ⟨.inl h1, h2⟩
          · exact absurd rfl hne
          · exact .inr h
        · rintro (⟨h1 | rfl, h2⟩ | h)
          · exact ⟨.inl ⟨h1, h2⟩, fun e => HXP.out (e ▸ h1)⟩
          · rw [HBQ.out] at h2; cases h2
          · exact ⟨.inr (.inr h), fun e => HXE.out (e ▸ h)⟩)
      go_wp2_with fail
      go_frame
      go_roundw
      case rel => exact ⟨_, _, _, HI6, HP2, HQ3, HKR6⟩
      case measure => rw [HI6.out.count, HCNT.out, List.length_eraseIdx_of_lt HLT.out]; have := HLT.out; omega
end Go.Proofs.Ytfjklgbakhjjiaa
