/-
  RingLaid's walk.
  Conditions: none.
-/
import Derived.Test.YtaiicjhnhbkgmaaGreatDoorRingS
namespace Go.Proofs.YtaiicjhnhbkgmaaGreatDoor
open Go.RowKit Go.Maps Go.ChangeMaps
set_option maxRecDepth 100000
set_option linter.unusedVariables false

theorem nil4_get {p : Nat} (h : p < 4) : (#[Value.slice none 0 0, .slice none 0 0, .slice none 0 0, .slice none 0 0] : Array Value)[p]? = some (.slice none 0 0) := by
  match p, h with
  | 0, _ => rfl
  | 1, _ => rfl
  | 2, _ => rfl
  | 3, _ => rfl
set_option maxHeartbeats 16000000 in
theorem ringLaid_walk (w : World) (aF aR : Addr) (hg : ErrG w aF aR) (a : Int) (ha1 : -9223372036854775808 ≤ a) (ha2 : a ≤ 9223372036854775807) (b : Int) (hb1 : -9223372036854775808 ≤ b) (hb2 : b ≤ 9223372036854775807)
    (c : Int) (hc1 : -9223372036854775808 ≤ c) (hc2 : c ≤ 9223372036854775807) : Calls Tryz.prog 8 #[.int .i64 a, .int .i64 b, .int .i64 c] w (TherePost w true) := by
  obtain ⟨zc, hzc, hzl⟩ : ∃ zc, ubCs (.slice none 0 0) zUb = zc ∧ zc.length = 69 := ⟨_, rfl, rfl⟩
  have hzv : ∀ w, (zeroValue 36).run Tryz.prog w = .ok (.agg zc.toArray) w := by rw [← hzc]; exact zeroValUb
  have HZV := Lib.hid hzv; have HZC := Lib.hid hzc
  clear hzc hzv
  obtain ⟨pz, hpz, hbz⟩ : ∃ l, zeros32.map vb = l ∧ ∀ w, (Instr.build 32 #[]).run Tryz.prog w = .ok (.agg l.toArray) w := ⟨_, rfl, fun w => by kernel_rfl⟩
  have HPZ := Lib.hid hpz; have HBZ := Lib.hid hbz
  clear hpz hbz
  have HG0 := Lib.hid hg
  have HG := Lib.hid hg; have HK := Lib.hid (Keep.refl noBlk w)
  have hf1 := Int.emod_nonneg a (show (2147483608 : Int) ≠ 0 by decide)
  have hf2 := Int.emod_lt_of_pos a (show (0 : Int) < 2147483608 by decide)
  have hm1 := Int.emod_nonneg b (show (30 : Int) ≠ 0 by decide)
  have hm2 := Int.emod_lt_of_pos b (show (0 : Int) < 30 by decide)
  have hw1 := Int.emod_nonneg c (show (3 : Int) ≠ 0 by decide)
  have hw2 := Int.emod_lt_of_pos c (show (0 : Int) < 3 by decide)
  obtain ⟨f, hf⟩ : ∃ f : Int, 1 + a % 2147483608 = f := ⟨_, rfl⟩
  obtain ⟨m, hm⟩ : ∃ m : Nat, 1 + b % 30 = (m : Int) := ⟨(1 + b % 30).toNat, by omega⟩
  obtain ⟨d, hd⟩ : ∃ d : Int, c % 3 = d := ⟨_, rfl⟩
  have hfa : 1 ≤ f ∧ f ≤ 2147483608 := by omega
  have hma : 1 ≤ m ∧ m ≤ 30 := by omega
  have hda : 0 ≤ d ∧ d < 3 := by omega
  have HPA := Lib.hid (fun w => pick_any w a 2147483608 (by decide) (by decide) ha1 ha2)
  have HPB := Lib.hid (fun w => pick_any w b 30 (by decide) (by decide) hb1 hb2)
  have HPC := Lib.hid (fun w => pick_any w c 3 (by decide) (by decide) hc1 hc2)
  have HFE := Lib.hid hf; have HME := Lib.hid hm; have HDE := Lib.hid hd
  have HFA := Lib.hid hfa; have HMA := Lib.hid hma; have HDA := Lib.hid hda
  clear hg hf hm hd hf1 hf2 hm1 hm2 hw1 hw2 ha1 ha2 hb1 hb2 hc1 hc2 hfa hma hda
  go_enter Tryz.func8, Tryz.ntmps8
  go_wp2_with fail
  refine (awakeR_any w aF aR HG.out).mono ?_
  rintro e w1 ⟨rfl, hk⟩
  have HG := Lib.hid (HG.out.keep hk)
  have HK := Lib.hid (HK.out.trans hk)
  clear hk
  go_wp2_with fail
  refine (HPA.out w1).mono ?_
  rintro e w' ⟨rfl, rfl⟩
  have hbf : -9223372036854775808 ≤ 1 + a % 2147483608 ∧ 1 + a % 2147483608 ≤ 9223372036854775807 := by have := HFE.out; have := HFA.out; omega
  go_wp2_with fail
  rw [HFE.out]
  refine (HPB.out w1).mono ?_
  rintro e w' ⟨rfl, rfl⟩
  have hbm : -9223372036854775808 ≤ 1 + b % 30 ∧ 1 + b % 30 ≤ 9223372036854775807 := by have := HME.out; have := HMA.out; omega
  go_wp2_with fail
  rw [HME.out]
  clear hbf hbm
  obtain ⟨sb, hrb_⟩ : ∃ x, w1.heap.size = x := ⟨_, rfl⟩
  have hb_ := heap_alloc_new w1 (.cells #[.slice none 0 0, .slice none 0 0, .slice none 0 0, .slice none 0 0] 51)
  have hk : Keep noBlk w1 (w1.alloc (.cells #[.slice none 0 0, .slice none 0 0, .slice none 0 0, .slice none 0 0] 51)) := (Keep.refl _ _).alloc _
  rw [hrb_] at hb_ ⊢
  generalize w1.alloc (.cells #[.slice none 0 0, .slice none 0 0, .slice none 0 0, .slice none 0 0] 51) = w2 at *
  have HSB := Lib.hid (show w.heap.size ≤ sb from by rw [← hrb_]; exact HK.out.size)
  have HG := Lib.hid (HG.out.keep hk)
  have HK := Lib.hid (HK.out.trans hk)
  have hsl0 : SlotsIs w2 sb (laidL f 0) [.slice none 0 0, .slice none 0 0, .slice none 0 0, .slice none 0 0] := slots_nil hb_
  have HSL := Lib.hid hsl0
  clear hk hb_ hrb_ hsl0
  have hf1 := HFA.out.1; have hf2 := HFA.out.2; have hm1 := HMA.out.1; have hm2 := HMA.out.2
  go_loopw [9] (fun i wr => ∃ (k : Nat) (vs : List Value), k ≤ m ∧ i = .int .i64 k ∧ Hid (SlotsIs wr sb (laidL f k) vs) ∧ Hid (Keep noBlk w wr)) (fun i _ => m - (intOf i).toNat)
  case atStart => exact ⟨0, _, Nat.zero_le _, rfl, HSL, HK⟩
  case round =>
  clear HK HSL HG
  obtain ⟨k, vs, hk, rfl, HSL, HK⟩ := hrel
  have HG := Lib.hid (HG0.out.keep HK.out)
  by_cases hlt : k < m
  · have hki : (k : Int) < (m : Int) := by omega
    have hk0 : (0 : Int) ≤ (k : Int) := by omega
    obtain ⟨t, ht⟩ : ∃ t : Int, f + (k : Int) = t := ⟨_, rfl⟩
    have hb1 : 1 ≤ t := by omega
    have hb2 : t ≤ 2147483648 := by omega
    obtain ⟨s, hs⟩ : ∃ s : Nat, t % 4 = (s : Int) := ⟨(t % 4).toNat, by omega⟩
    have hs4 : s < 4 := by omega
    obtain ⟨hsb, hsn⟩ := slot_in hb1 hb2
    rw [hs] at hsn
    have HSB_ := Lib.hid hsb; have HSN := Lib.hid hsn; have HTE := Lib.hid ht; have HSE := Lib.hid hs
    have hc1_ : decide (1 + (s : Int) < 1) = false := decide_eq_false (by omega)
    have hc2_ : decide (4 < 1 + (s : Int)) = false := decide_eq_false (by omega)
    have hsi : (s : Int) < 4 := by omega
    have hs0 : (0 : Int) ≤ (s : Int) := by omega
    have hbt : -9223372036854775808 ≤ f + (k : Int) ∧ f + (k : Int) ≤ 9223372036854775807 := by omega
    clear hsb hsn hs ht
    go_wp2_with fail
    rw [HTE.out]
    refine (slot_any wr t (by omega) (by omega)).mono ?_
    rintro e w3 ⟨rfl, hk_⟩
    rw [HSB_.out, HSN.out]
    have HSL := Lib.hid (HSL.out.keep hk_)
    have HK := Lib.hid (HK.out.trans hk_)
    have HG := Lib.hid (HG.out.keep hk_)
    clear hk_
    go_wp2_with fail
    rw [HTE.out]
    refine (of_any w3 t).mono ?_
    rintro e w4 ⟨v1, rfl, ho, hk⟩
    have HSL := Lib.hid (HSL.out.keep hk)
    have HK := Lib.hid (HK.out.trans hk)
    have HG := Lib.hid (HG.out.keep hk)
    clear hk
    obtain ⟨a1, c1, hv_, -, -⟩ := (Rd.of_owns ho).form
    subst hv_
    have hm_ : (packU (ofUb t)).length = 256 := packU_len rfl rfl (may_of hb1 hb2)
    have HM1 := Lib.hid hm_
    have hr_ := Rd.of_owns ho
    rw [hm_] at hr_ ⊢
    have HRB1 := Lib.hid hr_
    obtain ⟨lc1, hlc_, hl1, hoo⟩ : ∃ l, ubCs (Value.slice none 0 0) (ofUb t) = l ∧ l.length = 69 ∧ ∀ u ∈ l, u.oneCell' = true := ⟨_, rfl, rfl, oneCell_ub _⟩
    have HLC1 := Lib.hid hlc_; have HC1 := Lib.hid hoo
    rw [hlc_]
    clear ho hm_ hr_ hlc_ hoo
    go_wp2_with (first
      | ((with_reducible show wpList _ _ _ (⟨_, .alloc 36, _, _, _, _⟩ :: _) _ _); refine wpList_alloc_at rfl 36 rfl _ HZV.out zc.toArray rfl ?_)
      | ((with_reducible show wpList _ _ _ (⟨none, .store 36 (.tmp 12) (.tmp 53), _, _, _, _⟩ :: _) _ _)
         refine wpList_store_agg rfl 36 (.tmp 12) (.tmp 53) rfl w4.heap.size 0 lc1 rfl rfl zc.toArray _ (heap_alloc_new _ _) (by rw [hl1, List.size_toArray, hzl]; exact Nat.le_refl _) (sizeUbL hl1) HC1.out ?_
         intro w5 hb5 hk5
         rw [spl_whole _ _ (by rw [hl1, List.size_toArray, hzl])] at hb5
         have hkb : Keep noBlk w4 w5 := ((Keep.refl noBlk w4).alloc _).trans' hk5 (fun _ _ h => h.elim) (fun i hi e => by omega)
         clear hk5
         obtain ⟨b1, hb_⟩ : ∃ b, w4.heap.size = b := ⟨_, rfl⟩
         rw [hb_] at hb5 ⊢
         have HBS1 := Lib.hid hb_; clear hb_
         have HB1 := Lib.hid hb5
         have hsl_ := HSL.out.keep hkb
         obtain ⟨a0, n0, c0, h1_, -⟩ := hsl_.at_ s _ (laidL_get f k s hs4)
         have hcs := blk_cell hsl_.blk (i := s) (by rw [List.getElem?_toArray]; exact h1_)
         have hfs := blk_free hsl_.blk s
         clear hsl_ h1_; clear hb5))
    have HSL := Lib.hid (HSL.out.keep hkb)
    have HK := Lib.hid (HK.out.trans hkb)
    have HG := Lib.hid (HG.out.keep hkb)
    have HRB1 := Lib.hid (HRB1.out.keep hkb fun _ _ => id)
    clear hkb
    go_roundw
    case rel =>
      refine ⟨k + 1, vs.set s (.slice a1 256 c1), by omega, by go_num, Lib.hid ?_, Lib.hid (HK.out.setCell (p := ⟨sb, s, none⟩) (fun h => absurd h (by have := HSB.out; show ¬ sb < _; omega)) _)⟩
      have h1 := HSL.out.set hs4 (by rw [HM1.out]; exact HRB1.out)
      have e := laidL_step f k s (by rw [HTE.out]; exact HSE.out) hs4
      rw [HTE.out] at e
      rw [e] at h1
      exact h1
    case measure => simp [intOf]; omega
  · obtain rfl : k = m := by omega
    have hfm : f + (k : Int) ≤ 2147483648 := by omega
    have HFM := Lib.hid hfm
    clear hfm
    go_wp2_with ((with_reducible show wpList _ _ _ (⟨_, .build 32 #[], _, _, _, _⟩ :: _) _ _); refine wpList_build_to rfl 32 #[] rfl [] rfl (.agg pz.toArray) HBZ.out ?_)
    have hfa : foundA (laidL f k) zeros32 = ((List.range 4).flatMap (foundAt (laidL f k) zeros32), 0) := if_pos rfl
    refine (show Calls Tryz.prog 19 #[.slice (some ⟨sb, 0, none⟩) 4 4, .agg pz.toArray] wr (FoundPost wr ((List.range 4).flatMap (foundAt (laidL f k) zeros32), 0)) from by rw [← HPZ.out, ← hfa]; exact found_any wr aF aR HG.out _ _ HSL.out.rows zeros32 rfl (fun L hL => by have := laidL_len f k L hL; omega)).mono ?_
    rintro e w3 ⟨v5, qs, rfl, ho, hq, hu, hk_⟩
    clear hfa
    have HSL := Lib.hid (HSL.out.keep hk_)
    have HK := Lib.hid (HK.out.trans hk_)
    have HG := Lib.hid (HG.out.keep hk_)
    obtain ⟨nq, hnq⟩ : ∃ n, qs.length = n := ⟨_, rfl⟩
    have hnq4 : nq ≤ 4 := by
      have h := congrArg List.length hq
      rw [List.length_map, hnq] at h
      rw [h]; exact found_four _ _
    have hqa : ∀ p ∈ qs, p.2.root.addrs.length ≤ 65536 := fun p hp => by
      have h1 : p.2 ∈ qs.map (·.2) := List.mem_map.2 ⟨p, hp, rfl⟩
      rw [hq] at h1
      obtain ⟨s, hs, h2⟩ := List.mem_flatMap.1 h1
      obtain ⟨j, -, -, -, h3⟩ := (laid_found hf1 HFM.out (List.mem_range.1 hs) _).1 h2
      rw [h3]; exact Nat.zero_le _
    have hr_ := Rd.of_owns ho
    have HQR := Lib.hid hr_; have HQV := Lib.hid hu.V; have HQA := Lib.hid hqa; have HQM := Lib.hid hq; have HQN := Lib.hid hnq
    obtain ⟨a5, c5, hv_, -, -⟩ := hr_.form
    rw [hnq] at hv_
    subst hv_
    clear hk_ ho hq hu hr_ hqa hnq
    go_wp2_with fail
    refine (best_any w3 _ qs HQR.out HQV.out (by rw [HQN.out]; omega) HQA.out).mono ?_
    rintro e w4 ⟨v6, q6, rfl, ho6, hb6, hu6, hk_, -⟩
    rw [HQM.out] at hb6
    have he6 := hb6.unique (laid_best hf1 HFM.out)
    obtain ⟨n6, hn6⟩ : ∃ n, q6.length = n := ⟨_, rfl⟩
    have hn64 : n6 = min k 4 := by
      have h := congrArg List.length he6
      rw [List.length_map, hn6] at h
      rw [h]; unfold lastL; rw [List.length_map, List.length_range]
    have HL6 := Lib.hid (show UbLens q6 from fun q hq => ⟨(hu6 q hq).2.1, (hu6 q hq).1⟩)
    have hr6 := Rd.of_owns ho6
    rw [hn6] at hr6
    obtain ⟨a6, c6, hv_, -, -⟩ := hr6.form
    subst hv_
    have HR6 := Lib.hid hr6; have HE6 := Lib.hid he6; have HN6 := Lib.hid hn6; have HN64 := Lib.hid hn64
    have HSL := Lib.hid (HSL.out.keep hk_)
    have HK := Lib.hid (HK.out.trans hk_)
    have HG := Lib.hid (HG.out.keep hk_)
    clear hk_ ho6 hb6 hu6 he6 hn6 hr6
    have hmin : min (k : Int) 4 = (n6 : Int) := by omega
    have hmin2 : (if (4 : Int) < (k : Int) then 4 else (k : Int)) = (n6 : Int) := by split <;> omega
    clear hn64
    go_wp2_with fail
    go_loopw [17] (fun i wr => ∃ j : Nat, j ≤ n6 ∧ i = .int .i64 j ∧ Hid (w4 = wr)) (fun i _ => n6 - (intOf i).toNat)
    case atStart => exact ⟨0, Nat.zero_le _, rfl, Lib.hid rfl⟩
    case round =>
    obtain ⟨j, hj, rfl, HWR⟩ := hrel
    have hwr := HWR.out
    subst hwr
    by_cases hjn : j < n6
    · have hji : (j : Int) < (n6 : Int) := by omega
      have hj0 : (0 : Int) ≤ (j : Int) := by omega
      obtain ⟨q, hq⟩ : ∃ q, q6[j]? = some q := ⟨q6[j]'(by rw [HN6.out]; exact hjn), List.getElem?_eq_getElem _⟩
      obtain ⟨g6, o6, cap6, hv6, hat6⟩ := rd_ub HL6.out (by rw [HN6.out]; exact HR6.out) hq
      have e6 : a6 = some ⟨g6, o6, none⟩ := by cases hv6; rfl
      subst e6
      have ct := (ub_mem (HL6.out q (List.mem_of_getElem? hq)).1 hat6).1
      have hqt : q.2.txg = f + (k : Int) - 1 - (j : Int) := by
        have h1 : (q6.map (·.2))[j]? = some q.2 := by rw [List.getElem?_map, hq]; rfl
        have h2 := HN64.out
        rw [HE6.out] at h1
        unfold lastL at h1
        rw [List.getElem?_map, List.getElem?_range (by omega)] at h1
        have h3 := Option.some.inj h1
        rw [← h3]; rfl
      rw [hqt] at ct
      have hbt : -9223372036854775808 ≤ f + (k : Int) ∧ f + (k : Int) ≤ 9223372036854775807 := by omega
      clear hq hv6 hat6 hqt
      go_wp2_with fail
      go_roundw
      case rel => first | exact ⟨j + 1, by omega, by go_num, Lib.hid rfl⟩ | exact ⟨j + 1, by omega, by go_num, Lib.hid trivial⟩
      case measure => simp [intOf]; omega
    · obtain rfl : n6 = j := by omega
      have HU_ := Lib.hid (used_any w4 _ (laidL f k) HSL.out.rows (laidL_len f k))
      go_wp2_with fail
      refine (show Calls Tryz.prog 21 _ w4 (fun e w' => e = .returned (.tuple #[.int .i64 (n6 : Int), .int .i64 0]) ∧ Keep noBlk w4 w') from HU_.out.mono fun e w' h => ⟨h.1.trans (by rw [if_pos (show (laidL f k).length = 4 from rfl), if_pos (show (laidL f k).length = 4 from rfl), usedN_laid hf1 HFM.out, HN64.out]), h.2⟩).mono ?_
      rintro e w5 ⟨rfl, hk_⟩
      have HSL := Lib.hid (HSL.out.keep hk_)
      have HK := Lib.hid (HK.out.trans hk_)
      have HG := Lib.hid (HG.out.keep hk_)
      have HR6 := Lib.hid (HR6.out.keep hk_ fun _ _ => id)
      clear hk_ HU_
      go_wp2_with fail
      obtain ⟨r, hr⟩ : ∃ r : Nat, f % 4 = (r : Int) := ⟨(f % 4).toNat, by omega⟩
      have hr4 : r < 4 := by omega
      obtain ⟨hsb, hsn⟩ := slot_in (t := f) (by omega) (by omega)
      rw [hr] at hsn
      have HRE := Lib.hid hr; have HSB_ := Lib.hid hsb; have HSN := Lib.hid hsn
      clear hr hsb hsn
      refine (slot_any w5 f (by omega) (by omega)).mono ?_
      rintro e w6 ⟨rfl, hk_⟩
      rw [HSB_.out, HSN.out]
      have HSL := Lib.hid (HSL.out.keep hk_)
      have HK := Lib.hid (HK.out.trans hk_)
      have HG := Lib.hid (HG.out.keep hk_)
      have HR6 := Lib.hid (HR6.out.keep hk_ fun _ _ => id)
      clear hk_
      have hd1 := HDA.out.1; have hd2 := HDA.out.2
      go_wp2_with fail
      refine (HPC.out w6).mono ?_
      rintro e w' ⟨rfl, rfl⟩
      rw [HDE.out]
      go_wp2_with fail
      obtain ⟨p, hp⟩ : ∃ p : Nat, (1 + (r : Int) + d) % 4 = (p : Int) := ⟨((1 + (r : Int) + d) % 4).toNat, by omega⟩
      have hp4 : p < 4 := by omega
      have hpr : f % 4 ≠ (p : Int) := by have := HRE.out; omega
      have HPR := Lib.hid hpr; have HPE := Lib.hid hp
      clear hpr hp
      refine (pick_any w6 (1 + (r : Int) + d) 4 (by decide) (by decide) (by omega) (by omega)).mono ?_
      rintro e w' ⟨rfl, rfl⟩
      rw [HPE.out]
      have hpi : (p : Int) < 4 := by omega
      have hp0 : (0 : Int) ≤ (p : Int) := by omega
      go_wp2_with fail
      refine (of_any w6 f).mono ?_
      rintro e w7 ⟨v2, rfl, ho, hk⟩
      have HSL := Lib.hid (HSL.out.keep hk)
      have HK := Lib.hid (HK.out.trans hk)
      have HG := Lib.hid (HG.out.keep hk)
      have HR6 := Lib.hid (HR6.out.keep hk fun _ _ => id)
      clear hk
      obtain ⟨a2, c2, hv_, -, -⟩ := (Rd.of_owns ho).form
      subst hv_
      have hm_ : (packU (ofUb f)).length = 256 := packU_len rfl rfl (may_of (by omega) (by omega))
      have HM2 := Lib.hid hm_
      have hr_ := Rd.of_owns ho
      rw [hm_] at hr_ ⊢
      have HRB2 := Lib.hid hr_
      obtain ⟨lc2, hlc_, hl2, hoo⟩ : ∃ l, ubCs (Value.slice none 0 0) (ofUb f) = l ∧ l.length = 69 ∧ ∀ u ∈ l, u.oneCell' = true := ⟨_, rfl, rfl, oneCell_ub _⟩
      have HLC2 := Lib.hid hlc_; have HC2 := Lib.hid hoo
      rw [hlc_]
      clear ho hm_ hr_ hlc_ hoo
      go_wp2_with (first
        | ((with_reducible show wpList _ _ _ (⟨_, .alloc 36, _, _, _, _⟩ :: _) _ _); refine wpList_alloc_at rfl 36 rfl _ HZV.out zc.toArray rfl ?_)
        | ((with_reducible show wpList _ _ _ (⟨none, .store 36 (.tmp 23) (.tmp 138), _, _, _, _⟩ :: _) _ _)
           refine wpList_store_agg rfl 36 (.tmp 23) (.tmp 138) rfl w7.heap.size 0 lc2 rfl rfl zc.toArray _ (heap_alloc_new _ _) (by rw [hl2, List.size_toArray, hzl]; exact Nat.le_refl _) (sizeUbL hl2) HC2.out ?_
           intro w8 hb5 hk5
           rw [spl_whole _ _ (by rw [hl2, List.size_toArray, hzl])] at hb5
           have hkb : Keep noBlk w7 w8 := ((Keep.refl noBlk w7).alloc _).trans' hk5 (fun _ _ h => h.elim) (fun i hi e => by omega)
           clear hk5
           obtain ⟨b2, hb_⟩ : ∃ b, w7.heap.size = b := ⟨_, rfl⟩
           rw [hb_] at hb5 ⊢
           have HBS2 := Lib.hid hb_; clear hb_
           have HB2 := Lib.hid hb5
           obtain ⟨w9, hw9, k9, hb9, s9⟩ := alloc_facts w8 #[.slice none 0 0, .slice none 0 0, .slice none 0 0, .slice none 0 0] 51
           have HK9 := Lib.hid k9
           obtain ⟨sb2, hsb2⟩ : ∃ b, w8.heap.size = b := ⟨_, rfl⟩
           rw [hsb2] at hb9
           have hc9 := blk_cell hb9 (i := p) (v := .slice none 0 0) (nil4_get hp4)
           have hf9 := blk_free hb9 p
           have HS9 := Lib.hid (slots_nil hb9)
           have HN9 := Lib.hid hsb2
           clear k9 hb9 s9; clear hb5)
        | ((with_reducible show wpList _ _ _ (⟨_, .build 32 #[], _, _, _, _⟩ :: _) _ _); refine wpList_build_to rfl 32 #[] rfl [] rfl (.agg pz.toArray) HBZ.out ?_))
      have HSL := Lib.hid (HSL.out.keep hkb)
      have HK := Lib.hid (HK.out.trans hkb)
      have HG := Lib.hid (HG.out.keep hkb)
      have HR6 := Lib.hid (HR6.out.keep hkb fun _ _ => id)
      have HRB2 := Lib.hid (HRB2.out.keep hkb fun _ _ => id)
      clear hkb
      have h9 := (HS9.out.set (s := p) (L := packU (ofUb f)) (a := a2) (n := 256) (c := c2) hp4 (by rw [HM2.out]; exact HRB2.out.keep HK9.out fun _ _ => id))
      have HK9 : Hid (Keep noBlk w8 (w9.setCell ⟨sb2, p, none⟩ (.slice a2 256 c2))) := Lib.hid (HK9.out.setCell (p := ⟨sb2, p, none⟩) (fun h => absurd h (by have := HN9.out; show ¬ sb2 < _; omega)) _)
      obtain ⟨wn, hwn⟩ : ∃ x, w9.setCell ⟨sb2, p, none⟩ (.slice a2 256 c2) = x := ⟨_, rfl⟩
      rw [hwn] at h9 HK9
      have HRW := Lib.hid h9.rows
      clear h9
      first | rw [hwn] | skip
      go_wp2_with ((with_reducible show wpList _ _ _ (⟨_, .build 32 #[], _, _, _, _⟩ :: _) _ _); refine wpList_build_to rfl 32 #[] rfl [] rfl (.agg pz.toArray) HBZ.out ?_)
      clear hc9 hf9 hw9 hsb2 hwn
      have HSL := Lib.hid (HSL.out.keep HK9.out)
      have HK := Lib.hid (HK.out.trans HK9.out)
      have HG := Lib.hid (HG.out.keep HK9.out)
      have HR6 := Lib.hid (HR6.out.keep HK9.out fun _ _ => id)
      have HRB2 := Lib.hid (HRB2.out.keep HK9.out fun _ _ => id)
      have HB2 := Lib.hid (HK9.out.blk HB2.out id)
      have hC := found_any wn aF aR HG.out _ (strayL f p) HRW.out zeros32 rfl (stray_len f p)
      have hf3 : f ≤ 2147483648 := Int.le_trans hf2 (by decide)
      rw [stray_found hf1 hf3 hp4 HPR.out, HPZ.out] at hC
      refine hC.mono ?_
      rintro e w9 ⟨v7, q7, rfl, ho, hq, hu, hk_⟩
      have hq2 : q7.length = 0 := by have h := congrArg List.length hq; simpa using h
      obtain ⟨a7, c7, hv_, -, -⟩ := (Rd.of_owns ho).form
      rw [hq2] at hv_
      subst hv_
      have HSL := Lib.hid (HSL.out.keep hk_)
      have HK := Lib.hid (HK.out.trans hk_)
      have HG := Lib.hid (HG.out.keep hk_)
      have HR6 := Lib.hid (HR6.out.keep hk_ fun _ _ => id)
      have HRB2 := Lib.hid (HRB2.out.keep hk_ fun _ _ => id)
      have HB2 := Lib.hid (hk_.blk HB2.out id)
      clear hk_ ho hq hu hq2
      go_wp2_with fail
      go_ret
      exact ⟨rfl, HK.out⟩

end Go.Proofs.YtaiicjhnhbkgmaaGreatDoor
