/-
  caulkerref10.Found.
  Conditions: lists of at most 65536 bytes.
-/
import Derived.Test.YtaiicjhnhbkgmaaGreatDoorRingI
import Derived.Test.YtaiicjhnhbkgmaaGreatDoorRReader
namespace Go.Proofs.YtaiicjhnhbkgmaaGreatDoor
open Go.RowKit Go.Maps Go.ChangeMaps
set_option maxRecDepth 100000
set_option linter.unusedVariables false

set_option maxHeartbeats 8000000 in
theorem rfound_any (w : World) (v : Value) (hs : List (List UInt8)) (hr : RowsB w v hs) (pool : List UInt8) (hpl : pool.length = 32) (h600 : ∀ L ∈ hs, L.length ≤ 65536) :
    Calls Tryz.prog 20 #[v, .agg (pool.map vb).toArray] w (FoundPost w (foundA hs pool)) := by
  obtain ⟨oa, ca, hv, hlm⟩ := hr.form
  subst hv
  have HR := Lib.hid hr; have H6 := Lib.hid h600
  have hpc : (pool.map vb).length = 32 := by rw [List.length_map]; exact hpl
  have HPC := Lib.hid (oneCell_vb pool)
  obtain ⟨pcs, hpcs⟩ : ∃ l, pool.map vb = l := ⟨_, rfl⟩
  have HPS := Lib.hid hpcs
  rw [hpcs] at hpc HPC ⊢
  obtain ⟨n, hn⟩ : ∃ n, hs.length = n := ⟨_, rfl⟩
  have HN := Lib.hid hn
  rw [hn] at hlm ⊢
  unfold maxLen at hlm
  clear hr h600 hn hpcs
  obtain ⟨w1, hw1, k1, hb1, s1⟩ := alloc_facts w pcs.toArray 32
  have HK1 := Lib.hid k1; have HPB1 := Lib.hid hb1
  obtain ⟨pb, hpb⟩ : ∃ b, w.heap.size = b := ⟨_, rfl⟩
  have HPN := Lib.hid hpb
  rw [hpb] at HPB1
  have hpw : w1.heap.size = pb + 1 := by omega
  have HS1 := Lib.hid hpw
  clear k1 hb1 s1 hpw
  by_cases h4 : n = 4
  case neg =>
    have hne : (¬ (n : Int) = 4) := by omega
    have HE : Hid (foundA hs pool = ([], 2)) := Lib.hid (by unfold foundA; rw [if_neg (by rw [HN.out]; exact h4)])
    rw [HE.out]
    go_enter Tryz.func20, Tryz.ntmps20
    go_wp2_with fail
    go_ret2
    exact ⟨_, [], rfl, World.ownsRow_nil _ _ _ _, rfl, (fun q hq => by cases hq), HK1.out⟩
  case pos =>
    subst h4
    have HE : Hid (foundA hs pool = ((List.range 4).flatMap (foundAt hs pool), 0)) := Lib.hid (by unfold foundA; rw [if_pos HN.out])
    rw [HE.out]
    go_enter Tryz.func20, Tryz.ntmps20
    go_wp2_with fail
    clear hpb hw1
    go_loopw [6, 7] (fun t i wr => ∃ (k j : Nat) (pa : Option Addr) (pc : Nat) (qs : List (Value × Ub)), k ≤ 4 ∧ j ≤ k ∧ t = .slice pa j pc ∧ i = .int .i64 k ∧ Hid (qs.length = j) ∧ Hid (wr.ownsRow w.heap.size 36 69 (.slice pa j pc) j (ubRow qs)) ∧ Hid (qs.map (·.2) = (List.range k).flatMap (foundAt hs pool)) ∧ Hid (UbsO wr w.heap.size qs) ∧ Hid (Keep noBlk w1 wr)) (fun _ i _ => 4 - (intOf i).toNat)
    case atStart => exact ⟨0, 0, none, 0, [], Nat.zero_le _, Nat.le_refl _, rfl, rfl, Lib.hid rfl, Lib.hid (World.ownsRow_nil _ _ _ _), Lib.hid rfl, Lib.hid (fun q hq => by cases hq), Lib.hid (Keep.refl _ _)⟩
    case round =>
    obtain ⟨k, j, pa, pc, qs, hk, hjk, rfl, rfl, HJ, HQO, HQM, HQU, HKI⟩ := hrel
    by_cases hlt : k < 4
    · have hki : (k : Int) < 4 := by omega
      have hk0 : (0 : Int) ≤ (k : Int) := by omega
      obtain ⟨L, hL⟩ : ∃ L, hs[k]? = some L := ⟨hs[k]'(by rw [HN.out]; exact hlt), List.getElem?_eq_getElem _⟩
      have hLb := H6.out L (List.mem_of_getElem? hL)
      have hkW : Keep noBlk w wr := HK1.out.trans HKI.out
      obtain ⟨gb, go, gc, ua, uc, hv, hc, hru⟩ := (HR.out.keep hkW).at hL
      have e1 : oa = some ⟨gb, go, none⟩ := by cases hv; rfl
      subst e1
      have HPB := Lib.hid (HKI.out.blk HPB1.out id)
      obtain ⟨n, hn⟩ : ∃ n, L.length = n := ⟨_, rfl⟩
      have HNL := Lib.hid hn
      rw [hn] at hru hLb hc
      have HFA : Hid (foundAt hs pool k = foundL pool k L) := Lib.hid (by unfold foundAt; rw [hL])
      have HRD := Lib.hid hru; have HW0 := Lib.hid hkW
      clear hru hL hn hkW hv
      obtain ⟨zc, hzc, hzl⟩ : ∃ zc, ubCs (.slice none 0 0) zUb = zc ∧ zc.length = 69 := ⟨_, rfl, rfl⟩
      have hzv : ∀ w, (zeroValue 36).run Tryz.prog w = .ok (.agg zc.toArray) w := by rw [← hzc]; exact zeroValUb
      have HZV := Lib.hid hzv; have HZC := Lib.hid hzc
      clear hzc hzv
      go_wp2_with fail
      clear hc
      refine ((ruunpack_any wr (.slice ua n uc) L (by rw [HNL.out]; exact HRD.out) (by rw [HNL.out]; exact hLb)).mono fun e w' h => UUnpackPost.V h).mono ?_
      rintro e wb ⟨v1, rfl, hu_, ho_, hk⟩
      have hsz1 := hk.size
      have HPB := Lib.hid (hk.blk HPB.out id)
      have HRD := Lib.hid (HRD.out.keep hk fun _ _ => id)
      have HKI := Lib.hid (HKI.out.trans hk)
      have HQO := Lib.hid (hk.owns HQO.out fun _ _ => id)
      have HQU := Lib.hid (HQU.out.keep hk)
      clear hk
      obtain ⟨a1, c1, hv_, -, -⟩ := hu_.root.rd.form
      have hv2_ : v1 = .slice a1 ((unpackU L).1).root.addrs.length c1 := hv_
      clear hv_
      subst hv2_
      have hl1 := ubCs_len (v := .slice a1 ((unpackU L).1).root.addrs.length c1) hu_.root.sum hu_.pool
      have HC1 := Lib.hid (oneCell_ub (oa := a1) (n := ((unpackU L).1).root.addrs.length) (ca := c1) ((unpackU L).1))
      have HU1 := Lib.hid hu_
      have HO1 := Lib.hid ho_
      obtain ⟨lc1, hlc1⟩ : ∃ x, ubCs (.slice a1 ((unpackU L).1).root.addrs.length c1) ((unpackU L).1) = x := ⟨_, rfl⟩
      rw [hlc1] at hl1 HC1
      try rw [hlc1]
      have HLC1 := Lib.hid hlc1
      clear hlc1
      clear hu_ ho_
      have HF1 := Lib.hid (HO1.out.lt)
      go_wp2_with (first
        | ((with_reducible show wpList _ _ _ (⟨_, .alloc 36, _, _, _, _⟩ :: _) _ _); refine wpList_alloc_at rfl 36 rfl _ HZV.out zc.toArray rfl ?_)
        | ((with_reducible show wpList _ _ _ (⟨none, .store 36 (.tmp 8) (.tmp 27), _, _, _, _⟩ :: _) _ _)
           refine wpList_store_agg rfl 36 (.tmp 8) (.tmp 27) rfl wb.heap.size 0 lc1 rfl rfl zc.toArray _ (heap_alloc_new _ _) (by rw [hl1, List.size_toArray, hzl]; exact Nat.le_refl _) (sizeUbL hl1) HC1.out ?_
           intro wc hb5 hk5
           rw [spl_whole _ _ (by rw [hl1, List.size_toArray, hzl])] at hb5
           have hkb : Keep noBlk wb wc := ((Keep.refl noBlk wb).alloc _).trans' hk5 (fun _ _ h => h.elim) (fun i hi e => by omega)
           clear hk5
           obtain ⟨b1, hb_⟩ : ∃ b, wb.heap.size = b := ⟨_, rfl⟩
           rw [hb_] at hb5 ⊢
           have HBS1 := Lib.hid hb_; clear hb_
           have HB1 := Lib.hid hb5
           obtain ⟨ct, -, -, cp⟩ := ub_mem (v := .slice a1 (unpackU L).1.root.addrs.length c1) (u := (unpackU L).1) (o := 0) HU1.out.root.sum (by rw [HLC1.out]; exact rangeAt_whole hb5)
           simp only [Nat.zero_add] at ct cp
           have HPR := Lib.hid cp; clear cp; clear hb5))
      have HPB := Lib.hid (hkb.blk HPB.out id)
      have HRD := Lib.hid (HRD.out.keep hkb fun _ _ => id)
      have HKI := Lib.hid (HKI.out.trans hkb)
      have HQO := Lib.hid (hkb.owns HQO.out fun _ _ => id)
      have HQU := Lib.hid (HQU.out.keep hkb)
      have HU1 := Lib.hid (HU1.out.keep hkb fun _ _ => id)
      have HO1 := Lib.hid (hkb.owns HO1.out fun _ _ => id)
      clear hkb
      obtain ⟨U, hU⟩ : ∃ U, (unpackU L).1 = U := ⟨_, rfl⟩
      obtain ⟨er, her⟩ : ∃ r, (unpackU L).2 = r := ⟨_, rfl⟩
      have HUE := Lib.hid hU; have HER := Lib.hid her
      rw [hU] at HLC1 HF1 HU1 HO1 HPR ct
      rw [her, hU]
      have htx : -9223372036854775808 ≤ U.txg ∧ U.txg ≤ 9223372036854775807 := by
        by_cases h0 : er = 0
        · subst h0
          have h1 := unpackU_ok HER.out
          have h2 := ub_bounds (u := U) (by rw [← HUE.out, h1.2.1]; exact h1.2.2.1)
          omega
        · have h1 : U = zUb := by
            rw [← HUE.out]
            have h2 := HER.out
            unfold unpackU at h2 ⊢
            split
            · rfl
            · split
              · rfl
              · split
                · rename_i a b c
                  rw [if_neg a, if_neg b, if_pos c] at h2
                  exact absurd h2.symm h0
                · rfl
          rw [h1]; exact ⟨by decide, by decide⟩
      clear hU her
      have hneq := fun w => eqID U.pool pool HU1.out.pool hpl w
      have hpl1 : (U.pool.map vb).length = 32 := by rw [List.length_map]; exact HU1.out.pool
      rw [HPS.out] at hneq
      obtain ⟨up, hup⟩ : ∃ l, U.pool.map vb = l := ⟨_, rfl⟩
      rw [hup] at hneq hpl1 HPR
      obtain ⟨bq, hbq⟩ : ∃ b, decide (U.pool = pool) = b := ⟨_, rfl⟩
      rw [hbq] at hneq
      clear hup
      refine (rslot_any wc U.txg htx.1 htx.2).mono ?_
      rintro e wd ⟨rfl, hk⟩
      obtain ⟨sl, hsl_⟩ : ∃ s, slotN U.txg = s := ⟨_, rfl⟩
      obtain ⟨sb, hsb_⟩ : ∃ s, slotB U.txg = s := ⟨_, rfl⟩
      rw [hsl_, hsb_]
      have HSL := Lib.hid hsl_
      clear hsl_ hsb_ ct
      have HPB := Lib.hid (hk.blk HPB.out id)
      have HRD := Lib.hid (HRD.out.keep hk fun _ _ => id)
      have HKI := Lib.hid (HKI.out.trans hk)
      have HQO := Lib.hid (hk.owns HQO.out fun _ _ => id)
      have HQU := Lib.hid (HQU.out.keep hk)
      have HU1 := Lib.hid (HU1.out.keep hk fun _ _ => id)
      have HO1 := Lib.hid (hk.owns HO1.out fun _ _ => id)
      have HB1 := Lib.hid (hk.blk HB1.out id)
      have HPR := Lib.hid (hk.rangeAt HPR.out)
      clear hk
      by_cases h0 : er = 0
      · subst h0
        by_cases hse : sl = (k : Int) + 1
        · have hbn : (sl == 1 + (k : Int)) = true := by simp; omega
          cases bq
          · go_wp2_with (first
              | ((with_reducible show wpList _ _ _ (⟨_, .load 32 (.tmp 44), _, _, _, _⟩ :: _) _ _); refine wpList_load_g (by rfl) 32 (.tmp 44) rfl b1 37 rfl up _ HPR.out Tryz.underlying32 rfl (sizeIDL hpl1) ?_)
              | ((with_reducible show wpList _ _ _ (⟨_, .load 32 (.tmp 3), _, _, _, _⟩ :: _) _ _); refine wpList_load_g (by rfl) 32 (.tmp 3) rfl pb 0 rfl pcs _ (rangeAt_whole HPB.out) Tryz.underlying32 rfl (sizeIDL hpc) ?_))
            go_roundw
            case rel => exact ⟨k + 1, j, pa, pc, qs, by omega, by omega, rfl, by go_num, HJ, HQO, Lib.hid (by rw [List.range_succ, List.flatMap_append, List.flatMap_cons, List.flatMap_nil, HFA.out, HQM.out]; unfold foundL; rw [if_neg (by rintro ⟨-, h1, -⟩; rw [HUE.out] at h1; exact (of_decide_eq_false hbq) h1)]; simp), HQU, HKI⟩
            case measure => simp [intOf]; omega
          · have HU4 : Hid (UbsO wd w.heap.size (qs ++ [(.slice a1 U.root.addrs.length c1, U)])) := Lib.hid (HQU.out.snoc HU1.out.pool HU1.out.root.sum HU1.out.root.ads (ownsRow_mono HO1.out (by have := HW0.out.size; omega)))
            have HWW : Hid (Keep noBlk w wd) := Lib.hid (HK1.out.trans HKI.out)
            go_wp2_with (first
              | ((with_reducible show wpList _ _ _ (⟨_, .load 32 (.tmp 44), _, _, _, _⟩ :: _) _ _); refine wpList_load_g (by rfl) 32 (.tmp 44) rfl b1 37 rfl up _ HPR.out Tryz.underlying32 rfl (sizeIDL hpl1) ?_)
              | ((with_reducible show wpList _ _ _ (⟨_, .load 32 (.tmp 3), _, _, _, _⟩ :: _) _ _); refine wpList_load_g (by rfl) 32 (.tmp 3) rfl pb 0 rfl pcs _ (rangeAt_whole HPB.out) Tryz.underlying32 rfl (sizeIDL hpc) ?_)
              | ((with_reducible show wpList _ _ _ (⟨_, .load 36 (.tmp 8), _, _, _, _⟩ :: _) _ _); refine wpList_load_mid rfl 36 (.tmp 8) rfl b1 0 rfl lc1 _ (rangeAt_whole HB1.out) ubUnder rfl (sizeUbL hl1) ?_)
              | ((with_reducible show wpList _ _ _ (⟨_, .buildSlice _ 1 _, _, _, _, _⟩ :: _) _ _); refine wpList_build_one rfl 22 36 (.tmp 50) rfl Tryz.underlying22 infoUb (by decide) (lc1) hl1 (by decide) rfl ?_
                 have hkb : Keep noBlk wd (wd.alloc (.cells (lc1).toArray 36)) := (Keep.refl _ _).alloc _
                 have HRN := Lib.hid (rd_blk (n := 1) (size := 69) (heap_alloc_new wd (.cells (lc1).toArray 36)) hl1 (by unfold maxLen; omega))
                 have HKB := Lib.hid hkb
                 have hsb : wd.heap.size ≤ (wd.alloc (.cells (lc1).toArray 36)).heap.size := by rw [World.size_alloc]; omega
                 obtain ⟨X_w6, hX_w6⟩ : ∃ s, wd.heap.size = s := ⟨_, rfl⟩
                 rw [hX_w6] at HRN hsb ⊢
                 have hsc_w6 : wd.heap.size ≤ X_w6 := Nat.le_of_eq hX_w6
                 have HX_w6 := Lib.hid hX_w6; clear hX_w6
                 generalize hW4 : wd.alloc (.cells (lc1).toArray 36) = w6 at *
                 clear hW4 hkb)
              | (have HO6 := Lib.hid (HKB.out.owns HQO.out fun _ _ => id)
                 have hzb : w.heap.size ≤ w6.heap.size := Nat.le_trans HWW.out.size HKB.out.size
                 (at_builtin; refine wpList_append_rd rfl (.tmp 49) (.tmp 51) 22 rfl w.heap.size 36 (.agg (ubCs (.slice none 0 0) ⟨0, ⟨[], 0, 0, zeros32⟩, 0, zeros32⟩).toArray) 69 120 Tryz.underlying22 infoUb rfl (by decide) (.slice pa j pc) (j) (ubRow qs) rfl HO6.out (.slice (some ⟨X_w6, 0, none⟩) 1 1) (1) (lc1) rfl HRN.out HC1.out (by unfold maxLen; omega) (by omega) (by omega) ?_
                  intro v' w7 ho5 hk5 hn5 hb5
                  obtain ⟨g', cap', rfl⟩ := ownsRow_succ ho5
                  have HO7 := Lib.hid ho5; have HK5 := Lib.hid hk5; have HB5 := Lib.hid hb5
                  clear ho5 hk5 hn5 hb5)))
            go_roundw
            case rel =>
              refine ⟨k + 1, j + 1, some ⟨g', 0, none⟩, cap', qs ++ [(.slice a1 U.root.addrs.length c1, U)], by omega, by omega, rfl, by go_num, Lib.hid (by rw [List.length_append, HJ.out]; rfl), Lib.hid (by rw [ubRow_append, ubRow_one, HLC1.out]; exact HO7.out), Lib.hid ?_, Lib.hid (UbsO.grow (HU4.out.keep HKB.out) HO6.out HK5.out), Lib.hid ((HKI.out.trans HKB.out).trans' HK5.out (U := noBlk) (fun _ _ h => h) (fun i hi e => by
                have h1 := owns_base HO6.out e; have h2 := HPN.out; have h4 := HS1.out
                have h3 : i = pb := by omega
                obtain ⟨cur, hc⟩ := owns_block HO6.out e
                rw [h3, HKB.out.blk HPB.out id] at hc
                cases hc))⟩
              rw [List.map_append, HQM.out, List.range_succ, List.flatMap_append, List.flatMap_cons, List.flatMap_nil, HFA.out]; unfold foundL
              rw [if_pos ⟨HER.out, by rw [HUE.out]; exact of_decide_eq_true hbq, by rw [HUE.out, HSL.out]; exact hse⟩, HUE.out]; rfl
            case measure => simp [intOf]; omega
        · have hbn : (sl == 1 + (k : Int)) = false := by simp; omega
          go_wp2_with (first
            | ((with_reducible show wpList _ _ _ (⟨_, .load 32 (.tmp 44), _, _, _, _⟩ :: _) _ _); refine wpList_load_g (by rfl) 32 (.tmp 44) rfl b1 37 rfl up _ HPR.out Tryz.underlying32 rfl (sizeIDL hpl1) ?_)
            | ((with_reducible show wpList _ _ _ (⟨_, .load 32 (.tmp 3), _, _, _, _⟩ :: _) _ _); refine wpList_load_g (by rfl) 32 (.tmp 3) rfl pb 0 rfl pcs _ (rangeAt_whole HPB.out) Tryz.underlying32 rfl (sizeIDL hpc) ?_))
          go_roundw
          case rel => exact ⟨k + 1, j, pa, pc, qs, by omega, by omega, rfl, by go_num, HJ, HQO, Lib.hid (by rw [List.range_succ, List.flatMap_append, List.flatMap_cons, List.flatMap_nil, HFA.out, HQM.out]; unfold foundL; rw [if_neg (by rintro ⟨-, -, h1⟩; rw [HUE.out, HSL.out] at h1; exact hse h1)]; simp), HQU, HKI⟩
          case measure => simp [intOf]; omega
      · have hbn : (er == 0) = false := by simpa using h0
        go_wp2_with (first
          | ((with_reducible show wpList _ _ _ (⟨_, .load 32 (.tmp 44), _, _, _, _⟩ :: _) _ _); refine wpList_load_g (by rfl) 32 (.tmp 44) rfl b1 37 rfl up _ HPR.out Tryz.underlying32 rfl (sizeIDL hpl1) ?_)
          | ((with_reducible show wpList _ _ _ (⟨_, .load 32 (.tmp 3), _, _, _, _⟩ :: _) _ _); refine wpList_load_g (by rfl) 32 (.tmp 3) rfl pb 0 rfl pcs _ (rangeAt_whole HPB.out) Tryz.underlying32 rfl (sizeIDL hpc) ?_))
        go_roundw
        case rel => exact ⟨k + 1, j, pa, pc, qs, by omega, by omega, rfl, by go_num, HJ, HQO, Lib.hid (by rw [List.range_succ, List.flatMap_append, List.flatMap_cons, List.flatMap_nil, HFA.out, HQM.out]; unfold foundL; rw [if_neg (by rintro ⟨h1, -, -⟩; exact h0 (HER.out.symm.trans h1))]; simp), HQU, HKI⟩
        case measure => simp [intOf]; omega
    · obtain rfl : k = 4 := by omega
      have H : Hid (FoundPost w ((List.range 4).flatMap (foundAt hs pool), 0) (.returned (.tuple #[.slice pa j pc, .int .i64 0])) wr) := Lib.hid ⟨_, qs, rfl, by rw [HJ.out]; exact HQO.out, HQM.out, HQU.out, HK1.out.trans HKI.out⟩
      go_wp2_with fail
      go_ret2
      exact H.out

end Go.Proofs.YtaiicjhnhbkgmaaGreatDoor
