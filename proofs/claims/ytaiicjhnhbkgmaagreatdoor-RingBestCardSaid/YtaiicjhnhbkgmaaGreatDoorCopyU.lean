/-
  A pointer in memory of its own (the kit's CopyPointer).
  Conditions: at most 65536 addresses.
-/
import Derived.Test.YtaiicjhnhbkgmaaGreatDoorPtrH
import Derived.Test.YtaiicjhnhbkgmaaGreatDoorUbsL
import Derived.Test.YtaiicjhnhbkgmaaGreatDoorUnpackU
namespace Go.Proofs.YtaiicjhnhbkgmaaGreatDoor
open Go.RowKit
set_option maxRecDepth 100000
set_option linter.unusedVariables false

def zeroAdU : Value := .agg #[.int .i64 0, .int .i64 0]
theorem infoAdU : (Tryz.prog.info? 70).map (fun i => (i.zero, i.size, i.bytes)) = some (some zeroAdU, 2, 16) := by kernel_rfl
theorem ptCs_put0 (v u : Value) (p : Pt) : (ptCs v p).toArray.setIfInBounds 0 u = (ptCs u p).toArray := by rw [List.setIfInBounds_toArray]; rfl
set_option maxHeartbeats 2000000 in
theorem copyPt_any (w : World) (v : Value) (p : Pt) (h0 : PtV w v p) (hl : p.addrs.length ≤ 65536) : Calls Tryz.prog 29 #[.agg (ptCs v p).toArray] w fun e w' =>
    ∃ v', e = .returned (.agg (ptCs v' p).toArray) ∧ w'.ownsRow w.heap.size 70 2 v' p.addrs.length (adCells p.addrs) ∧ Keep noBlk w w' := by
  obtain ⟨oa, ca, rfl, -, -⟩ := h0.rd.form
  obtain ⟨n, hn⟩ : ∃ n, p.addrs.length = n := ⟨_, rfl⟩
  have HN := Lib.hid hn; have HSU := Lib.hid h0.sum
  have hrd := h0.rd
  rw [hn] at hl hrd ⊢
  obtain ⟨w1, hw1, k1, hb1, s1⟩ := alloc_facts w (ptCs (.slice oa n ca) p).toArray 34
  obtain ⟨w2, hw2, k2, hb2, s2⟩ := alloc_facts w1 (ptCs (.slice none 0 0) zPt).toArray 34
  obtain ⟨w3, hw3, k3, hb3, s3⟩ := alloc_facts w2 #[] 70
  have HK3 := Lib.hid ((k1.trans k2).trans k3); have HS3 := Lib.hid (show w3.heap.size = w.heap.size + 3 by omega)
  have HB1 := Lib.hid ((k2.trans k3).blk hb1 id); have HB2 := Lib.hid (k3.blk hb2 id)
  have HO3 : Hid (w3.ownsRow w2.heap.size 70 2 (.slice (some ⟨w2.heap.size, 0, none⟩) 0 0) 0 []) := Lib.hid (by rw [← hw3]; exact World.ownsRow_made w2 #[] 0 (Nat.le_refl _) (by unfold maxLen; omega) rfl)
  have HR3 := Lib.hid (hrd.keep HK3.out fun _ _ => id)
  have hc0 := blk_cell (i := 0) (v := .slice oa n ca) HB1.out rfl
  have hs : w2.heap.size = w.heap.size + 2 := by omega
  have hs1 : w1.heap.size = w.heap.size + 1 := by omega
  rw [hs] at HO3
  clear k1 k2 k3 hb1 hb2 hb3 h0 hrd hn
  have hzl : (ptCs (.slice none 0 0) zPt).length = 35 := rfl
  go_enter Tryz.func29, Tryz.ntmps29
  go_wp2_with (first
    | ((with_reducible show wpList _ _ _ (⟨some 2, .alloc 34, _, _, _, _⟩ :: _) _ _); refine wpList_alloc_at rfl 34 rfl _ zeroPtV (ptCs (.slice none 0 0) zPt).toArray rfl ?_)
    | (at_builtin; refine wpList_append_rd rfl (.tmp 3) (.tmp 5) 30 rfl (w.heap.size + 2) 70 zeroAdU 2 16 Tryz.underlying30 infoAdU rfl (by decide) (.slice (some ⟨w.heap.size + 2, 0, none⟩) 0 0) 0 ([]) rfl HO3.out (.slice oa n ca) n (adCells p.addrs) rfl HR3.out (oneCell_ads _) (by unfold maxLen; omega) (by omega) (by omega) ?_
       intro v' w4 ho4 hk4 hn4 hbo4
       obtain ⟨xa, xc, rfl, -, -⟩ := (Rd.of_owns ho4).form
       rw [Nat.zero_add, List.nil_append] at ho4
       have hb4 := hk4.blk HB1.out (by intro e; have e' : w.heap.size + 2 = w.heap.size := Option.some.inj e; omega)
       have hr4 := hk4.blk HB2.out (by intro e; have e' : w.heap.size + 2 = w1.heap.size := Option.some.inj e; omega)
       rw [hs1] at hr4
       have hz4 : w.heap.size + 2 < w4.heap.size := by have h1 := hk4.size; have h2 := HS3.out; omega
       have hc4 := blk_cell (i := 0) (v := .slice oa n ca) hb4 rfl
       have hf4 := blk_free hb4 0
       have HO4 := Lib.hid ho4; have HB4 := Lib.hid hb4; have HR4 := Lib.hid hr4
       have HK4 := Lib.hid (HK3.out.trans' hk4 (fun _ _ h => h) (U := noBlk) (fun i hi e => by have e' : w.heap.size + 2 = i := Option.some.inj e; omega))
       clear ho4 hk4 hn4 hbo4 hb4 hr4 hc0)
    | ((with_reducible show wpList _ _ _ (⟨_, .load 34 (.tmp 1), _, _, _, _⟩ :: _) _ _)
       have hb5 := set_blk HB4.out 0 (.slice xa n xc)
       rw [ptCs_put0] at hb5
       have hr5 : (w4.setCell ⟨w.heap.size, 0, none⟩ (.slice xa n xc)).heap[w.heap.size + 1]? = _ := (heap_setCell_other w4 ⟨w.heap.size, 0, none⟩ (w.heap.size + 1) (.slice xa n xc) (by show w.heap.size + 1 ≠ w.heap.size; omega)).trans HR4.out
       have HO5 : Hid (((w4.setCell ⟨w.heap.size, 0, none⟩ (.slice xa n xc))).ownsRow (w.heap.size + 2) 70 2 (.slice xa n xc) n (adCells p.addrs)) := Lib.hid ((((Keep.refl (fun j => j = w.heap.size) w4).setCell (p := ⟨w.heap.size, 0, none⟩) (fun _ => rfl) (.slice xa n xc))).owns HO4.out (fun j hj e => by have := owns_base HO4.out hj; omega))
       have HK5 := Lib.hid (HK4.out.trans' ((Keep.refl (fun j => j = w.heap.size) w4).setCell (p := ⟨w.heap.size, 0, none⟩) (fun _ => rfl) (.slice xa n xc)) (U := noBlk) (fun _ _ h => h) (fun i hi e => by omega))
       have hz5 : (w4.setCell ⟨w.heap.size, 0, none⟩ (.slice xa n xc)).heap.size = w4.heap.size := by simp
       generalize w4.setCell ⟨w.heap.size, 0, none⟩ (.slice xa n xc) = w5 at *
       refine wpList_load_mid rfl 34 (.tmp 1) rfl w.heap.size 0 rfl (ptCs (.slice xa n xc) p) _ (rangeAt_whole hb5) ptUnder rfl (sizePtL (ptCs_len HSU.out)) ?_
       have HB5 := Lib.hid hb5; have HR5 := Lib.hid hr5
       clear hb5 hr5)
    | ((with_reducible show wpList _ _ _ (⟨none, .store 34 (.tmp 2) (.tmp 8), _, _, _, _⟩ :: _) _ _)
       refine wpList_store_agg rfl 34 (.tmp 2) (.tmp 8) rfl (w.heap.size + 1) 0 (ptCs (.slice xa n xc) p) rfl rfl (ptCs (.slice none 0 0) zPt).toArray 34 HR5.out (by rw [List.size_toArray, hzl, ptCs_len HSU.out]; exact Nat.le_refl _) (sizePtL (ptCs_len HSU.out)) (oneCell_pt p) ?_
       intro w6 hb6 hk6
       have HB6 := Lib.hid hb6; have HK6 := Lib.hid hk6
       clear hb6 hk6))
  refine bodyPost_ret (results_cell_row rfl _ _ (w.heap.size + 1) _ _ _ _ rfl HB6.out ptUnder rfl (by rw [spl_size, List.size_toArray]; exact sizePtL hzl)) rfl ⟨.slice xa n xc, ?_, ?_, ?_⟩
  · rw [spl_whole _ _ (by rw [List.size_toArray, hzl, ptCs_len HSU.out])]
  · exact ownsRow_mono (HK6.out.owns HO5.out (fun j hj e => by have := owns_base HO5.out hj; omega)) (by omega)
  · exact HK5.out.trans' HK6.out (fun _ _ h => h) (fun i hi e => by omega)
end Go.Proofs.YtaiicjhnhbkgmaaGreatDoor

/-
  Uberblocks in memory of their own (the kit's CopyUbers).
  Conditions: at most 64 of at most 65536 addresses each.
-/
namespace Go.Proofs.YtaiicjhnhbkgmaaGreatDoor
open Go.RowKit Go.Maps Go.ChangeMaps
set_option maxRecDepth 100000
set_option linter.unusedVariables false

def CopyUbsPost (w : World) (ps : List (Value × Ub)) (e : Ending) (w' : World) : Prop :=
  ∃ v qs, e = .returned v ∧ w'.ownsRow w.heap.size 36 69 v qs.length (ubRow qs) ∧ qs.map (·.2) = ps.map (·.2) ∧ UbsO w' w.heap.size qs ∧ Keep noBlk w w'
theorem zeroLenUb : (ubCs (.slice none 0 0) zUb).length = 69 := rfl
set_option maxHeartbeats 8000000 in
theorem copyUbs_any (w : World) (v : Value) (ps : List (Value × Ub)) (hr : Rd w 69 v ps.length (ubRow ps)) (hV : UbsV w ps) (hl : ps.length ≤ 64) (ha : ∀ p ∈ ps, p.2.root.addrs.length ≤ 65536) :
    Calls Tryz.prog 11 #[v] w (CopyUbsPost w ps) := by
  obtain ⟨oa, ca, rfl, -, -⟩ := hr.form
  obtain ⟨n, hn⟩ : ∃ n, ps.length = n := ⟨_, rfl⟩
  have HN := Lib.hid hn; have HR := Lib.hid hr; have HV := Lib.hid hV; have HA := Lib.hid ha; have HL := Lib.hid hV.lens
  rw [hn] at hl ⊢
  obtain ⟨zc, hzc, hzl⟩ : ∃ zc, ubCs (.slice none 0 0) zUb = zc ∧ zc.length = 69 := ⟨_, rfl, zeroLenUb⟩
  have hzv : ∀ w, (zeroValue 36).run Tryz.prog w = .ok (.agg zc.toArray) w := by rw [← hzc]; exact zeroValUb
  clear hr hV hn ha hzc
  have HZV := Lib.hid hzv; clear hzv
  go_enter Tryz.func11, Tryz.ntmps11
  go_wp2_with fail
  go_loopw [3, 4] (fun t i wr => ∃ (k : Nat) (pa : Option Addr) (pc : Nat) (qs : List (Value × Ub)), k ≤ n ∧ t = .slice pa k pc ∧ i = .int .i64 k ∧ Hid (wr.ownsRow w.heap.size 36 69 (.slice pa k pc) k (ubRow qs)) ∧ Hid (qs.map (·.2) = (ps.take k).map (·.2)) ∧ Hid (UbsO wr w.heap.size qs) ∧ Hid (Keep noBlk w wr)) (fun _ i _ => n - (intOf i).toNat)
  case atStart => exact ⟨0, none, 0, [], Nat.zero_le _, rfl, rfl, Lib.hid (World.ownsRow_nil _ _ _ _), Lib.hid rfl, Lib.hid (fun q hq => by cases hq), Lib.hid (Keep.refl _ _)⟩
  case round =>
  obtain ⟨k, pa, pc, qs, hk, rfl, rfl, HO, HT, HU, HK⟩ := hrel
  by_cases hlt : k < n
  · have hki : (k : Int) < (n : Int) := by omega
    have hk0 : (0 : Int) ≤ (k : Int) := by omega
    obtain ⟨p, hp⟩ : ∃ p, ps[k]? = some p := ⟨ps[k]'(by rw [HN.out]; exact hlt), List.getElem?_eq_getElem _⟩
    have hrl := HR.out.keep HK.out fun _ _ => id
    obtain ⟨g, o, cap, hv, hat⟩ := rd_ub HL.out hrl hp
    have e1 : oa = some ⟨g, o, none⟩ := by cases hv; rfl
    subst e1
    have hpm := List.mem_of_getElem? hp
    have hpv := (HV.out.keep HK.out) p hpm
    have hpa := HA.out p hpm
    have HTK : Hid (ps.take (k + 1) = ps.take k ++ [p]) := Lib.hid (by rw [List.take_add_one, hp]; rfl)
    obtain ⟨pv, pu⟩ := p
    obtain ⟨ba, bc, hbv, -, -⟩ := hpv.root.rd.form
    have hbv2 : pv = .slice ba pu.root.addrs.length bc := hbv
    subst hbv2
    have hpl := ubCs_len (v := .slice ba pu.root.addrs.length bc) hpv.root.sum hpv.pool
    have huo := oneCell_ub (oa := ba) (n := pu.root.addrs.length) (ca := bc) pu
    obtain ⟨uc, huc⟩ : ∃ uc, ubCs (.slice ba pu.root.addrs.length bc) pu = uc := ⟨_, rfl⟩
    have HUC := Lib.hid huc
    rw [huc] at hpl huo
    have HAT : Hid (wr.rangeAt g (o + k * 69) uc) := Lib.hid (by rw [← huc]; exact hat)
    have HPV := Lib.hid hpv; have HUO := Lib.hid huo; have HPA := Lib.hid hpa
    obtain ⟨B1, hB1⟩ : ∃ b, wr.heap.size = b := ⟨_, rfl⟩
    have HB1 := Lib.hid hB1
    have hwB : w.heap.size ≤ B1 := by have := HK.out.size; omega
    clear hp hrl hv hat hpm hpv hpa huc huo hbv hB1
    go_wp2_with (first
      | ((with_reducible show wpList _ _ _ (⟨_, .load 36 (.tmp 14), _, _, _, _⟩ :: _) _ _); refine wpList_load_mid rfl 36 (.tmp 14) rfl g (o + k * 69) rfl uc _ HAT.out ubUnder rfl (sizeUbL hpl) ?_)
      | ((with_reducible show wpList _ _ _ (⟨_, .alloc 36, _, _, _, _⟩ :: _) _ _); refine wpList_alloc_at rfl 36 rfl _ HZV.out zc.toArray rfl ?_)
      | ((with_reducible show wpList _ _ _ (⟨none, .store 36 (.tmp 5) (.tmp 15), _, _, _, _⟩ :: _) _ _); (refine wpList_store_agg rfl 36 (.tmp 5) (.tmp 15) rfl wr.heap.size 0 uc rfl rfl zc.toArray 36 (heap_alloc_new _ _) (by rw [List.size_toArray, hzl, hpl]; exact Nat.le_refl _) (sizeUbL hpl) HUO.out ?_)
         intro w2 hb2 hk2
         rw [spl_whole _ _ (by rw [List.size_toArray, hzl, hpl])] at hb2
         have hk2' : Keep noBlk wr w2 := ((Keep.refl noBlk wr).alloc _).trans' hk2 (fun _ _ h => h) (fun i hi e => by omega)
         have HPV2 := Lib.hid (HPV.out.keep hk2' fun _ _ => id)
         rw [HB1.out] at hb2 ⊢
         have HR2 : Hid (w2.rangeAt B1 1 (ptCs (.slice ba pu.root.addrs.length bc) pu.root)) := Lib.hid (by
           have h := (ub_mem (o := 0) (v := .slice ba pu.root.addrs.length bc) (u := pu) HPV.out.root.sum (by rw [HUC.out]; exact rangeAt_whole hb2)).2.1
           exact h)
         have HBU := Lib.hid hb2; have HK2 := Lib.hid hk2'
         clear hb2 hk2 hk2')
      | ((with_reducible show wpList _ _ _ (⟨_, .load 34 (.tmp 16), _, _, _, _⟩ :: _) _ _); refine wpList_load_mid rfl 34 (.tmp 16) rfl B1 1 rfl (ptCs (.slice ba pu.root.addrs.length bc) pu.root) _ HR2.out ptUnder rfl (sizePtL (ptCs_len HPV.out.root.sum)) ?_))
    refine (copyPt_any w2 (.slice ba pu.root.addrs.length bc) pu.root HPV2.out.root HPA.out).mono ?_
    rintro e w3 ⟨v3, rfl, ho3, hk3⟩
    obtain ⟨q, hq⟩ : ∃ q, pu.root.addrs.length = q := ⟨_, rfl⟩
    rw [hq] at ho3
    obtain ⟨xa, xc, rfl, -, -⟩ := (Rd.of_owns ho3).form
    have HQ := Lib.hid hq
    have ho3 := ownsRow_mono ho3 (Nat.le_trans HK.out.size HK2.out.size)
    have HO3 := Lib.hid ho3
    have HBU := Lib.hid (hk3.blk HBU.out id); have HK3 := Lib.hid (HK2.out.trans hk3)
    have hB3 : B1 < w3.heap.size := lt_of_block HBU.out
    have hcl : (ubCs (.slice xa q xc) pu).length = 69 := ubCs_len HPV.out.root.sum HPV.out.pool
    have hco := Lib.hid (oneCell_ub (oa := xa) (n := q) (ca := xc) pu)
    have HUCR : Hid (spl uc.toArray 1 (ptCs (.slice xa q xc) pu.root) = (ubCs (.slice xa q xc) pu).toArray) := Lib.hid (by rw [← HUC.out]; exact ubCs_rootS _ _ _ HPV.out.root.sum)
    clear ho3 hk3 hq
    go_wp2_with (first
      | ((with_reducible show wpList _ _ _ (⟨none, .store 34 (.tmp 19) (.tmp 18), _, _, _, _⟩ :: _) _ _); (refine wpList_store_agg rfl 34 (.tmp 19) (.tmp 18) rfl B1 1 (ptCs (.slice xa q xc) pu.root) rfl rfl uc.toArray 36 HBU.out (by rw [List.size_toArray, hpl, ptCs_len HPV.out.root.sum]; omega) (sizePtL (ptCs_len HPV.out.root.sum)) (oneCell_pt _) ?_)
         intro w4 hb4 hk4
         rw [HUCR.out] at hb4
         have HB4 := Lib.hid hb4
         have hk4' : Keep noBlk wr w4 := HK3.out.trans' hk4 (fun _ _ h => h) (fun i hi e => by have := HB1.out; omega)
         have HO4 := Lib.hid (hk4.owns HO3.out (fun j hj e => by
           subst e
           obtain ⟨cur, hc⟩ := owns_block HO3.out hj
           rw [HBU.out] at hc
           cases hc))
         have HK4 := Lib.hid hk4'
         clear hb4 hk4 hk4')
      | ((with_reducible show wpList _ _ _ (⟨_, .load 36 (.tmp 5), _, _, _, _⟩ :: _) _ _); refine wpList_load_mid rfl 36 (.tmp 5) rfl B1 0 rfl (ubCs (.slice xa q xc) pu) _ (rangeAt_whole HB4.out) ubUnder rfl (sizeUbL hcl) ?_)
      | ((with_reducible show wpList _ _ _ (⟨_, .buildSlice _ 1 _, _, _, _, _⟩ :: _) _ _); refine wpList_build_one rfl 22 36 (.tmp 21) rfl Tryz.underlying22 infoUb (by decide) (ubCs (.slice xa q xc) pu) hcl (by decide) rfl ?_
         have hkb : Keep noBlk w4 (w4.alloc (.cells (ubCs (.slice xa q xc) pu).toArray 36)) := (Keep.refl _ _).alloc _
         have HRN := Lib.hid (rd_blk (n := 1) (size := 69) (heap_alloc_new w4 (.cells (ubCs (.slice xa q xc) pu).toArray 36)) hcl (by unfold maxLen; omega))
         have HKB := Lib.hid hkb
         have hsb : w4.heap.size ≤ (w4.alloc (.cells (ubCs (.slice xa q xc) pu).toArray 36)).heap.size := by rw [World.size_alloc]; omega
         obtain ⟨X_w5, hX_w5⟩ : ∃ s, w4.heap.size = s := ⟨_, rfl⟩
         rw [hX_w5] at HRN hsb ⊢
         have hsc_w5 : w4.heap.size ≤ X_w5 := Nat.le_of_eq hX_w5
         have HX_w5 := Lib.hid hX_w5; clear hX_w5
         generalize hW4 : w4.alloc (.cells (ubCs (.slice xa q xc) pu).toArray 36) = w5 at *
         clear hW4 hkb)
      | (have HO5 := Lib.hid (HKB.out.owns (HK4.out.owns HO.out fun _ _ => id) fun _ _ => id)
         have HK5W := Lib.hid ((HK.out.trans HK4.out).trans HKB.out)
         have hzb : w.heap.size ≤ w5.heap.size := HK5W.out.size
         have HU5 : Hid (UbsO w5 w.heap.size (qs ++ [(.slice xa q xc, pu)])) := Lib.hid (((HU.out.keep HK4.out).snoc HPV.out.pool HPV.out.root.sum HPV.out.root.ads (by rw [HQ.out]; exact HO4.out)).keep HKB.out)
         (at_builtin; refine wpList_append_rd rfl (.tmp 20) (.tmp 22) 22 rfl w.heap.size 36 (.agg (ubCs (.slice none 0 0) ⟨0, ⟨[], 0, 0, zeros32⟩, 0, zeros32⟩).toArray) 69 120 Tryz.underlying22 infoUb rfl (by decide) (.slice pa k pc) (k) (ubRow qs) rfl HO5.out (.slice (some ⟨X_w5, 0, none⟩) 1 1) (1) (ubCs (.slice xa q xc) pu) rfl HRN.out hco.out (by unfold maxLen; omega) (by omega) (by omega) ?_
          intro v' w6 ho5 hk5 hn5 hb5
          obtain ⟨g', cap', rfl⟩ := ownsRow_succ ho5
          have HO6 := Lib.hid ho5; have HK5 := Lib.hid hk5; have HB5 := Lib.hid hb5
          clear ho5 hk5 hn5 hb5)
         have HU6 := Lib.hid (HU5.out.grow HO5.out HK5.out)
         have HK6 := Lib.hid (HK5W.out.trans' HK5.out (U := noBlk) (fun _ _ h => h) (fun i hi e => by have := owns_base HO5.out e; omega))))
    go_roundw
    case rel => exact ⟨k + 1, some ⟨g', 0, none⟩, cap', qs ++ [(.slice xa q xc, pu)], by omega, rfl, by go_num, Lib.hid (by rw [ubRow_append, ubRow_one]; exact HO6.out), Lib.hid (by rw [HTK.out, List.map_append, List.map_append, HT.out]; rfl), HU6, HK6⟩
    case measure => simp [intOf]; omega
  · obtain rfl : k = n := by omega
    have hw : CopyUbsPost w ps (.returned (.slice pa k pc)) wr := by
      have h := HT.out
      rw [List.take_of_length_le (by rw [HN.out]; exact Nat.le_refl _)] at h
      have hl2 : qs.length = k := by have := congrArg List.length h; simp only [List.length_map] at this; rw [this, HN.out]
      exact ⟨_, qs, rfl, by rw [hl2]; exact HO.out, h, HU.out, HK.out⟩
    have HW := Lib.hid hw
    clear hw
    go_wp2_with fail
    go_ret
    exact HW.out
end Go.Proofs.YtaiicjhnhbkgmaaGreatDoor
