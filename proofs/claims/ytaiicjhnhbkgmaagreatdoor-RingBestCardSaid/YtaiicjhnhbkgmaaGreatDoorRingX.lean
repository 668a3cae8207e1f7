/-
  caulkerref10.Best.
  Conditions: at most 64 uberblocks of at most 65536 addresses each.
-/
import Derived.Test.YtaiicjhnhbkgmaaGreatDoorRingW
namespace Go.Proofs.YtaiicjhnhbkgmaaGreatDoor
open Go.RowKit Go.Maps Go.ChangeMaps
set_option maxRecDepth 100000
set_option linter.unusedVariables false

def RBestPost (w : World) (L : List Ub) (e : Ending) (w' : World) : Prop :=
  ∃ v qs, e = .returned v ∧ w'.ownsRow w.heap.size 36 69 v qs.length (ubRow qs) ∧ IsBest L (qs.map (·.2)) ∧ UbsO w' w.heap.size qs ∧ Keep noBlk w w' ∧ qs.length ≤ L.length
theorem ubCs_put1 (v v' : Value) (u : Ub) : (ubCs v u).toArray.setIfInBounds 1 v' = (ubCs v' u).toArray := by rw [List.setIfInBounds_toArray]; rfl
theorem ubsO_take {w : World} {B : Nat} {qs : List (Value × Ub)} (h : UbsO w B qs) (j : Nat) : UbsO w B (qs.take j) := fun q hq => h q (List.mem_of_mem_take hq)
theorem ubsO_drop {w : World} {B : Nat} {qs : List (Value × Ub)} (h : UbsO w B qs) (j : Nat) : UbsO w B (qs.drop j) := fun q hq => h q (List.mem_of_mem_drop hq)
theorem oneCell_ubRow {w : World} {B : Nat} {qs : List (Value × Ub)} (h : UbsO w B qs) : ∀ u ∈ ubRow qs, u.oneCell' = true := fun u hu => by
  obtain ⟨q, hq, hm⟩ := List.mem_flatMap.1 hu
  obtain ⟨a, c, hv, -, -⟩ := (Rd.of_owns (h q hq).2.2.2).form
  rw [hv] at hm
  exact oneCell_ub _ u hm
theorem rd_split {w : World} {g c j : Nat} {qs : List (Value × Ub)} (hl : UbLens qs) (h : Rd w 69 (.slice (some ⟨g, 0, none⟩) qs.length c) qs.length (ubRow qs)) (hj : j ≤ qs.length) :
    Rd w 69 (.slice (some ⟨g, 0, none⟩) j c) j (ubRow (qs.take j)) ∧ Rd w 69 (.slice (if c = j then some ⟨g, 0, none⟩ else some ⟨g, j * 69, none⟩) (qs.length - j) (c - j)) (qs.length - j) (ubRow (qs.drop j)) := by
  obtain ⟨h0, a, cap, hv, h1, h2, h3, h4⟩ := h
  cases hv
  have hsp : ubRow qs = ubRow (qs.take j) ++ ubRow (qs.drop j) := by rw [← ubRow_append, List.take_append_drop]
  have ht : (ubRow (qs.take j)).length = j * 69 := by
    rw [ubRow_len (fun p hp => hl p (List.mem_of_mem_take hp)), List.length_take, Nat.min_eq_left hj]
  have hd : (ubRow (qs.drop j)).length = (qs.length - j) * 69 := by
    rw [ubRow_len (fun p hp => hl p (List.mem_of_mem_drop hp)), List.length_drop]
  have hc : ∀ i u, (ubRow qs)[i]? = some u → w.cell? ⟨g, 0 + i, none⟩ = some u := fun i u hu => by
    obtain ⟨g2, o2, e, hc⟩ := h4 (by have := (List.getElem?_eq_some_iff.1 hu).1; omega)
    cases e
    exact hc i u hu
  refine ⟨⟨ht, _, _, rfl, by omega, h2, (by intro h; cases h), fun hp => ⟨g, 0, rfl, fun i u hu => hc i u ?_⟩⟩, ⟨hd, _, _, rfl, by omega, by omega, ?_, fun hp => ?_⟩⟩
  · rw [hsp, List.getElem?_append_left (List.getElem?_eq_some_iff.1 hu).1]; exact hu
  · intro h
    split at h <;> cases h
  · have hne : c ≠ j := fun e => by rw [hd] at hp; omega
    rw [if_neg hne]
    refine ⟨g, j * 69, rfl, fun i u hu => ?_⟩
    have := hc (j * 69 + i) u (by rw [hsp, List.getElem?_append_right (by omega), ht, Nat.add_sub_cancel_left]; exact hu)
    rw [Nat.zero_add] at this
    exact this
set_option maxHeartbeats 32000000 in
theorem rbest_any (w : World) (v : Value) (ps : List (Value × Ub)) (hr : Rd w 69 v ps.length (ubRow ps)) (hV : UbsV w ps) (hl : ps.length ≤ 64) (ha : ∀ p ∈ ps, p.2.root.addrs.length ≤ 65536) :
    Calls Tryz.prog 13 #[v] w (RBestPost w (ps.map (·.2))) := by
  obtain ⟨zc, hzc, hzl⟩ : ∃ zc, ubCs (.slice none 0 0) zUb = zc ∧ zc.length = 69 := ⟨_, rfl, rfl⟩
  have hzv : ∀ w, (zeroValue 36).run Tryz.prog w = .ok (.agg zc.toArray) w := by rw [← hzc]; exact zeroValUb
  have HZV := Lib.hid hzv; have HZC := Lib.hid hzc
  clear hzc hzv
  obtain ⟨oa, ca, rfl, -, -⟩ := hr.form
  obtain ⟨n, hn⟩ : ∃ n, ps.length = n := ⟨_, rfl⟩
  have HN := Lib.hid hn; have HR := Lib.hid hr; have HV := Lib.hid hV; have HA := Lib.hid ha; have HL := Lib.hid hV.lens
  rw [hn] at hl ⊢
  clear hr hV hn ha
  go_enter Tryz.func13, Tryz.ntmps13
  go_wp2_with fail
  go_loopw [3, 4] (fun t i wr => ∃ (k m : Nat) (pa : Option Addr) (pc : Nat) (outs : List (Value × Ub)), k ≤ n ∧ m ≤ k ∧ t = .slice pa m pc ∧ i = .int .i64 k ∧ Hid (outs.length = m) ∧ Hid (wr.ownsRow w.heap.size 36 69 (.slice pa m pc) m (ubRow outs)) ∧ Hid (IsBest ((ps.take k).map (·.2)) (outs.map (·.2))) ∧ Hid (UbsO wr w.heap.size outs) ∧ Hid (Keep noBlk w wr)) (fun _ i _ => n - (intOf i).toNat)
  case atStart => exact ⟨0, 0, none, 0, [], Nat.zero_le _, Nat.le_refl _, rfl, rfl, Lib.hid rfl, Lib.hid (World.ownsRow_nil _ _ _ _), Lib.hid ⟨List.Pairwise.nil, fun u => by simp⟩, Lib.hid (fun q hq => by cases hq), Lib.hid (Keep.refl _ _)⟩
  case round =>
  obtain ⟨k, m, pa, pc, outs, hk, hmk, rfl, rfl, HM, HO, HB, HU, HK⟩ := hrel
  by_cases hlt : k < n
  · have hki : (k : Int) < (n : Int) := by omega
    have hk0 : (0 : Int) ≤ (k : Int) := by omega
    obtain ⟨p, hp⟩ : ∃ p, ps[k]? = some p := ⟨ps[k]'(by rw [HN.out]; exact hlt), List.getElem?_eq_getElem _⟩
    obtain ⟨gp, op, cap, hv, hat⟩ := rd_ub HL.out (HR.out.keep HK.out fun _ _ => id) hp
    have e1 : oa = some ⟨gp, op, none⟩ := by cases hv; rfl
    subst e1
    have hpm := List.mem_of_getElem? hp
    have HPV := Lib.hid ((HV.out.keep HK.out) p hpm)
    have HPA := Lib.hid (HA.out p hpm)
    have HTK : Hid ((ps.take (k + 1)).map (·.2) = (ps.take k).map (·.2) ++ [p.2]) := Lib.hid (by rw [List.take_add_one, hp, List.map_append]; rfl)
    obtain ⟨sv, pu⟩ := p
    obtain ⟨ba, bc, hbv, -, -⟩ := HPV.out.root.rd.form
    obtain ⟨nu, hnu⟩ : ∃ x, pu.root.addrs.length = x := ⟨_, rfl⟩
    have hbv2 : sv = .slice ba nu bc := by rw [← hnu]; exact hbv
    subst hbv2
    have HNU := Lib.hid hnu
    have hpl := ubCs_len (v := .slice ba nu bc) HPV.out.root.sum HPV.out.pool
    obtain ⟨uc, huc⟩ : ∃ uc, ubCs (.slice ba nu bc) pu = uc := ⟨_, rfl⟩
    have HUC := Lib.hid huc
    rw [huc] at hpl
    have HUO : Hid (∀ u ∈ uc, u.oneCell' = true) := Lib.hid (by rw [← huc]; exact oneCell_ub pu)
    have HAT : Hid (wr.rangeAt gp (op + k * 69) uc) := Lib.hid (by rw [← huc]; exact hat)
    clear hp hv hat hpm huc hbv hnu
    go_wp2_with (((with_reducible show wpList _ _ _ (⟨_, .load 36 (.tmp 15), _, _, _, _⟩ :: _) _ _); refine wpList_load_mid rfl 36 (.tmp 15) rfl gp (op + k * 69) rfl uc _ HAT.out ubUnder rfl (sizeUbL hpl) ?_))
    refine (show Calls Tryz.prog 34 #[.agg uc.toArray] wr (OkPost wr pu.may) from by rw [← HUC.out]; exact rcheckU_any wr _ pu HPV.out).mono ?_
    rintro e wb ⟨rfl, hk_⟩
    have HO := Lib.hid (hk_.owns HO.out fun _ _ => id)
    have HU := Lib.hid (HU.out.keep hk_)
    have HK := Lib.hid (HK.out.trans hk_)
    have HPV := Lib.hid (HPV.out.keep hk_ fun _ _ => id)
    have HAT := Lib.hid (hk_.rangeAt HAT.out)
    clear hk_
    cases hmay : pu.may
    · rw [if_neg Bool.false_ne_true]
      have hbb := best_bad HB.out hmay
      go_wp2_with fail
      go_roundw
      case rel => exact ⟨k + 1, m, pa, pc, outs, by omega, by omega, rfl, by go_num, HM, HO, Lib.hid (by rw [HTK.out]; exact hbb), HU, HK⟩
      case measure => simp [intOf]; omega
    · rw [if_pos rfl]
      have HFU : Hid (UbFit pu) := Lib.hid ⟨HPV.out.pool, HPV.out.root.sum, hmay⟩
      have HFO : Hid (∀ x ∈ outs.map (·.2), UbFit x) := Lib.hid (fun x hx => by
        obtain ⟨q, hq, rfl⟩ := List.mem_map.1 hx
        exact ⟨(HU.out q hq).1, (HU.out q hq).2.1, ((HB.out.2 q.2).1 hx).2⟩)
      have HLO : Hid (UbLens outs) := Lib.hid (fun q hq => ⟨(HU.out q hq).2.1, (HU.out q hq).1⟩)
      clear hmay
      go_wp2_with fail
      go_loopw [5] (fun i wr => ∃ j : Nat, j ≤ m ∧ i = .int .i64 j ∧ Hid (∀ (i : Nat) (x : Value × Ub), i < j → outs[i]? = some x → ltU x.2 pu = true) ∧ Hid (Keep noBlk wb wr)) (fun i _ => m - (intOf i).toNat)
      case atStart => exact ⟨0, Nat.zero_le _, rfl, Lib.hid (fun i x h => absurd h (Nat.not_lt_zero _)), Lib.hid (Keep.refl _ _)⟩
      case round =>
      obtain ⟨j, hjm, rfl, HAH, HKi⟩ := hrel
      have HO := Lib.hid (HKi.out.owns HO.out fun _ _ => id)
      have HU := Lib.hid (HU.out.keep HKi.out)
      have HK := Lib.hid (HK.out.trans HKi.out)
      have HPV := Lib.hid (HPV.out.keep HKi.out fun _ _ => id)
      have HAT := Lib.hid (HKi.out.rangeAt HAT.out)
      by_cases hj : j < m
      · have hji : (j : Int) < (m : Int) := by omega
        have hj0 : (0 : Int) ≤ (j : Int) := by omega
        obtain ⟨q, hq⟩ : ∃ q, outs[j]? = some q := ⟨outs[j]'(by rw [HM.out]; exact hj), List.getElem?_eq_getElem _⟩
        obtain ⟨gq, oq, cq, hvq, hatq⟩ := rd_ub HLO.out (by rw [HM.out]; exact Rd.of_owns HO.out) hq
        have e2 : pa = some ⟨gq, oq, none⟩ := by cases hvq; rfl
        subst e2
        have ho0 : oq = 0 := by
          rcases HO.out.2 with ⟨h1, -⟩ | ⟨g', cap', cur', h1, -⟩
          · cases h1
          · cases h1; rfl
        subst ho0
        have HQ := Lib.hid hq
        obtain ⟨qv, qu⟩ := q
        have HQV := Lib.hid (HU.out.V _ (List.mem_of_getElem? hq))
        have hxl := ubCs_len (v := qv) HQV.out.root.sum HQV.out.pool
        obtain ⟨xc, hxc⟩ : ∃ l, ubCs qv qu = l := ⟨_, rfl⟩
        have HXC := Lib.hid hxc
        have hatq2 : wr.rangeAt gq (0 + j * 69) (ubCs qv qu) := hatq
        rw [hxc] at hxl hatq2
        have HXA := Lib.hid hatq2
        obtain ⟨bl, hbl⟩ : ∃ b, ltU qu pu = b := ⟨_, rfl⟩
        obtain ⟨be, hbe⟩ : ∃ b, qu.eqB pu = b := ⟨_, rfl⟩
        have HC1 : Hid (∀ w', Keep noBlk wr w' → Calls Tryz.prog 35 #[.agg xc.toArray, .agg uc.toArray] w' (TherePost w' bl)) := Lib.hid (fun w' k => by rw [← HXC.out, ← HUC.out, ← hbl]; exact rahead_any w' _ _ qu pu (HQV.out.keep k fun _ _ => id) (HPV.out.keep k fun _ _ => id))
        have HC2 : Hid (∀ w', Keep noBlk wr w' → Calls Tryz.prog 36 #[.agg xc.toArray, .agg uc.toArray] w' (TherePost w' be)) := Lib.hid (fun w' k => by rw [← HXC.out, ← HUC.out, ← hbe]; exact rsameU_any w' _ _ qu pu (HQV.out.keep k fun _ _ => id) (HPV.out.keep k fun _ _ => id))
        have hjme : ((j : Int) == (m : Int)) = false := by simp; omega
        have HW0 := Lib.hid (Keep.refl noBlk wr)
        clear hq hvq hatq hxc hatq2
        cases bl
        · go_wp2_with fail
          obtain ⟨S, hS0⟩ : ∃ S : World → Prop, S = fun w' => Keep noBlk wr w' := ⟨_, rfl⟩
          have HSE := Lib.hid (show ∀ w', S w' → Keep noBlk wr w' from fun w' h => by rw [hS0] at h; exact h)
          have HSI := Lib.hid (show ∀ w', Keep noBlk wr w' → S w' from fun w' h => by rw [hS0]; exact h)
          have hS : S wr.drew := by rw [hS0]; exact (Keep.refl _ _).drew
          clear hS0
          refine wp_region_held (S := S) (by kernel_rfl) ?_
          change wpAnyH _ _ _ _ _ _ _ _ wr.drew
          generalize wr.drew = wc at hS ⊢
          refine tka 0 (.int .i64 (j : Int)) rfl hS ?_
          simp only [Act.put, List.setIfInBounds_toArray, List.set_cons_zero, List.set_cons_succ, List.getElem_toArray, List.getElem_cons_zero]
          refine tka 1 (.slice (some ⟨gq, 0, none⟩) m pc) rfl hS ?_
          simp only [Act.put, List.setIfInBounds_toArray, List.set_cons_zero, List.set_cons_succ, List.getElem_toArray, List.getElem_cons_succ, List.getElem_cons_zero]
          refine tkb 2 (.int .i64 m) rfl hS ?_
          simp only [Act.put, List.setIfInBounds_toArray, List.set_cons_zero, List.set_cons_succ, List.getElem_toArray, List.getElem_cons_succ, List.getElem_cons_zero]
          refine tkb 3 (.bool true) rfl hS ?_
          simp only [Act.put, List.setIfInBounds_toArray, List.set_cons_zero, List.set_cons_succ, List.getElem_toArray, List.getElem_cons_succ, List.getElem_cons_zero]
          refine tka 4 (.bool true) rfl hS ?_
          simp only [Act.put, List.setIfInBounds_toArray, List.set_cons_zero, List.set_cons_succ, List.getElem_toArray, List.getElem_cons_succ, List.getElem_cons_zero]
          refine tka 5 (.slice (some ⟨gq, 0, none⟩) m pc) rfl hS ?_
          simp only [Act.put, List.setIfInBounds_toArray, List.set_cons_zero, List.set_cons_succ, List.getElem_toArray, List.getElem_cons_succ, List.getElem_cons_zero]
          refine tka 6 (.int .i64 (j : Int)) rfl hS ?_
          simp only [Act.put, List.setIfInBounds_toArray, List.set_cons_zero, List.set_cons_succ, List.getElem_toArray, List.getElem_cons_succ, List.getElem_cons_zero]
          refine tkb 7 (.pointer (some ⟨gq, 0 + j * 69, none⟩)) rfl hS ?_
          simp only [Act.put, List.setIfInBounds_toArray, List.set_cons_zero, List.set_cons_succ, List.getElem_toArray, List.getElem_cons_succ, List.getElem_cons_zero]
          refine tkd 8 (.agg (xc).toArray) rfl (yieldsIf_load_mid (by rfl) 36 (.tmp 26) rfl (gq) (0 + j * 69) rfl (xc) _ (fun w' h => (HSE.out w' h).rangeAt HXA.out) ubUnder rfl (by first | exact sizeUbL hpl | exact sizeUbL hxl | exact sizeUbL hnl)) hS ?_
          simp only [Act.put, List.setIfInBounds_toArray, List.set_cons_zero, List.set_cons_succ, List.getElem_toArray, List.getElem_cons_succ, List.getElem_cons_zero]
          refine tka 9 (.slice (some ⟨gp, op, none⟩) n ca) rfl hS ?_
          simp only [Act.put, List.setIfInBounds_toArray, List.set_cons_zero, List.set_cons_succ, List.getElem_toArray, List.getElem_cons_succ, List.getElem_cons_zero]
          refine tka 10 (.int .i64 (k : Int)) rfl hS ?_
          simp only [Act.put, List.setIfInBounds_toArray, List.set_cons_zero, List.set_cons_succ, List.getElem_toArray, List.getElem_cons_succ, List.getElem_cons_zero]
          refine tkb 11 (.pointer (some ⟨gp, op + k * 69, none⟩)) rfl hS ?_
          simp only [Act.put, List.setIfInBounds_toArray, List.set_cons_zero, List.set_cons_succ, List.getElem_toArray, List.getElem_cons_succ, List.getElem_cons_zero]
          refine tkd 12 (.agg (uc).toArray) rfl (yieldsIf_load_mid (by rfl) 36 (.tmp 30) rfl (gp) (op + k * 69) rfl (uc) _ (fun w' h => (HSE.out w' h).rangeAt HAT.out) ubUnder rfl (by first | exact sizeUbL hpl | exact sizeUbL hxl | exact sizeUbL hnl)) hS ?_
          simp only [Act.put, List.setIfInBounds_toArray, List.set_cons_zero, List.set_cons_succ, List.getElem_toArray, List.getElem_cons_succ, List.getElem_cons_zero]
          refine wpAnyH_one (k := 13) rfl (by kernel_rfl) ?_
          go_wp2_with fail
          refine (HC1.out wc (HSE.out _ hS)).mono ?_
          rintro e wd ⟨rfl, hk⟩
          have hS1 := HSI.out _ ((HSE.out _ hS).trans hk)
          clear hS hk
          go_wp2_with fail
          refine ⟨hS1, ?_⟩
          refine tka 14 (.bool false) rfl hS1 ?_
          simp only [Act.put, List.setIfInBounds_toArray, List.set_cons_zero, List.set_cons_succ, List.getElem_toArray, List.getElem_cons_succ, List.getElem_cons_zero]
          refine wpAnyH_done (by kernel_rfl) ?_ _
          have HKR := Lib.hid (HSE.out _ hS1)
          clear hS1 HSE HSI
          have HO := Lib.hid (HKR.out.owns HO.out fun _ _ => id)
          have HU := Lib.hid (HU.out.keep HKR.out)
          have HK := Lib.hid (HK.out.trans HKR.out)
          have HPV := Lib.hid (HPV.out.keep HKR.out fun _ _ => id)
          have HAT := Lib.hid (HKR.out.rangeAt HAT.out)
          have HKi := Lib.hid (HKi.out.trans HKR.out)
          have HXA := Lib.hid (HKR.out.rangeAt HXA.out)
          have HW0 := Lib.hid (HW0.out.trans HKR.out)
          go_wp2_with fail
          cases be
          · obtain ⟨S, hS0⟩ : ∃ S : World → Prop, S = fun w' => Keep noBlk wd w' := ⟨_, rfl⟩
            have HSE := Lib.hid (show ∀ w', S w' → Keep noBlk wd w' from fun w' h => by rw [hS0] at h; exact h)
            have HSI := Lib.hid (show ∀ w', Keep noBlk wd w' → S w' from fun w' h => by rw [hS0]; exact h)
            have hS : S wd.drew := by rw [hS0]; exact (Keep.refl _ _).drew
            clear hS0
            refine wp_region_held (S := S) (by kernel_rfl) ?_
            change wpAnyH _ _ _ _ _ _ _ _ wd.drew
            generalize wd.drew = we at hS ⊢
            refine tka 0 (.int .i64 (j : Int)) rfl hS ?_
            simp only [Act.put, List.setIfInBounds_toArray, List.set_cons_zero, List.set_cons_succ, List.getElem_toArray, List.getElem_cons_zero]
            refine tka 1 (.slice (some ⟨gq, 0, none⟩) m pc) rfl hS ?_
            simp only [Act.put, List.setIfInBounds_toArray, List.set_cons_zero, List.set_cons_succ, List.getElem_toArray, List.getElem_cons_succ, List.getElem_cons_zero]
            refine tkb 2 (.int .i64 m) rfl hS ?_
            simp only [Act.put, List.setIfInBounds_toArray, List.set_cons_zero, List.set_cons_succ, List.getElem_toArray, List.getElem_cons_succ, List.getElem_cons_zero]
            refine tkb 3 (.bool false) rfl hS ?_
            simp only [Act.put, List.setIfInBounds_toArray, List.set_cons_zero, List.set_cons_succ, List.getElem_toArray, List.getElem_cons_succ, List.getElem_cons_zero]
            refine tka 4 (.bool false) rfl hS ?_
            simp only [Act.put, List.setIfInBounds_toArray, List.set_cons_zero, List.set_cons_succ, List.getElem_toArray, List.getElem_cons_succ, List.getElem_cons_zero]
            refine tka 5 (.slice (some ⟨gq, 0, none⟩) m pc) rfl hS ?_
            simp only [Act.put, List.setIfInBounds_toArray, List.set_cons_zero, List.set_cons_succ, List.getElem_toArray, List.getElem_cons_succ, List.getElem_cons_zero]
            refine tka 6 (.int .i64 (j : Int)) rfl hS ?_
            simp only [Act.put, List.setIfInBounds_toArray, List.set_cons_zero, List.set_cons_succ, List.getElem_toArray, List.getElem_cons_succ, List.getElem_cons_zero]
            refine tkb 7 (.pointer (some ⟨gq, 0 + j * 69, none⟩)) rfl hS ?_
            simp only [Act.put, List.setIfInBounds_toArray, List.set_cons_zero, List.set_cons_succ, List.getElem_toArray, List.getElem_cons_succ, List.getElem_cons_zero]
            refine tkd 8 (.agg (xc).toArray) rfl (yieldsIf_load_mid (by rfl) 36 (.tmp 43) rfl (gq) (0 + j * 69) rfl (xc) _ (fun w' h => (HSE.out w' h).rangeAt HXA.out) ubUnder rfl (by first | exact sizeUbL hpl | exact sizeUbL hxl | exact sizeUbL hnl)) hS ?_
            simp only [Act.put, List.setIfInBounds_toArray, List.set_cons_zero, List.set_cons_succ, List.getElem_toArray, List.getElem_cons_succ, List.getElem_cons_zero]
            refine tka 9 (.slice (some ⟨gp, op, none⟩) n ca) rfl hS ?_
            simp only [Act.put, List.setIfInBounds_toArray, List.set_cons_zero, List.set_cons_succ, List.getElem_toArray, List.getElem_cons_succ, List.getElem_cons_zero]
            refine tka 10 (.int .i64 (k : Int)) rfl hS ?_
            simp only [Act.put, List.setIfInBounds_toArray, List.set_cons_zero, List.set_cons_succ, List.getElem_toArray, List.getElem_cons_succ, List.getElem_cons_zero]
            refine tkb 11 (.pointer (some ⟨gp, op + k * 69, none⟩)) rfl hS ?_
            simp only [Act.put, List.setIfInBounds_toArray, List.set_cons_zero, List.set_cons_succ, List.getElem_toArray, List.getElem_cons_succ, List.getElem_cons_zero]
            refine tkd 12 (.agg (uc).toArray) rfl (yieldsIf_load_mid (by rfl) 36 (.tmp 47) rfl (gp) (op + k * 69) rfl (uc) _ (fun w' h => (HSE.out w' h).rangeAt HAT.out) ubUnder rfl (by first | exact sizeUbL hpl | exact sizeUbL hxl | exact sizeUbL hnl)) hS ?_
            simp only [Act.put, List.setIfInBounds_toArray, List.set_cons_zero, List.set_cons_succ, List.getElem_toArray, List.getElem_cons_succ, List.getElem_cons_zero]
            refine wpAnyH_one (k := 13) rfl (by kernel_rfl) ?_
            go_wp2_with fail
            refine (HC2.out we (HW0.out.trans (HSE.out _ hS))).mono ?_
            rintro e wf ⟨rfl, hk⟩
            have hS1 := HSI.out _ ((HSE.out _ hS).trans hk)
            clear hS hk
            go_wp2_with fail
            refine ⟨hS1, ?_⟩
            refine tkb 14 (.bool true) rfl hS1 ?_
            simp only [Act.put, List.setIfInBounds_toArray, List.set_cons_zero, List.set_cons_succ, List.getElem_toArray, List.getElem_cons_succ, List.getElem_cons_zero]
            refine tka 15 (.bool true) rfl hS1 ?_
            simp only [Act.put, List.setIfInBounds_toArray, List.set_cons_zero, List.set_cons_succ, List.getElem_toArray, List.getElem_cons_succ, List.getElem_cons_zero]
            refine wpAnyH_done (by kernel_rfl) ?_ _
            have HKR := Lib.hid (HSE.out _ hS1)
            clear hS1 HSE HSI
            have HO := Lib.hid (HKR.out.owns HO.out fun _ _ => id)
            have HU := Lib.hid (HU.out.keep HKR.out)
            have HK := Lib.hid (HK.out.trans HKR.out)
            have HPV := Lib.hid (HPV.out.keep HKR.out fun _ _ => id)
            have HAT := Lib.hid (HKR.out.rangeAt HAT.out)
            have HKi := Lib.hid (HKi.out.trans HKR.out)
            have HXA := Lib.hid (HKR.out.rangeAt HXA.out)
            have HW0 := Lib.hid (HW0.out.trans HKR.out)
            have HKW0 := HK
            obtain ⟨b6, hb6⟩ : ∃ b, wf.heap.size = b := ⟨_, rfl⟩
            have HB6N := Lib.hid hb6
            go_wp2_with (first
              | ((with_reducible show wpList _ _ _ (⟨_, .load 36 (.tmp 54), _, _, _, _⟩ :: _) _ _); refine wpList_load_mid rfl 36 (.tmp 54) rfl gp (op + k * 69) rfl uc _ HAT.out ubUnder rfl (sizeUbL hpl) ?_)
              | ((with_reducible show wpList _ _ _ (⟨_, .alloc 36, _, _, _, _⟩ :: _) _ _); refine wpList_alloc_at rfl 36 rfl _ HZV.out zc.toArray rfl ?_)
              | ((with_reducible show wpList _ _ _ (⟨none, .store 36 (.tmp 6) (.tmp 55), _, _, _, _⟩ :: _) _ _)
                 refine wpList_store_agg rfl 36 (.tmp 6) (.tmp 55) rfl wf.heap.size 0 uc rfl rfl zc.toArray _ (heap_alloc_new _ _) (by rw [hpl, List.size_toArray, hzl]; exact Nat.le_refl _) (sizeUbL hpl) HUO.out ?_
                 intro wg hbb hkk
                 rw [spl_whole _ _ (by rw [hpl, List.size_toArray, hzl])] at hbb
                 have hkb : Keep noBlk wf wg := ((Keep.refl noBlk wf).alloc _).trans' hkk (fun _ _ h => h.elim) (fun i hi e => by omega)
                 rw [HB6N.out] at hbb ⊢
                 obtain ⟨wh, hw9, k9, hb9, s9⟩ := alloc_facts wg #[] 70
                 have hb69 := k9.blk hbb id
                 have hc69 := blk_cell hb69 (i := 1) (v := .slice ba nu bc) (by rw [← HUC.out]; rfl)
                 have HB69 := Lib.hid hb69
                 have HK9 := Lib.hid (hkb.trans k9)
                 obtain ⟨x9, hx9⟩ : ∃ b, wg.heap.size = b := ⟨_, rfl⟩
                 have HX9 := Lib.hid (show wf.heap.size ≤ x9 ∧ b6 < x9 from by have h1 := hkb.size; have h2 := lt_of_block hbb; omega)
                 have HO9 : Hid (wh.ownsRow wf.heap.size 70 2 (.slice (some ⟨x9, 0, none⟩) 0 0) 0 []) := Lib.hid (by rw [← hx9, ← hw9]; exact World.ownsRow_made wg #[] 0 hkb.size (by unfold maxLen; omega) rfl)
                 have HR9 : Hid (Rd wh 2 (.slice ba nu bc) nu (adCells pu.root.addrs)) := Lib.hid (by have h := (HPV.out.keep HK9.out fun _ _ => id).root.rd; rw [HNU.out] at h; exact h)
                 have HZ9 := Lib.hid HK9.out.size
                 have hna : nu ≤ 65536 := by have := HPA.out; rw [HNU.out] at this; exact this
                 clear hbb hkk hkb k9 hb9 s9 hb69)
              | (at_builtin; refine wpList_append_rd rfl (.tmp 56) (.tmp 59) 30 rfl wf.heap.size 70 zeroAdU 2 16 Tryz.underlying30 infoAdU rfl (by decide) (.slice (some ⟨x9, 0, none⟩) 0 0) 0 ([]) rfl HO9.out (.slice ba nu bc) nu (adCells pu.root.addrs) rfl HR9.out (oneCell_ads _) (by unfold maxLen; omega) (by omega) HZ9.out ?_
                 intro v' wi hoa hka hna' hba
                 rw [Nat.zero_add, List.nil_append] at hoa
                 obtain ⟨xa, xc2, hxv, -, -⟩ := (Rd.of_owns hoa).form
                 subst hxv
                 have hb10 := hka.blk HB69.out (fun e => by have h1 := HX9.out.2; have h2 : x9 = b6 := Option.some.inj e; omega)
                 have hc10 := blk_cell hb10 (i := 1) (v := .slice ba nu bc) (by rw [← HUC.out]; rfl)
                 have hf10 := blk_free hb10 1
                 obtain ⟨wj, hw11⟩ : ∃ x, wi.setCell ⟨b6, 1, none⟩ (.slice xa nu xc2) = x := ⟨_, rfl⟩
                 have hb11 := set_blk hb10 1 (.slice xa nu xc2)
                 rw [hw11, ← HUC.out, ubCs_put1] at hb11
                 have hk11 : Keep (fun i => i = b6) wi wj := by rw [← hw11]; exact (Keep.refl (fun i => i = b6) wi).setCell (p := ⟨b6, 1, none⟩) (fun _ => rfl) _
                 have HOA : Hid (wj.ownsRow wf.heap.size 70 2 (.slice xa nu xc2) nu (adCells pu.root.addrs)) := Lib.hid (hk11.owns hoa (fun i hi e => by obtain ⟨cur, hc⟩ := owns_block hoa hi; rw [e, hb10] at hc; cases hc))
                 have HB11 := Lib.hid hb11
                 have HKN : Hid (Keep noBlk wf wj) := Lib.hid ((HK9.out.trans' hka (U := noBlk) (fun _ _ h => h) (fun i hi e => by have h1 := HX9.out.1; have h2 : x9 = i := Option.some.inj e; omega)).trans' hk11 (fun _ _ h => h) (fun i hi e => by have := HB6N.out; omega))
                 clear hoa hka hna' hba hb10 hb11 hk11 hc69))
            try clear hw9
            try clear hx9
            try clear hw11
            try clear hc10
            try clear hf10
            try clear hb6
            have HO := Lib.hid (HKN.out.owns HO.out fun _ _ => id)
            have HU := Lib.hid (HU.out.keep HKN.out)
            have HK := Lib.hid (HK.out.trans HKN.out)
            have HPV := Lib.hid (HPV.out.keep HKN.out fun _ _ => id)
            have HAT := Lib.hid (HKN.out.rangeAt HAT.out)
            have HKi := Lib.hid (HKi.out.trans HKN.out)
            have HXA := Lib.hid (HKN.out.rangeAt HXA.out)
            have HW0 := Lib.hid (HW0.out.trans HKN.out)
            obtain ⟨lcn, hlcn⟩ : ∃ l, ubCs (.slice xa nu xc2) pu = l := ⟨_, rfl⟩
            have HLN := Lib.hid hlcn
            have hnl : lcn.length = 69 := by rw [← hlcn]; exact ubCs_len HPV.out.root.sum HPV.out.pool
            have HNO : Hid (∀ u ∈ lcn, u.oneCell' = true) := Lib.hid (by rw [← hlcn]; exact oneCell_ub pu)
            rw [hlcn] at HB11
            clear hlcn
            obtain ⟨B0, hB0⟩ : ∃ b, wj.heap.size = b := ⟨_, rfl⟩
            have HB0 := Lib.hid hB0
            have hBw : w.heap.size ≤ B0 := by rw [← hB0]; exact HK.out.size
            clear hB0
            have hm64 : m ≤ 64 := by omega
            have hmpc : m ≤ pc ∧ pc ≤ maxLen := by obtain ⟨a', c', h1, h2, h3⟩ := (Rd.of_owns HO.out).form; cases h1; exact ⟨h2, h3⟩
            obtain ⟨oa73, hoa73⟩ : ∃ x : Option Addr, (if pc = j then (some ⟨gq, 0, none⟩ : Option Addr) else some ⟨gq, j * 69, none⟩) = x := ⟨_, rfl⟩
            have hrds := rd_split HLO.out (by rw [HM.out]; exact Rd.of_owns HO.out) (j := j) (by rw [HM.out]; omega)
            rw [HM.out, hoa73] at hrds
            have HP66 := Lib.hid hrds.1; have HP73 := Lib.hid hrds.2
            unfold maxLen at hmpc
            have hji2 : (j : Int) ≤ (m : Int) := by omega
            have hjp : (j : Int) ≤ (pc : Int) := by omega
            have hmp : (m : Int) ≤ (pc : Int) := by omega
            clear hrds
            obtain ⟨S, hS0⟩ : ∃ S : World → Prop, S = fun w' => Keep noBlk wj w' := ⟨_, rfl⟩
            have HSE := Lib.hid (show ∀ w', S w' → Keep noBlk wj w' from fun w' h => by rw [hS0] at h; exact h)
            have HSI := Lib.hid (show ∀ w', Keep noBlk wj w' → S w' from fun w' h => by rw [hS0]; exact h)
            have hS : S wj.drew := by rw [hS0]; exact (Keep.refl _ _).drew
            clear hS0
            refine wp_region_held (S := S) (by kernel_rfl) ?_
            change wpAnyH _ _ _ _ _ _ _ _ wj.drew
            generalize wj.drew = wk at hS ⊢
            refine tka 1 (.slice (some ⟨gq, 0, none⟩) m pc) rfl hS ?_
            simp only [Act.put, List.setIfInBounds_toArray, List.set_cons_zero, List.set_cons_succ, List.getElem_toArray, List.getElem_cons_succ, List.getElem_cons_zero]
            refine tka 2 (.int .i64 (j : Int)) rfl hS ?_
            simp only [Act.put, List.setIfInBounds_toArray, List.set_cons_zero, List.set_cons_succ, List.getElem_toArray, List.getElem_cons_succ, List.getElem_cons_zero]
            refine tkb 3 (.slice (some ⟨gq, 0, none⟩) j pc) rfl hS ?_
            simp only [Act.put, List.setIfInBounds_toArray, List.set_cons_zero, List.set_cons_succ, List.getElem_toArray, List.getElem_cons_succ, List.getElem_cons_zero]
            refine tkd 5 (.agg (lcn).toArray) rfl (yieldsIf_load_mid (by rfl) 36 (.tmp 6) rfl (b6) (0) rfl (lcn) _ (fun w' h => rangeAt_whole ((HSE.out w' h).blk HB11.out id)) ubUnder rfl (by first | exact sizeUbL hpl | exact sizeUbL hxl | exact sizeUbL hnl)) hS ?_
            simp only [Act.put, List.setIfInBounds_toArray, List.set_cons_zero, List.set_cons_succ, List.getElem_toArray, List.getElem_cons_succ, List.getElem_cons_zero]
            refine tka 8 (.slice (some ⟨gq, 0, none⟩) m pc) rfl hS ?_
            simp only [Act.put, List.setIfInBounds_toArray, List.set_cons_zero, List.set_cons_succ, List.getElem_toArray, List.getElem_cons_succ, List.getElem_cons_zero]
            refine tka 9 (.int .i64 (j : Int)) rfl hS ?_
            simp only [Act.put, List.setIfInBounds_toArray, List.set_cons_zero, List.set_cons_succ, List.getElem_toArray, List.getElem_cons_succ, List.getElem_cons_zero]
            refine tkb 10 (.slice oa73 (m - j) (pc - j)) rfl hS ?_
            simp only [Act.put, List.setIfInBounds_toArray, List.set_cons_zero, List.set_cons_succ, List.getElem_toArray, List.getElem_cons_succ, List.getElem_cons_zero]
            refine wpAnyH_two (k := 0) (l := 6) rfl rfl (by kernel_rfl) ?_ ?_
            · go_wp2_with fail
              obtain ⟨x63, hx63⟩ : ∃ x, wk.heap.size = x := ⟨_, rfl⟩
              have HO63 : Hid ((wk.alloc (.cells #[] 36)).ownsRow B0 36 69 (.slice (some ⟨x63, 0, none⟩) 0 0) 0 []) := Lib.hid (by rw [← hx63]; exact World.ownsRow_made wk #[] 0 (by rw [← HB0.out]; exact (HSE.out _ hS).size) (by unfold maxLen; omega) rfl)
              have hk : Keep noBlk wk (wk.alloc (.cells #[] 36)) := (Keep.refl _ _).alloc _
              rw [hx63]
              have HX63 := Lib.hid hx63
              clear hx63
              generalize wk.alloc (.cells #[] 36) = wl at *
              have HKx := Lib.hid hk
              have hS1 := HSI.out _ ((HSE.out _ hS).trans hk)
              clear hS hk
              refine ⟨hS1, ?_⟩
              refine wpAnyH_two (k := 4) (l := 6) rfl rfl (by kernel_rfl) ?_ ?_
              · refine wpList_append_rd (by rfl) (.tmp 63) (.tmp 66) 22 (by rfl) B0 36 (.agg (ubCs (.slice none 0 0) ⟨0, ⟨[], 0, 0, zeros32⟩, 0, zeros32⟩).toArray) 69 120 Tryz.underlying22 infoUb rfl (by decide) (.slice (some ⟨x63, 0, none⟩) 0 0) (0) ([]) (by rfl) HO63.out (.slice (some ⟨gq, 0, none⟩) j pc) (j) (ubRow (outs.take j)) (by rfl) (HP66.out.keep (HSE.out _ hS1) fun _ _ => id) (oneCell_ubRow (ubsO_take HU.out j)) (by unfold maxLen; omega) (by omega) (by rw [← HB0.out]; exact (HSE.out _ hS1).size) ?_
                intro v67 wm ho hk0 hn_ hb_
                have hk2 : Keep noBlk wj wm := (HSE.out _ hS1).trans' hk0 (U := noBlk) (fun _ _ h => h) (fun i hi e => by have h1 := owns_base HO63.out e; have h2 := HB0.out; omega)
                obtain ⟨a67, c67, hv_, -, -⟩ := (Rd.of_owns ho).form
                subst hv_
                have HO67 := Lib.hid ho
                clear ho hn_ hb_ hk0
                have hS2 := HSI.out _ hk2
                clear hS1 hk2
                go_wp2_with fail
                refine ⟨hS2, ?_⟩
                refine wpAnyH_one (k := 6) rfl (by kernel_rfl) ?_
                refine wpList_build_one (by rfl) 22 36 (.tmp 68) (by rfl) Tryz.underlying22 infoUb (by decide) (lcn) hnl (by decide) (by rfl) ?_
                have hk : Keep noBlk wm (wm.alloc (.cells (lcn).toArray 36)) := (Keep.refl _ _).alloc _
                have HR69 := Lib.hid (rd_blk (n := 1) (size := 69) (heap_alloc_new wm (.cells (lcn).toArray 36)) hnl (by unfold maxLen; omega))
                obtain ⟨x69, hx69⟩ : ∃ s, wm.heap.size = s := ⟨_, rfl⟩
                rw [hx69] at HR69 ⊢
                have HX69 := Lib.hid hx69
                clear hx69
                generalize wm.alloc (.cells (lcn).toArray 36) = wn at *
                have HO67 := Lib.hid (hk.owns HO67.out fun _ _ => id)
                have hS3 := HSI.out _ ((HSE.out _ hS2).trans hk)
                clear hS2 hk
                go_wp2_with fail
                refine ⟨hS3, ?_⟩
                refine wpAnyH_one (k := 7) rfl (by kernel_rfl) ?_
                refine wpList_append_rd (by rfl) (.tmp 67) (.tmp 69) 22 (by rfl) B0 36 (.agg (ubCs (.slice none 0 0) ⟨0, ⟨[], 0, 0, zeros32⟩, 0, zeros32⟩).toArray) 69 120 Tryz.underlying22 infoUb rfl (by decide) (.slice a67 (0 + j) c67) (0 + j) ([] ++ ubRow (outs.take j)) (by rfl) HO67.out (.slice (some ⟨x69, 0, none⟩) 1 1) (1) (lcn) (by rfl) HR69.out HNO.out (by unfold maxLen; omega) (by omega) (by rw [← HB0.out]; exact (HSE.out _ hS3).size) ?_
                intro v70 wo ho hk0 hn_ hb_
                have hk2 : Keep noBlk wj wo := (HSE.out _ hS3).trans' hk0 (U := noBlk) (fun _ _ h => h) (fun i hi e => by have h1 := owns_base HO67.out e; have h2 := HB0.out; omega)
                obtain ⟨a70, c70, hv_, -, -⟩ := (Rd.of_owns ho).form
                subst hv_
                have HO70 := Lib.hid ho
                clear ho hn_ hb_ hk0
                have hS4 := HSI.out _ hk2
                clear hS3 hk2
                go_wp2_with fail
                refine ⟨hS4, ?_⟩
                refine wpAnyH_one (k := 11) rfl (by kernel_rfl) ?_
                refine wpList_append_rd (by rfl) (.tmp 70) (.tmp 73) 22 (by rfl) B0 36 (.agg (ubCs (.slice none 0 0) ⟨0, ⟨[], 0, 0, zeros32⟩, 0, zeros32⟩).toArray) 69 120 Tryz.underlying22 infoUb rfl (by decide) (.slice a70 (0 + j + 1) c70) (0 + j + 1) ([] ++ ubRow (outs.take j) ++ lcn) (by rfl) HO70.out (.slice oa73 (m - j) (pc - j)) ((m - j)) (ubRow (outs.drop j)) (by rfl) (HP73.out.keep (HSE.out _ hS4) fun _ _ => id) (oneCell_ubRow (ubsO_drop HU.out j)) (by unfold maxLen; omega) (by omega) (by rw [← HB0.out]; exact (HSE.out _ hS4).size) ?_
                intro v74 wp ho hk0 hn_ hb_
                have hk2 : Keep noBlk wj wp := (HSE.out _ hS4).trans' hk0 (U := noBlk) (fun _ _ h => h) (fun i hi e => by have h1 := owns_base HO70.out e; have h2 := HB0.out; omega)
                obtain ⟨a74, c74, hv_, -, -⟩ := (Rd.of_owns ho).form
                subst hv_
                have HO74 := Lib.hid ho
                clear ho hn_ hb_ hk0
                have hS5 := HSI.out _ hk2
                clear hS4 hk2
                go_wp2_with fail
                refine ⟨hS5, ?_⟩
                refine tka 12 (.slice a74 (0 + j + 1 + (m - j)) c74) rfl hS5 ?_
                simp only [Act.put, List.setIfInBounds_toArray, List.set_cons_zero, List.set_cons_succ, List.getElem_toArray, List.getElem_cons_succ, List.getElem_cons_zero]
                refine wpAnyH_done (by kernel_rfl) ?_ _
                have HKR := Lib.hid (HSE.out _ hS5)
                clear hS5 HSE HSI
                have HO := Lib.hid (HKR.out.owns HO.out fun _ _ => id)
                have HU := Lib.hid (HU.out.keep HKR.out)
                have HK := Lib.hid (HK.out.trans HKR.out)
                have HPV := Lib.hid (HPV.out.keep HKR.out fun _ _ => id)
                have HAT := Lib.hid (HKR.out.rangeAt HAT.out)
                have HKi := Lib.hid (HKi.out.trans HKR.out)
                have HXA := Lib.hid (HKR.out.rangeAt HXA.out)
                have HW0 := Lib.hid (HW0.out.trans HKR.out)
                have HOA := Lib.hid (HKR.out.owns HOA.out fun _ _ => id)
                go_wp2_with fail
                have hlen : 0 + j + 1 + (m - j) = m + 1 := by omega
                go_roundw
                case rel =>
                  refine ⟨k + 1, m + 1, a74, c74, outs.take j ++ (.slice xa nu xc2, pu) :: outs.drop j, by omega, by omega, by rw [hlen], by go_num, Lib.hid ?_, Lib.hid ?_, Lib.hid ?_, Lib.hid ?_, HK⟩
                  · have := HM.out
                    rw [List.length_append, List.length_cons, List.length_take, List.length_drop]; omega
                  · have h := ownsRow_mono HO74.out hBw
                    rw [hlen] at h
                    rw [ubRow_append, show ubRow ((Value.slice xa nu xc2, pu) :: outs.drop j) = lcn ++ ubRow (outs.drop j) from by rw [← HLN.out]; rfl, ← List.append_assoc]
                    exact h
                  · have h := best_ins HB.out HFO.out HFU.out (j := j) (fun i x hi hx => by rw [List.getElem?_map] at hx; obtain ⟨q, hq, rfl⟩ := Option.map_eq_some_iff.1 hx; exact HAH.out i q hi hq) (fun x hx => by rw [List.getElem?_map, HQ.out] at hx; cases hx; exact ⟨hbl, fun e => by rw [(eqB_iff qu pu).2 e] at hbe; cases hbe⟩)
                    rw [HTK.out]
                    simpa only [List.map_append, List.map_cons, List.map_take, List.map_drop] using h
                  · intro q hq
                    rcases List.mem_append.1 hq with h | h
                    · exact HU.out q (List.mem_of_mem_take h)
                    · rcases List.mem_cons.1 h with rfl | h
                      · exact ⟨HPV.out.pool, HPV.out.root.sum, HPV.out.root.ads, by rw [HNU.out]; exact ownsRow_mono HOA.out HKW0.out.size⟩
                      · exact HU.out q (List.mem_of_mem_drop h)
                case measure => simp [intOf]; omega
              · have HSIZE := Lib.hid (show x63 < wl.heap.size from by obtain ⟨cur, hc⟩ := owns_block HO63.out (k := x63) rfl; exact lt_of_block hc)
                refine wpList_build_one (by rfl) 22 36 (.tmp 68) (by rfl) Tryz.underlying22 infoUb (by decide) (lcn) hnl (by decide) (by rfl) ?_
                have hk : Keep noBlk wl (wl.alloc (.cells (lcn).toArray 36)) := (Keep.refl _ _).alloc _
                have HR69 := Lib.hid (rd_blk (n := 1) (size := 69) (heap_alloc_new wl (.cells (lcn).toArray 36)) hnl (by unfold maxLen; omega))
                obtain ⟨x69, hx69⟩ : ∃ s, wl.heap.size = s := ⟨_, rfl⟩
                rw [hx69] at HR69 ⊢
                have HX69 := Lib.hid hx69
                clear hx69
                generalize wl.alloc (.cells (lcn).toArray 36) = wm at *
                have HO63 := Lib.hid (hk.owns HO63.out fun _ _ => id)
                have hS2 := HSI.out _ ((HSE.out _ hS1).trans hk)
                clear hS1 hk
                go_wp2_with fail
                refine ⟨hS2, ?_⟩
                refine wpAnyH_one (k := 4) rfl (by kernel_rfl) ?_
                refine wpList_append_rd (by rfl) (.tmp 63) (.tmp 66) 22 (by rfl) B0 36 (.agg (ubCs (.slice none 0 0) ⟨0, ⟨[], 0, 0, zeros32⟩, 0, zeros32⟩).toArray) 69 120 Tryz.underlying22 infoUb rfl (by decide) (.slice (some ⟨x63, 0, none⟩) 0 0) (0) ([]) (by rfl) HO63.out (.slice (some ⟨gq, 0, none⟩) j pc) (j) (ubRow (outs.take j)) (by rfl) (HP66.out.keep (HSE.out _ hS2) fun _ _ => id) (oneCell_ubRow (ubsO_take HU.out j)) (by unfold maxLen; omega) (by omega) (by rw [← HB0.out]; exact (HSE.out _ hS2).size) ?_
                intro v67 wn ho hk0 hn_ hb_
                have hk2 : Keep noBlk wj wn := (HSE.out _ hS2).trans' hk0 (U := noBlk) (fun _ _ h => h) (fun i hi e => by have h1 := owns_base HO63.out e; have h2 := HB0.out; omega)
                obtain ⟨a67, c67, hv_, -, -⟩ := (Rd.of_owns ho).form
                subst hv_
                have HO67 := Lib.hid ho
                have HR69 := Lib.hid (HR69.out.keep hk0 (fun j hj e => by cases hj; have e2 : x63 = x69 := Option.some.inj e; have h1 := HX63.out; have h2 := HX69.out; have h3 := HSIZE.out; omega))
                clear ho hn_ hb_ hk0
                have hS3 := HSI.out _ hk2
                clear hS2 hk2
                go_wp2_with fail
                refine ⟨hS3, ?_⟩
                refine wpAnyH_one (k := 7) rfl (by kernel_rfl) ?_
                refine wpList_append_rd (by rfl) (.tmp 67) (.tmp 69) 22 (by rfl) B0 36 (.agg (ubCs (.slice none 0 0) ⟨0, ⟨[], 0, 0, zeros32⟩, 0, zeros32⟩).toArray) 69 120 Tryz.underlying22 infoUb rfl (by decide) (.slice a67 (0 + j) c67) (0 + j) ([] ++ ubRow (outs.take j)) (by rfl) HO67.out (.slice (some ⟨x69, 0, none⟩) 1 1) (1) (lcn) (by rfl) HR69.out HNO.out (by unfold maxLen; omega) (by omega) (by rw [← HB0.out]; exact (HSE.out _ hS3).size) ?_
                intro v70 wo ho hk0 hn_ hb_
                have hk2 : Keep noBlk wj wo := (HSE.out _ hS3).trans' hk0 (U := noBlk) (fun _ _ h => h) (fun i hi e => by have h1 := owns_base HO67.out e; have h2 := HB0.out; omega)
                obtain ⟨a70, c70, hv_, -, -⟩ := (Rd.of_owns ho).form
                subst hv_
                have HO70 := Lib.hid ho
                clear ho hn_ hb_ hk0
                have hS4 := HSI.out _ hk2
                clear hS3 hk2
                go_wp2_with fail
                refine ⟨hS4, ?_⟩
                refine wpAnyH_one (k := 11) rfl (by kernel_rfl) ?_
                refine wpList_append_rd (by rfl) (.tmp 70) (.tmp 73) 22 (by rfl) B0 36 (.agg (ubCs (.slice none 0 0) ⟨0, ⟨[], 0, 0, zeros32⟩, 0, zeros32⟩).toArray) 69 120 Tryz.underlying22 infoUb rfl (by decide) (.slice a70 (0 + j + 1) c70) (0 + j + 1) ([] ++ ubRow (outs.take j) ++ lcn) (by rfl) HO70.out (.slice oa73 (m - j) (pc - j)) ((m - j)) (ubRow (outs.drop j)) (by rfl) (HP73.out.keep (HSE.out _ hS4) fun _ _ => id) (oneCell_ubRow (ubsO_drop HU.out j)) (by unfold maxLen; omega) (by omega) (by rw [← HB0.out]; exact (HSE.out _ hS4).size) ?_
                intro v74 wp ho hk0 hn_ hb_
                have hk2 : Keep noBlk wj wp := (HSE.out _ hS4).trans' hk0 (U := noBlk) (fun _ _ h => h) (fun i hi e => by have h1 := owns_base HO70.out e; have h2 := HB0.out; omega)
                obtain ⟨a74, c74, hv_, -, -⟩ := (Rd.of_owns ho).form
                subst hv_
                have HO74 := Lib.hid ho
                clear ho hn_ hb_ hk0
                have hS5 := HSI.out _ hk2
                clear hS4 hk2
                go_wp2_with fail
                refine ⟨hS5, ?_⟩
                refine tka 12 (.slice a74 (0 + j + 1 + (m - j)) c74) rfl hS5 ?_
                simp only [Act.put, List.setIfInBounds_toArray, List.set_cons_zero, List.set_cons_succ, List.getElem_toArray, List.getElem_cons_succ, List.getElem_cons_zero]
                refine wpAnyH_done (by kernel_rfl) ?_ _
                have HKR := Lib.hid (HSE.out _ hS5)
                clear hS5 HSE HSI
                have HO := Lib.hid (HKR.out.owns HO.out fun _ _ => id)
                have HU := Lib.hid (HU.out.keep HKR.out)
                have HK := Lib.hid (HK.out.trans HKR.out)
                have HPV := Lib.hid (HPV.out.keep HKR.out fun _ _ => id)
                have HAT := Lib.hid (HKR.out.rangeAt HAT.out)
                have HKi := Lib.hid (HKi.out.trans HKR.out)
                have HXA := Lib.hid (HKR.out.rangeAt HXA.out)
                have HW0 := Lib.hid (HW0.out.trans HKR.out)
                have HOA := Lib.hid (HKR.out.owns HOA.out fun _ _ => id)
                go_wp2_with fail
                have hlen : 0 + j + 1 + (m - j) = m + 1 := by omega
                go_roundw
                case rel =>
                  refine ⟨k + 1, m + 1, a74, c74, outs.take j ++ (.slice xa nu xc2, pu) :: outs.drop j, by omega, by omega, by rw [hlen], by go_num, Lib.hid ?_, Lib.hid ?_, Lib.hid ?_, Lib.hid ?_, HK⟩
                  · have := HM.out
                    rw [List.length_append, List.length_cons, List.length_take, List.length_drop]; omega
                  · have h := ownsRow_mono HO74.out hBw
                    rw [hlen] at h
                    rw [ubRow_append, show ubRow ((Value.slice xa nu xc2, pu) :: outs.drop j) = lcn ++ ubRow (outs.drop j) from by rw [← HLN.out]; rfl, ← List.append_assoc]
                    exact h
                  · have h := best_ins HB.out HFO.out HFU.out (j := j) (fun i x hi hx => by rw [List.getElem?_map] at hx; obtain ⟨q, hq, rfl⟩ := Option.map_eq_some_iff.1 hx; exact HAH.out i q hi hq) (fun x hx => by rw [List.getElem?_map, HQ.out] at hx; cases hx; exact ⟨hbl, fun e => by rw [(eqB_iff qu pu).2 e] at hbe; cases hbe⟩)
                    rw [HTK.out]
                    simpa only [List.map_append, List.map_cons, List.map_take, List.map_drop] using h
                  · intro q hq
                    rcases List.mem_append.1 hq with h | h
                    · exact HU.out q (List.mem_of_mem_take h)
                    · rcases List.mem_cons.1 h with rfl | h
                      · exact ⟨HPV.out.pool, HPV.out.root.sum, HPV.out.root.ads, by rw [HNU.out]; exact ownsRow_mono HOA.out HKW0.out.size⟩
                      · exact HU.out q (List.mem_of_mem_drop h)
                case measure => simp [intOf]; omega
            · refine wpList_build_one (by rfl) 22 36 (.tmp 68) (by rfl) Tryz.underlying22 infoUb (by decide) (lcn) hnl (by decide) (by rfl) ?_
              have hk : Keep noBlk wk (wk.alloc (.cells (lcn).toArray 36)) := (Keep.refl _ _).alloc _
              have HR69 := Lib.hid (rd_blk (n := 1) (size := 69) (heap_alloc_new wk (.cells (lcn).toArray 36)) hnl (by unfold maxLen; omega))
              obtain ⟨x69, hx69⟩ : ∃ s, wk.heap.size = s := ⟨_, rfl⟩
              rw [hx69] at HR69 ⊢
              have HX69 := Lib.hid hx69
              clear hx69
              generalize wk.alloc (.cells (lcn).toArray 36) = wl at *
              skip
              have hS1 := HSI.out _ ((HSE.out _ hS).trans hk)
              clear hS hk
              go_wp2_with fail
              refine ⟨hS1, ?_⟩
              have HSIZE := Lib.hid (show x69 < wl.heap.size from by obtain ⟨k_, h1, h2⟩ := HR69.out.lt (by rw [hnl]; decide); cases h1; exact h2)
              refine wpAnyH_one (k := 0) rfl (by kernel_rfl) ?_
              go_wp2_with fail
              obtain ⟨x63, hx63⟩ : ∃ x, wl.heap.size = x := ⟨_, rfl⟩
              have HO63 : Hid ((wl.alloc (.cells #[] 36)).ownsRow B0 36 69 (.slice (some ⟨x63, 0, none⟩) 0 0) 0 []) := Lib.hid (by rw [← hx63]; exact World.ownsRow_made wl #[] 0 (by rw [← HB0.out]; exact (HSE.out _ hS1).size) (by unfold maxLen; omega) rfl)
              have hk : Keep noBlk wl (wl.alloc (.cells #[] 36)) := (Keep.refl _ _).alloc _
              rw [hx63]
              have HX63 := Lib.hid hx63
              clear hx63
              generalize wl.alloc (.cells #[] 36) = wm at *
              have HKx := Lib.hid hk
              have hS2 := HSI.out _ ((HSE.out _ hS1).trans hk)
              clear hS1 hk
              refine ⟨hS2, ?_⟩
              have HR69 := Lib.hid (HR69.out.keep HKx.out fun _ _ => id)
              refine wpAnyH_one (k := 4) rfl (by kernel_rfl) ?_
              refine wpList_append_rd (by rfl) (.tmp 63) (.tmp 66) 22 (by rfl) B0 36 (.agg (ubCs (.slice none 0 0) ⟨0, ⟨[], 0, 0, zeros32⟩, 0, zeros32⟩).toArray) 69 120 Tryz.underlying22 infoUb rfl (by decide) (.slice (some ⟨x63, 0, none⟩) 0 0) (0) ([]) (by rfl) HO63.out (.slice (some ⟨gq, 0, none⟩) j pc) (j) (ubRow (outs.take j)) (by rfl) (HP66.out.keep (HSE.out _ hS2) fun _ _ => id) (oneCell_ubRow (ubsO_take HU.out j)) (by unfold maxLen; omega) (by omega) (by rw [← HB0.out]; exact (HSE.out _ hS2).size) ?_
              intro v67 wn ho hk0 hn_ hb_
              have hk2 : Keep noBlk wj wn := (HSE.out _ hS2).trans' hk0 (U := noBlk) (fun _ _ h => h) (fun i hi e => by have h1 := owns_base HO63.out e; have h2 := HB0.out; omega)
              obtain ⟨a67, c67, hv_, -, -⟩ := (Rd.of_owns ho).form
              subst hv_
              have HO67 := Lib.hid ho
              have HR69 := Lib.hid (HR69.out.keep hk0 (fun j hj e => by cases hj; have e2 : x63 = x69 := Option.some.inj e; have h1 := HX63.out; have h2 := HX69.out; have h3 := HSIZE.out; omega))
              clear ho hn_ hb_ hk0
              have hS3 := HSI.out _ hk2
              clear hS2 hk2
              go_wp2_with fail
              refine ⟨hS3, ?_⟩
              refine wpAnyH_one (k := 7) rfl (by kernel_rfl) ?_
              refine wpList_append_rd (by rfl) (.tmp 67) (.tmp 69) 22 (by rfl) B0 36 (.agg (ubCs (.slice none 0 0) ⟨0, ⟨[], 0, 0, zeros32⟩, 0, zeros32⟩).toArray) 69 120 Tryz.underlying22 infoUb rfl (by decide) (.slice a67 (0 + j) c67) (0 + j) ([] ++ ubRow (outs.take j)) (by rfl) HO67.out (.slice (some ⟨x69, 0, none⟩) 1 1) (1) (lcn) (by rfl) HR69.out HNO.out (by unfold maxLen; omega) (by omega) (by rw [← HB0.out]; exact (HSE.out _ hS3).size) ?_
              intro v70 wo ho hk0 hn_ hb_
              have hk2 : Keep noBlk wj wo := (HSE.out _ hS3).trans' hk0 (U := noBlk) (fun _ _ h => h) (fun i hi e => by have h1 := owns_base HO67.out e; have h2 := HB0.out; omega)
              obtain ⟨a70, c70, hv_, -, -⟩ := (Rd.of_owns ho).form
              subst hv_
              have HO70 := Lib.hid ho
              clear ho hn_ hb_ hk0
              have hS4 := HSI.out _ hk2
              clear hS3 hk2
              go_wp2_with fail
              refine ⟨hS4, ?_⟩
              refine wpAnyH_one (k := 11) rfl (by kernel_rfl) ?_
              refine wpList_append_rd (by rfl) (.tmp 70) (.tmp 73) 22 (by rfl) B0 36 (.agg (ubCs (.slice none 0 0) ⟨0, ⟨[], 0, 0, zeros32⟩, 0, zeros32⟩).toArray) 69 120 Tryz.underlying22 infoUb rfl (by decide) (.slice a70 (0 + j + 1) c70) (0 + j + 1) ([] ++ ubRow (outs.take j) ++ lcn) (by rfl) HO70.out (.slice oa73 (m - j) (pc - j)) ((m - j)) (ubRow (outs.drop j)) (by rfl) (HP73.out.keep (HSE.out _ hS4) fun _ _ => id) (oneCell_ubRow (ubsO_drop HU.out j)) (by unfold maxLen; omega) (by omega) (by rw [← HB0.out]; exact (HSE.out _ hS4).size) ?_
              intro v74 wp ho hk0 hn_ hb_
              have hk2 : Keep noBlk wj wp := (HSE.out _ hS4).trans' hk0 (U := noBlk) (fun _ _ h => h) (fun i hi e => by have h1 := owns_base HO70.out e; have h2 := HB0.out; omega)
              obtain ⟨a74, c74, hv_, -, -⟩ := (Rd.of_owns ho).form
              subst hv_
              have HO74 := Lib.hid ho
              clear ho hn_ hb_ hk0
              have hS5 := HSI.out _ hk2
              clear hS4 hk2
              go_wp2_with fail
              refine ⟨hS5, ?_⟩
              refine tka 12 (.slice a74 (0 + j + 1 + (m - j)) c74) rfl hS5 ?_
              simp only [Act.put, List.setIfInBounds_toArray, List.set_cons_zero, List.set_cons_succ, List.getElem_toArray, List.getElem_cons_succ, List.getElem_cons_zero]
              refine wpAnyH_done (by kernel_rfl) ?_ _
              have HKR := Lib.hid (HSE.out _ hS5)
              clear hS5 HSE HSI
              have HO := Lib.hid (HKR.out.owns HO.out fun _ _ => id)
              have HU := Lib.hid (HU.out.keep HKR.out)
              have HK := Lib.hid (HK.out.trans HKR.out)
              have HPV := Lib.hid (HPV.out.keep HKR.out fun _ _ => id)
              have HAT := Lib.hid (HKR.out.rangeAt HAT.out)
              have HKi := Lib.hid (HKi.out.trans HKR.out)
              have HXA := Lib.hid (HKR.out.rangeAt HXA.out)
              have HW0 := Lib.hid (HW0.out.trans HKR.out)
              have HOA := Lib.hid (HKR.out.owns HOA.out fun _ _ => id)
              go_wp2_with fail
              have hlen : 0 + j + 1 + (m - j) = m + 1 := by omega
              go_roundw
              case rel =>
                refine ⟨k + 1, m + 1, a74, c74, outs.take j ++ (.slice xa nu xc2, pu) :: outs.drop j, by omega, by omega, by rw [hlen], by go_num, Lib.hid ?_, Lib.hid ?_, Lib.hid ?_, Lib.hid ?_, HK⟩
                · have := HM.out
                  rw [List.length_append, List.length_cons, List.length_take, List.length_drop]; omega
                · have h := ownsRow_mono HO74.out hBw
                  rw [hlen] at h
                  rw [ubRow_append, show ubRow ((Value.slice xa nu xc2, pu) :: outs.drop j) = lcn ++ ubRow (outs.drop j) from by rw [← HLN.out]; rfl, ← List.append_assoc]
                  exact h
                · have h := best_ins HB.out HFO.out HFU.out (j := j) (fun i x hi hx => by rw [List.getElem?_map] at hx; obtain ⟨q, hq, rfl⟩ := Option.map_eq_some_iff.1 hx; exact HAH.out i q hi hq) (fun x hx => by rw [List.getElem?_map, HQ.out] at hx; cases hx; exact ⟨hbl, fun e => by rw [(eqB_iff qu pu).2 e] at hbe; cases hbe⟩)
                  rw [HTK.out]
                  simpa only [List.map_append, List.map_cons, List.map_take, List.map_drop] using h
                · intro q hq
                  rcases List.mem_append.1 hq with h | h
                  · exact HU.out q (List.mem_of_mem_take h)
                  · rcases List.mem_cons.1 h with rfl | h
                    · exact ⟨HPV.out.pool, HPV.out.root.sum, HPV.out.root.ads, by rw [HNU.out]; exact ownsRow_mono HOA.out HKW0.out.size⟩
                    · exact HU.out q (List.mem_of_mem_drop h)
              case measure => simp [intOf]; omega
          · obtain ⟨S, hS0⟩ : ∃ S : World → Prop, S = fun w' => Keep noBlk wd w' := ⟨_, rfl⟩
            have HSE := Lib.hid (show ∀ w', S w' → Keep noBlk wd w' from fun w' h => by rw [hS0] at h; exact h)
            have HSI := Lib.hid (show ∀ w', Keep noBlk wd w' → S w' from fun w' h => by rw [hS0]; exact h)
            have hS : S wd.drew := by rw [hS0]; exact (Keep.refl _ _).drew
            clear hS0
            refine wp_region_held (S := S) (by kernel_rfl) ?_
            change wpAnyH _ _ _ _ _ _ _ _ wd.drew
            generalize wd.drew = we at hS ⊢
            refine tka 0 (.int .i64 (j : Int)) rfl hS ?_
            simp only [Act.put, List.setIfInBounds_toArray, List.set_cons_zero, List.set_cons_succ, List.getElem_toArray, List.getElem_cons_zero]
            refine tka 1 (.slice (some ⟨gq, 0, none⟩) m pc) rfl hS ?_
            simp only [Act.put, List.setIfInBounds_toArray, List.set_cons_zero, List.set_cons_succ, List.getElem_toArray, List.getElem_cons_succ, List.getElem_cons_zero]
            refine tkb 2 (.int .i64 m) rfl hS ?_
            simp only [Act.put, List.setIfInBounds_toArray, List.set_cons_zero, List.set_cons_succ, List.getElem_toArray, List.getElem_cons_succ, List.getElem_cons_zero]
            refine tkb 3 (.bool false) rfl hS ?_
            simp only [Act.put, List.setIfInBounds_toArray, List.set_cons_zero, List.set_cons_succ, List.getElem_toArray, List.getElem_cons_succ, List.getElem_cons_zero]
            refine tka 4 (.bool false) rfl hS ?_
            simp only [Act.put, List.setIfInBounds_toArray, List.set_cons_zero, List.set_cons_succ, List.getElem_toArray, List.getElem_cons_succ, List.getElem_cons_zero]
            refine tka 5 (.slice (some ⟨gq, 0, none⟩) m pc) rfl hS ?_
            simp only [Act.put, List.setIfInBounds_toArray, List.set_cons_zero, List.set_cons_succ, List.getElem_toArray, List.getElem_cons_succ, List.getElem_cons_zero]
            refine tka 6 (.int .i64 (j : Int)) rfl hS ?_
            simp only [Act.put, List.setIfInBounds_toArray, List.set_cons_zero, List.set_cons_succ, List.getElem_toArray, List.getElem_cons_succ, List.getElem_cons_zero]
            refine tkb 7 (.pointer (some ⟨gq, 0 + j * 69, none⟩)) rfl hS ?_
            simp only [Act.put, List.setIfInBounds_toArray, List.set_cons_zero, List.set_cons_succ, List.getElem_toArray, List.getElem_cons_succ, List.getElem_cons_zero]
            refine tkd 8 (.agg (xc).toArray) rfl (yieldsIf_load_mid (by rfl) 36 (.tmp 43) rfl (gq) (0 + j * 69) rfl (xc) _ (fun w' h => (HSE.out w' h).rangeAt HXA.out) ubUnder rfl (by first | exact sizeUbL hpl | exact sizeUbL hxl | exact sizeUbL hnl)) hS ?_
            simp only [Act.put, List.setIfInBounds_toArray, List.set_cons_zero, List.set_cons_succ, List.getElem_toArray, List.getElem_cons_succ, List.getElem_cons_zero]
            refine tka 9 (.slice (some ⟨gp, op, none⟩) n ca) rfl hS ?_
            simp only [Act.put, List.setIfInBounds_toArray, List.set_cons_zero, List.set_cons_succ, List.getElem_toArray, List.getElem_cons_succ, List.getElem_cons_zero]
            refine tka 10 (.int .i64 (k : Int)) rfl hS ?_
            simp only [Act.put, List.setIfInBounds_toArray, List.set_cons_zero, List.set_cons_succ, List.getElem_toArray, List.getElem_cons_succ, List.getElem_cons_zero]
            refine tkb 11 (.pointer (some ⟨gp, op + k * 69, none⟩)) rfl hS ?_
            simp only [Act.put, List.setIfInBounds_toArray, List.set_cons_zero, List.set_cons_succ, List.getElem_toArray, List.getElem_cons_succ, List.getElem_cons_zero]
            refine tkd 12 (.agg (uc).toArray) rfl (yieldsIf_load_mid (by rfl) 36 (.tmp 47) rfl (gp) (op + k * 69) rfl (uc) _ (fun w' h => (HSE.out w' h).rangeAt HAT.out) ubUnder rfl (by first | exact sizeUbL hpl | exact sizeUbL hxl | exact sizeUbL hnl)) hS ?_
            simp only [Act.put, List.setIfInBounds_toArray, List.set_cons_zero, List.set_cons_succ, List.getElem_toArray, List.getElem_cons_succ, List.getElem_cons_zero]
            refine wpAnyH_one (k := 13) rfl (by kernel_rfl) ?_
            go_wp2_with fail
            refine (HC2.out we (HW0.out.trans (HSE.out _ hS))).mono ?_
            rintro e wf ⟨rfl, hk⟩
            have hS1 := HSI.out _ ((HSE.out _ hS).trans hk)
            clear hS hk
            go_wp2_with fail
            refine ⟨hS1, ?_⟩
            refine tkb 14 (.bool false) rfl hS1 ?_
            simp only [Act.put, List.setIfInBounds_toArray, List.set_cons_zero, List.set_cons_succ, List.getElem_toArray, List.getElem_cons_succ, List.getElem_cons_zero]
            refine tka 15 (.bool false) rfl hS1 ?_
            simp only [Act.put, List.setIfInBounds_toArray, List.set_cons_zero, List.set_cons_succ, List.getElem_toArray, List.getElem_cons_succ, List.getElem_cons_zero]
            refine wpAnyH_done (by kernel_rfl) ?_ _
            have HKR := Lib.hid (HSE.out _ hS1)
            clear hS1 HSE HSI
            have HO := Lib.hid (HKR.out.owns HO.out fun _ _ => id)
            have HU := Lib.hid (HU.out.keep HKR.out)
            have HK := Lib.hid (HK.out.trans HKR.out)
            have HPV := Lib.hid (HPV.out.keep HKR.out fun _ _ => id)
            have HAT := Lib.hid (HKR.out.rangeAt HAT.out)
            have HKi := Lib.hid (HKi.out.trans HKR.out)
            have HXA := Lib.hid (HKR.out.rangeAt HXA.out)
            have HW0 := Lib.hid (HW0.out.trans HKR.out)
            go_wp2_with fail
            have hbd := best_dup (u := pu) HB.out (by rw [← (eqB_iff qu pu).1 hbe]; exact List.mem_map.2 ⟨_, List.mem_of_getElem? HQ.out, rfl⟩)
            go_roundw
            case rel => exact ⟨k + 1, m, _, pc, outs, by omega, by omega, rfl, by go_num, HM, HO, Lib.hid (by rw [HTK.out]; exact hbd), HU, HK⟩
            case measure => simp [intOf]; omega
        · go_wp2_with fail
          obtain ⟨S, hS0⟩ : ∃ S : World → Prop, S = fun w' => Keep noBlk wr w' := ⟨_, rfl⟩
          have HSE := Lib.hid (show ∀ w', S w' → Keep noBlk wr w' from fun w' h => by rw [hS0] at h; exact h)
          have HSI := Lib.hid (show ∀ w', Keep noBlk wr w' → S w' from fun w' h => by rw [hS0]; exact h)
          have hS : S wr.drew := by rw [hS0]; exact (Keep.refl _ _).drew
          clear hS0
          refine wp_region_held (S := S) (by kernel_rfl) ?_
          change wpAnyH _ _ _ _ _ _ _ _ wr.drew
          generalize wr.drew = wc at hS ⊢
          refine tka 0 (.int .i64 (j : Int)) rfl hS ?_
          simp only [Act.put, List.setIfInBounds_toArray, List.set_cons_zero, List.set_cons_succ, List.getElem_toArray, List.getElem_cons_zero]
          refine tka 1 (.slice (some ⟨gq, 0, none⟩) m pc) rfl hS ?_
          simp only [Act.put, List.setIfInBounds_toArray, List.set_cons_zero, List.set_cons_succ, List.getElem_toArray, List.getElem_cons_succ, List.getElem_cons_zero]
          refine tkb 2 (.int .i64 m) rfl hS ?_
          simp only [Act.put, List.setIfInBounds_toArray, List.set_cons_zero, List.set_cons_succ, List.getElem_toArray, List.getElem_cons_succ, List.getElem_cons_zero]
          refine tkb 3 (.bool true) rfl hS ?_
          simp only [Act.put, List.setIfInBounds_toArray, List.set_cons_zero, List.set_cons_succ, List.getElem_toArray, List.getElem_cons_succ, List.getElem_cons_zero]
          refine tka 4 (.bool true) rfl hS ?_
          simp only [Act.put, List.setIfInBounds_toArray, List.set_cons_zero, List.set_cons_succ, List.getElem_toArray, List.getElem_cons_succ, List.getElem_cons_zero]
          refine tka 5 (.slice (some ⟨gq, 0, none⟩) m pc) rfl hS ?_
          simp only [Act.put, List.setIfInBounds_toArray, List.set_cons_zero, List.set_cons_succ, List.getElem_toArray, List.getElem_cons_succ, List.getElem_cons_zero]
          refine tka 6 (.int .i64 (j : Int)) rfl hS ?_
          simp only [Act.put, List.setIfInBounds_toArray, List.set_cons_zero, List.set_cons_succ, List.getElem_toArray, List.getElem_cons_succ, List.getElem_cons_zero]
          refine tkb 7 (.pointer (some ⟨gq, 0 + j * 69, none⟩)) rfl hS ?_
          simp only [Act.put, List.setIfInBounds_toArray, List.set_cons_zero, List.set_cons_succ, List.getElem_toArray, List.getElem_cons_succ, List.getElem_cons_zero]
          refine tkd 8 (.agg (xc).toArray) rfl (yieldsIf_load_mid (by rfl) 36 (.tmp 26) rfl (gq) (0 + j * 69) rfl (xc) _ (fun w' h => (HSE.out w' h).rangeAt HXA.out) ubUnder rfl (by first | exact sizeUbL hpl | exact sizeUbL hxl | exact sizeUbL hnl)) hS ?_
          simp only [Act.put, List.setIfInBounds_toArray, List.set_cons_zero, List.set_cons_succ, List.getElem_toArray, List.getElem_cons_succ, List.getElem_cons_zero]
          refine tka 9 (.slice (some ⟨gp, op, none⟩) n ca) rfl hS ?_
          simp only [Act.put, List.setIfInBounds_toArray, List.set_cons_zero, List.set_cons_succ, List.getElem_toArray, List.getElem_cons_succ, List.getElem_cons_zero]
          refine tka 10 (.int .i64 (k : Int)) rfl hS ?_
          simp only [Act.put, List.setIfInBounds_toArray, List.set_cons_zero, List.set_cons_succ, List.getElem_toArray, List.getElem_cons_succ, List.getElem_cons_zero]
          refine tkb 11 (.pointer (some ⟨gp, op + k * 69, none⟩)) rfl hS ?_
          simp only [Act.put, List.setIfInBounds_toArray, List.set_cons_zero, List.set_cons_succ, List.getElem_toArray, List.getElem_cons_succ, List.getElem_cons_zero]
          refine tkd 12 (.agg (uc).toArray) rfl (yieldsIf_load_mid (by rfl) 36 (.tmp 30) rfl (gp) (op + k * 69) rfl (uc) _ (fun w' h => (HSE.out w' h).rangeAt HAT.out) ubUnder rfl (by first | exact sizeUbL hpl | exact sizeUbL hxl | exact sizeUbL hnl)) hS ?_
          simp only [Act.put, List.setIfInBounds_toArray, List.set_cons_zero, List.set_cons_succ, List.getElem_toArray, List.getElem_cons_succ, List.getElem_cons_zero]
          refine wpAnyH_one (k := 13) rfl (by kernel_rfl) ?_
          go_wp2_with fail
          refine (HC1.out wc (HSE.out _ hS)).mono ?_
          rintro e wd ⟨rfl, hk⟩
          have hS1 := HSI.out _ ((HSE.out _ hS).trans hk)
          clear hS hk
          go_wp2_with fail
          refine ⟨hS1, ?_⟩
          refine tka 14 (.bool true) rfl hS1 ?_
          simp only [Act.put, List.setIfInBounds_toArray, List.set_cons_zero, List.set_cons_succ, List.getElem_toArray, List.getElem_cons_succ, List.getElem_cons_zero]
          refine wpAnyH_done (by kernel_rfl) ?_ _
          have HKR := Lib.hid (HSE.out _ hS1)
          clear hS1 HSE HSI
          have HO := Lib.hid (HKR.out.owns HO.out fun _ _ => id)
          have HU := Lib.hid (HU.out.keep HKR.out)
          have HK := Lib.hid (HK.out.trans HKR.out)
          have HPV := Lib.hid (HPV.out.keep HKR.out fun _ _ => id)
          have HAT := Lib.hid (HKR.out.rangeAt HAT.out)
          have HKi := Lib.hid (HKi.out.trans HKR.out)
          have HXA := Lib.hid (HKR.out.rangeAt HXA.out)
          have HW0 := Lib.hid (HW0.out.trans HKR.out)
          go_wp2_with fail
          go_roundw
          case rel => exact ⟨j + 1, by omega, by go_num, Lib.hid (fun i x hi hx => by
            rcases Nat.lt_or_ge i j with h | h
            · exact HAH.out i x h hx
            · obtain rfl : i = j := by omega
              rw [HQ.out] at hx; cases hx; exact hbl), HKi⟩
          case measure => simp [intOf]; omega
      · obtain rfl : m = j := by omega
        have hjme : ((m : Int) == (m : Int)) = true := by simp
        have hjl : decide ((m : Int) < (m : Int)) = false := by simp
        have hm0 : (0 : Int) ≤ (m : Int) := by omega
        rcases pa with _ | ad
        · have hmz : m = 0 ∧ pc = 0 := by
            rcases HO.out.2 with ⟨h1, -⟩ | ⟨g', cap', cur', h1, -⟩
            · cases h1; exact ⟨rfl, rfl⟩
            · cases h1
          obtain ⟨hmz, rfl⟩ := hmz
          subst hmz
          go_wp2_with fail
          obtain ⟨S, hS0⟩ : ∃ S : World → Prop, S = fun w' => Keep noBlk wr w' := ⟨_, rfl⟩
          have HSE := Lib.hid (show ∀ w', S w' → Keep noBlk wr w' from fun w' h => by rw [hS0] at h; exact h)
          have HSI := Lib.hid (show ∀ w', Keep noBlk wr w' → S w' from fun w' h => by rw [hS0]; exact h)
          have hS : S wr.drew := by rw [hS0]; exact (Keep.refl _ _).drew
          clear hS0
          refine wp_region_held (S := S) (by kernel_rfl) ?_
          change wpAnyH _ _ _ _ _ _ _ _ wr.drew
          generalize wr.drew = wc at hS ⊢
          refine tka 0 (.int .i64 (0 : Int)) rfl hS ?_
          simp only [Act.put, List.setIfInBounds_toArray, List.set_cons_zero, List.set_cons_succ, List.getElem_toArray, List.getElem_cons_zero]
          refine tka 1 (.slice none 0 0) rfl hS ?_
          simp only [Act.put, List.setIfInBounds_toArray, List.set_cons_zero, List.set_cons_succ, List.getElem_toArray, List.getElem_cons_succ, List.getElem_cons_zero]
          refine tkb 2 (.int .i64 0) rfl hS ?_
          simp only [Act.put, List.setIfInBounds_toArray, List.set_cons_zero, List.set_cons_succ, List.getElem_toArray, List.getElem_cons_succ, List.getElem_cons_zero]
          refine tkb 3 (.bool false) rfl hS ?_
          simp only [Act.put, List.setIfInBounds_toArray, List.set_cons_zero, List.set_cons_succ, List.getElem_toArray, List.getElem_cons_succ, List.getElem_cons_zero]
          refine tka 4 (.bool false) rfl hS ?_
          simp only [Act.put, List.setIfInBounds_toArray, List.set_cons_zero, List.set_cons_succ, List.getElem_toArray, List.getElem_cons_succ, List.getElem_cons_zero]
          refine tkc 5 undef rfl hS ?_
          simp only [Act.put, List.setIfInBounds_toArray, List.set_cons_zero, List.set_cons_succ, List.getElem_toArray, List.getElem_cons_succ, List.getElem_cons_zero]
          refine tkc 6 undef rfl hS ?_
          simp only [Act.put, List.setIfInBounds_toArray, List.set_cons_zero, List.set_cons_succ, List.getElem_toArray, List.getElem_cons_succ, List.getElem_cons_zero]
          refine tkc 7 undef rfl hS ?_
          simp only [Act.put, List.setIfInBounds_toArray, List.set_cons_zero, List.set_cons_succ, List.getElem_toArray, List.getElem_cons_succ, List.getElem_cons_zero]
          refine tkc 8 undef rfl hS ?_
          simp only [Act.put, List.setIfInBounds_toArray, List.set_cons_zero, List.set_cons_succ, List.getElem_toArray, List.getElem_cons_succ, List.getElem_cons_zero]
          refine tkc 9 undef rfl hS ?_
          simp only [Act.put, List.setIfInBounds_toArray, List.set_cons_zero, List.set_cons_succ, List.getElem_toArray, List.getElem_cons_succ, List.getElem_cons_zero]
          refine tkc 10 undef rfl hS ?_
          simp only [Act.put, List.setIfInBounds_toArray, List.set_cons_zero, List.set_cons_succ, List.getElem_toArray, List.getElem_cons_succ, List.getElem_cons_zero]
          refine tkc 11 undef rfl hS ?_
          simp only [Act.put, List.setIfInBounds_toArray, List.set_cons_zero, List.set_cons_succ, List.getElem_toArray, List.getElem_cons_succ, List.getElem_cons_zero]
          refine tkc 12 undef rfl hS ?_
          simp only [Act.put, List.setIfInBounds_toArray, List.set_cons_zero, List.set_cons_succ, List.getElem_toArray, List.getElem_cons_succ, List.getElem_cons_zero]
          refine tkc 13 undef rfl hS ?_
          simp only [Act.put, List.setIfInBounds_toArray, List.set_cons_zero, List.set_cons_succ, List.getElem_toArray, List.getElem_cons_succ, List.getElem_cons_zero]
          refine tka 14 (.bool false) rfl hS ?_
          simp only [Act.put, List.setIfInBounds_toArray, List.set_cons_zero, List.set_cons_succ, List.getElem_toArray, List.getElem_cons_succ, List.getElem_cons_zero]
          refine wpAnyH_done (by kernel_rfl) ?_ _
          have HKR := Lib.hid (HSE.out _ hS)
          clear hS HSE HSI
          have HO := Lib.hid (HKR.out.owns HO.out fun _ _ => id)
          have HU := Lib.hid (HU.out.keep HKR.out)
          have HK := Lib.hid (HK.out.trans HKR.out)
          have HPV := Lib.hid (HPV.out.keep HKR.out fun _ _ => id)
          have HAT := Lib.hid (HKR.out.rangeAt HAT.out)
          have HKi := Lib.hid (HKi.out.trans HKR.out)
          go_wp2_with fail
          obtain ⟨S, hS0⟩ : ∃ S : World → Prop, S = fun w' => Keep noBlk wc w' := ⟨_, rfl⟩
          have HSE := Lib.hid (show ∀ w', S w' → Keep noBlk wc w' from fun w' h => by rw [hS0] at h; exact h)
          have HSI := Lib.hid (show ∀ w', Keep noBlk wc w' → S w' from fun w' h => by rw [hS0]; exact h)
          have hS : S wc.drew := by rw [hS0]; exact (Keep.refl _ _).drew
          clear hS0
          refine wp_region_held (S := S) (by kernel_rfl) ?_
          change wpAnyH _ _ _ _ _ _ _ _ wc.drew
          generalize wc.drew = wd at hS ⊢
          refine tka 0 (.int .i64 (0 : Int)) rfl hS ?_
          simp only [Act.put, List.setIfInBounds_toArray, List.set_cons_zero, List.set_cons_succ, List.getElem_toArray, List.getElem_cons_zero]
          refine tka 1 (.slice none 0 0) rfl hS ?_
          simp only [Act.put, List.setIfInBounds_toArray, List.set_cons_zero, List.set_cons_succ, List.getElem_toArray, List.getElem_cons_succ, List.getElem_cons_zero]
          refine tkb 2 (.int .i64 0) rfl hS ?_
          simp only [Act.put, List.setIfInBounds_toArray, List.set_cons_zero, List.set_cons_succ, List.getElem_toArray, List.getElem_cons_succ, List.getElem_cons_zero]
          refine tkb 3 (.bool true) rfl hS ?_
          simp only [Act.put, List.setIfInBounds_toArray, List.set_cons_zero, List.set_cons_succ, List.getElem_toArray, List.getElem_cons_succ, List.getElem_cons_zero]
          refine tka 4 (.bool true) rfl hS ?_
          simp only [Act.put, List.setIfInBounds_toArray, List.set_cons_zero, List.set_cons_succ, List.getElem_toArray, List.getElem_cons_succ, List.getElem_cons_zero]
          refine tkc 5 undef rfl hS ?_
          simp only [Act.put, List.setIfInBounds_toArray, List.set_cons_zero, List.set_cons_succ, List.getElem_toArray, List.getElem_cons_succ, List.getElem_cons_zero]
          refine tkc 6 undef rfl hS ?_
          simp only [Act.put, List.setIfInBounds_toArray, List.set_cons_zero, List.set_cons_succ, List.getElem_toArray, List.getElem_cons_succ, List.getElem_cons_zero]
          refine tkc 7 undef rfl hS ?_
          simp only [Act.put, List.setIfInBounds_toArray, List.set_cons_zero, List.set_cons_succ, List.getElem_toArray, List.getElem_cons_succ, List.getElem_cons_zero]
          refine tkc 8 undef rfl hS ?_
          simp only [Act.put, List.setIfInBounds_toArray, List.set_cons_zero, List.set_cons_succ, List.getElem_toArray, List.getElem_cons_succ, List.getElem_cons_zero]
          refine tkc 9 undef rfl hS ?_
          simp only [Act.put, List.setIfInBounds_toArray, List.set_cons_zero, List.set_cons_succ, List.getElem_toArray, List.getElem_cons_succ, List.getElem_cons_zero]
          refine tkc 10 undef rfl hS ?_
          simp only [Act.put, List.setIfInBounds_toArray, List.set_cons_zero, List.set_cons_succ, List.getElem_toArray, List.getElem_cons_succ, List.getElem_cons_zero]
          refine tkc 11 undef rfl hS ?_
          simp only [Act.put, List.setIfInBounds_toArray, List.set_cons_zero, List.set_cons_succ, List.getElem_toArray, List.getElem_cons_succ, List.getElem_cons_zero]
          refine tkc 12 undef rfl hS ?_
          simp only [Act.put, List.setIfInBounds_toArray, List.set_cons_zero, List.set_cons_succ, List.getElem_toArray, List.getElem_cons_succ, List.getElem_cons_zero]
          refine tkc 13 undef rfl hS ?_
          simp only [Act.put, List.setIfInBounds_toArray, List.set_cons_zero, List.set_cons_succ, List.getElem_toArray, List.getElem_cons_succ, List.getElem_cons_zero]
          refine tkc 14 undef rfl hS ?_
          simp only [Act.put, List.setIfInBounds_toArray, List.set_cons_zero, List.set_cons_succ, List.getElem_toArray, List.getElem_cons_succ, List.getElem_cons_zero]
          refine tka 15 (.bool true) rfl hS ?_
          simp only [Act.put, List.setIfInBounds_toArray, List.set_cons_zero, List.set_cons_succ, List.getElem_toArray, List.getElem_cons_succ, List.getElem_cons_zero]
          refine wpAnyH_done (by kernel_rfl) ?_ _
          have HKR := Lib.hid (HSE.out _ hS)
          clear hS HSE HSI
          have HO := Lib.hid (HKR.out.owns HO.out fun _ _ => id)
          have HU := Lib.hid (HU.out.keep HKR.out)
          have HK := Lib.hid (HK.out.trans HKR.out)
          have HPV := Lib.hid (HPV.out.keep HKR.out fun _ _ => id)
          have HAT := Lib.hid (HKR.out.rangeAt HAT.out)
          have HKi := Lib.hid (HKi.out.trans HKR.out)
          have HKW0 := HK
          obtain ⟨b6, hb6⟩ : ∃ b, wd.heap.size = b := ⟨_, rfl⟩
          have HB6N := Lib.hid hb6
          go_wp2_with (first
            | ((with_reducible show wpList _ _ _ (⟨_, .load 36 (.tmp 54), _, _, _, _⟩ :: _) _ _); refine wpList_load_mid rfl 36 (.tmp 54) rfl gp (op + k * 69) rfl uc _ HAT.out ubUnder rfl (sizeUbL hpl) ?_)
            | ((with_reducible show wpList _ _ _ (⟨_, .alloc 36, _, _, _, _⟩ :: _) _ _); refine wpList_alloc_at rfl 36 rfl _ HZV.out zc.toArray rfl ?_)
            | ((with_reducible show wpList _ _ _ (⟨none, .store 36 (.tmp 6) (.tmp 55), _, _, _, _⟩ :: _) _ _)
               refine wpList_store_agg rfl 36 (.tmp 6) (.tmp 55) rfl wd.heap.size 0 uc rfl rfl zc.toArray _ (heap_alloc_new _ _) (by rw [hpl, List.size_toArray, hzl]; exact Nat.le_refl _) (sizeUbL hpl) HUO.out ?_
               intro we hbb hkk
               rw [spl_whole _ _ (by rw [hpl, List.size_toArray, hzl])] at hbb
               have hkb : Keep noBlk wd we := ((Keep.refl noBlk wd).alloc _).trans' hkk (fun _ _ h => h.elim) (fun i hi e => by omega)
               rw [HB6N.out] at hbb ⊢
               obtain ⟨wf, hw9, k9, hb9, s9⟩ := alloc_facts we #[] 70
               have hb69 := k9.blk hbb id
               have hc69 := blk_cell hb69 (i := 1) (v := .slice ba nu bc) (by rw [← HUC.out]; rfl)
               have HB69 := Lib.hid hb69
               have HK9 := Lib.hid (hkb.trans k9)
               obtain ⟨x9, hx9⟩ : ∃ b, we.heap.size = b := ⟨_, rfl⟩
               have HX9 := Lib.hid (show wd.heap.size ≤ x9 ∧ b6 < x9 from by have h1 := hkb.size; have h2 := lt_of_block hbb; omega)
               have HO9 : Hid (wf.ownsRow wd.heap.size 70 2 (.slice (some ⟨x9, 0, none⟩) 0 0) 0 []) := Lib.hid (by rw [← hx9, ← hw9]; exact World.ownsRow_made we #[] 0 hkb.size (by unfold maxLen; omega) rfl)
               have HR9 : Hid (Rd wf 2 (.slice ba nu bc) nu (adCells pu.root.addrs)) := Lib.hid (by have h := (HPV.out.keep HK9.out fun _ _ => id).root.rd; rw [HNU.out] at h; exact h)
               have HZ9 := Lib.hid HK9.out.size
               have hna : nu ≤ 65536 := by have := HPA.out; rw [HNU.out] at this; exact this
               clear hbb hkk hkb k9 hb9 s9 hb69)
            | (at_builtin; refine wpList_append_rd rfl (.tmp 56) (.tmp 59) 30 rfl wd.heap.size 70 zeroAdU 2 16 Tryz.underlying30 infoAdU rfl (by decide) (.slice (some ⟨x9, 0, none⟩) 0 0) 0 ([]) rfl HO9.out (.slice ba nu bc) nu (adCells pu.root.addrs) rfl HR9.out (oneCell_ads _) (by unfold maxLen; omega) (by omega) HZ9.out ?_
               intro v' wg hoa hka hna' hba
               rw [Nat.zero_add, List.nil_append] at hoa
               obtain ⟨xa, xc2, hxv, -, -⟩ := (Rd.of_owns hoa).form
               subst hxv
               have hb10 := hka.blk HB69.out (fun e => by have h1 := HX9.out.2; have h2 : x9 = b6 := Option.some.inj e; omega)
               have hc10 := blk_cell hb10 (i := 1) (v := .slice ba nu bc) (by rw [← HUC.out]; rfl)
               have hf10 := blk_free hb10 1
               obtain ⟨wh, hw11⟩ : ∃ x, wg.setCell ⟨b6, 1, none⟩ (.slice xa nu xc2) = x := ⟨_, rfl⟩
               have hb11 := set_blk hb10 1 (.slice xa nu xc2)
               rw [hw11, ← HUC.out, ubCs_put1] at hb11
               have hk11 : Keep (fun i => i = b6) wg wh := by rw [← hw11]; exact (Keep.refl (fun i => i = b6) wg).setCell (p := ⟨b6, 1, none⟩) (fun _ => rfl) _
               have HOA : Hid (wh.ownsRow wd.heap.size 70 2 (.slice xa nu xc2) nu (adCells pu.root.addrs)) := Lib.hid (hk11.owns hoa (fun i hi e => by obtain ⟨cur, hc⟩ := owns_block hoa hi; rw [e, hb10] at hc; cases hc))
               have HB11 := Lib.hid hb11
               have HKN : Hid (Keep noBlk wd wh) := Lib.hid ((HK9.out.trans' hka (U := noBlk) (fun _ _ h => h) (fun i hi e => by have h1 := HX9.out.1; have h2 : x9 = i := Option.some.inj e; omega)).trans' hk11 (fun _ _ h => h) (fun i hi e => by have := HB6N.out; omega))
               clear hoa hka hna' hba hb10 hb11 hk11 hc69))
          try clear hw9
          try clear hx9
          try clear hw11
          try clear hc10
          try clear hf10
          try clear hb6
          have HO := Lib.hid (HKN.out.owns HO.out fun _ _ => id)
          have HU := Lib.hid (HU.out.keep HKN.out)
          have HK := Lib.hid (HK.out.trans HKN.out)
          have HPV := Lib.hid (HPV.out.keep HKN.out fun _ _ => id)
          have HAT := Lib.hid (HKN.out.rangeAt HAT.out)
          have HKi := Lib.hid (HKi.out.trans HKN.out)
          obtain ⟨lcn, hlcn⟩ : ∃ l, ubCs (.slice xa nu xc2) pu = l := ⟨_, rfl⟩
          have HLN := Lib.hid hlcn
          have hnl : lcn.length = 69 := by rw [← hlcn]; exact ubCs_len HPV.out.root.sum HPV.out.pool
          have HNO : Hid (∀ u ∈ lcn, u.oneCell' = true) := Lib.hid (by rw [← hlcn]; exact oneCell_ub pu)
          rw [hlcn] at HB11
          clear hlcn
          obtain ⟨B0, hB0⟩ : ∃ b, wh.heap.size = b := ⟨_, rfl⟩
          have HB0 := Lib.hid hB0
          have hBw : w.heap.size ≤ B0 := by rw [← hB0]; exact HK.out.size
          clear hB0
          have hm64 : (0 : Nat) ≤ 64 := by omega
          have HP66 : Hid (Rd wh 69 (.slice none 0 0) 0 (ubRow (outs.take 0))) := Lib.hid (Rd.nil _ _)
          have HP73 : Hid (Rd wh 69 (.slice none 0 0) 0 (ubRow (outs.drop 0))) := Lib.hid (by rw [List.eq_nil_of_length_eq_zero HM.out]; exact Rd.nil _ _)
          obtain ⟨S, hS0⟩ : ∃ S : World → Prop, S = fun w' => Keep noBlk wh w' := ⟨_, rfl⟩
          have HSE := Lib.hid (show ∀ w', S w' → Keep noBlk wh w' from fun w' h => by rw [hS0] at h; exact h)
          have HSI := Lib.hid (show ∀ w', Keep noBlk wh w' → S w' from fun w' h => by rw [hS0]; exact h)
          have hS : S wh.drew := by rw [hS0]; exact (Keep.refl _ _).drew
          clear hS0
          refine wp_region_held (S := S) (by kernel_rfl) ?_
          change wpAnyH _ _ _ _ _ _ _ _ wh.drew
          generalize wh.drew = wi at hS ⊢
          refine tka 1 (.slice none 0 0) rfl hS ?_
          simp only [Act.put, List.setIfInBounds_toArray, List.set_cons_zero, List.set_cons_succ, List.getElem_toArray, List.getElem_cons_succ, List.getElem_cons_zero]
          refine tka 2 (.int .i64 (0 : Int)) rfl hS ?_
          simp only [Act.put, List.setIfInBounds_toArray, List.set_cons_zero, List.set_cons_succ, List.getElem_toArray, List.getElem_cons_succ, List.getElem_cons_zero]
          refine tkb 3 (.slice none 0 0) rfl hS ?_
          simp only [Act.put, List.setIfInBounds_toArray, List.set_cons_zero, List.set_cons_succ, List.getElem_toArray, List.getElem_cons_succ, List.getElem_cons_zero]
          refine tkd 5 (.agg (lcn).toArray) rfl (yieldsIf_load_mid (by rfl) 36 (.tmp 6) rfl (b6) (0) rfl (lcn) _ (fun w' h => rangeAt_whole ((HSE.out w' h).blk HB11.out id)) ubUnder rfl (by first | exact sizeUbL hpl | exact sizeUbL hxl | exact sizeUbL hnl)) hS ?_
          simp only [Act.put, List.setIfInBounds_toArray, List.set_cons_zero, List.set_cons_succ, List.getElem_toArray, List.getElem_cons_succ, List.getElem_cons_zero]
          refine tka 8 (.slice none 0 0) rfl hS ?_
          simp only [Act.put, List.setIfInBounds_toArray, List.set_cons_zero, List.set_cons_succ, List.getElem_toArray, List.getElem_cons_succ, List.getElem_cons_zero]
          refine tka 9 (.int .i64 (0 : Int)) rfl hS ?_
          simp only [Act.put, List.setIfInBounds_toArray, List.set_cons_zero, List.set_cons_succ, List.getElem_toArray, List.getElem_cons_succ, List.getElem_cons_zero]
          refine tkb 10 (.slice none 0 0) rfl hS ?_
          simp only [Act.put, List.setIfInBounds_toArray, List.set_cons_zero, List.set_cons_succ, List.getElem_toArray, List.getElem_cons_succ, List.getElem_cons_zero]
          refine wpAnyH_two (k := 0) (l := 6) rfl rfl (by kernel_rfl) ?_ ?_
          · go_wp2_with fail
            obtain ⟨x63, hx63⟩ : ∃ x, wi.heap.size = x := ⟨_, rfl⟩
            have HO63 : Hid ((wi.alloc (.cells #[] 36)).ownsRow B0 36 69 (.slice (some ⟨x63, 0, none⟩) 0 0) 0 []) := Lib.hid (by rw [← hx63]; exact World.ownsRow_made wi #[] 0 (by rw [← HB0.out]; exact (HSE.out _ hS).size) (by unfold maxLen; omega) rfl)
            have hk : Keep noBlk wi (wi.alloc (.cells #[] 36)) := (Keep.refl _ _).alloc _
            rw [hx63]
            have HX63 := Lib.hid hx63
            clear hx63
            generalize wi.alloc (.cells #[] 36) = wj at *
            have HKx := Lib.hid hk
            have hS1 := HSI.out _ ((HSE.out _ hS).trans hk)
            clear hS hk
            refine ⟨hS1, ?_⟩
            refine wpAnyH_two (k := 4) (l := 6) rfl rfl (by kernel_rfl) ?_ ?_
            · refine wpList_append_rd (by rfl) (.tmp 63) (.tmp 66) 22 (by rfl) B0 36 (.agg (ubCs (.slice none 0 0) ⟨0, ⟨[], 0, 0, zeros32⟩, 0, zeros32⟩).toArray) 69 120 Tryz.underlying22 infoUb rfl (by decide) (.slice (some ⟨x63, 0, none⟩) 0 0) (0) ([]) (by rfl) HO63.out (.slice none 0 0) (0) (ubRow (outs.take 0)) (by rfl) (HP66.out.keep (HSE.out _ hS1) fun _ _ => id) (oneCell_ubRow (ubsO_take HU.out 0)) (by unfold maxLen; omega) (by omega) (by rw [← HB0.out]; exact (HSE.out _ hS1).size) ?_
              intro v67 wk ho hk0 hn_ hb_
              have hk2 : Keep noBlk wh wk := (HSE.out _ hS1).trans' hk0 (U := noBlk) (fun _ _ h => h) (fun i hi e => by have h1 := owns_base HO63.out e; have h2 := HB0.out; omega)
              obtain ⟨a67, c67, hv_, -, -⟩ := (Rd.of_owns ho).form
              subst hv_
              have HO67 := Lib.hid ho
              clear ho hn_ hb_ hk0
              have hS2 := HSI.out _ hk2
              clear hS1 hk2
              go_wp2_with fail
              refine ⟨hS2, ?_⟩
              refine wpAnyH_one (k := 6) rfl (by kernel_rfl) ?_
              refine wpList_build_one (by rfl) 22 36 (.tmp 68) (by rfl) Tryz.underlying22 infoUb (by decide) (lcn) hnl (by decide) (by rfl) ?_
              have hk : Keep noBlk wk (wk.alloc (.cells (lcn).toArray 36)) := (Keep.refl _ _).alloc _
              have HR69 := Lib.hid (rd_blk (n := 1) (size := 69) (heap_alloc_new wk (.cells (lcn).toArray 36)) hnl (by unfold maxLen; omega))
              obtain ⟨x69, hx69⟩ : ∃ s, wk.heap.size = s := ⟨_, rfl⟩
              rw [hx69] at HR69 ⊢
              have HX69 := Lib.hid hx69
              clear hx69
              generalize wk.alloc (.cells (lcn).toArray 36) = wl at *
              have HO67 := Lib.hid (hk.owns HO67.out fun _ _ => id)
              have hS3 := HSI.out _ ((HSE.out _ hS2).trans hk)
              clear hS2 hk
              go_wp2_with fail
              refine ⟨hS3, ?_⟩
              refine wpAnyH_one (k := 7) rfl (by kernel_rfl) ?_
              refine wpList_append_rd (by rfl) (.tmp 67) (.tmp 69) 22 (by rfl) B0 36 (.agg (ubCs (.slice none 0 0) ⟨0, ⟨[], 0, 0, zeros32⟩, 0, zeros32⟩).toArray) 69 120 Tryz.underlying22 infoUb rfl (by decide) (.slice a67 (0 + 0) c67) (0 + 0) ([] ++ ubRow (outs.take 0)) (by rfl) HO67.out (.slice (some ⟨x69, 0, none⟩) 1 1) (1) (lcn) (by rfl) HR69.out HNO.out (by unfold maxLen; omega) (by omega) (by rw [← HB0.out]; exact (HSE.out _ hS3).size) ?_
              intro v70 wm ho hk0 hn_ hb_
              have hk2 : Keep noBlk wh wm := (HSE.out _ hS3).trans' hk0 (U := noBlk) (fun _ _ h => h) (fun i hi e => by have h1 := owns_base HO67.out e; have h2 := HB0.out; omega)
              obtain ⟨a70, c70, hv_, -, -⟩ := (Rd.of_owns ho).form
              subst hv_
              have HO70 := Lib.hid ho
              clear ho hn_ hb_ hk0
              have hS4 := HSI.out _ hk2
              clear hS3 hk2
              go_wp2_with fail
              refine ⟨hS4, ?_⟩
              refine wpAnyH_one (k := 11) rfl (by kernel_rfl) ?_
              refine wpList_append_rd (by rfl) (.tmp 70) (.tmp 73) 22 (by rfl) B0 36 (.agg (ubCs (.slice none 0 0) ⟨0, ⟨[], 0, 0, zeros32⟩, 0, zeros32⟩).toArray) 69 120 Tryz.underlying22 infoUb rfl (by decide) (.slice a70 (0 + 0 + 1) c70) (0 + 0 + 1) ([] ++ ubRow (outs.take 0) ++ lcn) (by rfl) HO70.out (.slice none 0 0) (0) (ubRow (outs.drop 0)) (by rfl) (HP73.out.keep (HSE.out _ hS4) fun _ _ => id) (oneCell_ubRow (ubsO_drop HU.out 0)) (by unfold maxLen; omega) (by omega) (by rw [← HB0.out]; exact (HSE.out _ hS4).size) ?_
              intro v74 wn ho hk0 hn_ hb_
              have hk2 : Keep noBlk wh wn := (HSE.out _ hS4).trans' hk0 (U := noBlk) (fun _ _ h => h) (fun i hi e => by have h1 := owns_base HO70.out e; have h2 := HB0.out; omega)
              obtain ⟨a74, c74, hv_, -, -⟩ := (Rd.of_owns ho).form
              subst hv_
              have HO74 := Lib.hid ho
              clear ho hn_ hb_ hk0
              have hS5 := HSI.out _ hk2
              clear hS4 hk2
              go_wp2_with fail
              refine ⟨hS5, ?_⟩
              refine tka 12 (.slice a74 (0 + 0 + 1 + 0) c74) rfl hS5 ?_
              simp only [Act.put, List.setIfInBounds_toArray, List.set_cons_zero, List.set_cons_succ, List.getElem_toArray, List.getElem_cons_succ, List.getElem_cons_zero]
              refine wpAnyH_done (by kernel_rfl) ?_ _
              have HKR := Lib.hid (HSE.out _ hS5)
              clear hS5 HSE HSI
              have HO := Lib.hid (HKR.out.owns HO.out fun _ _ => id)
              have HU := Lib.hid (HU.out.keep HKR.out)
              have HK := Lib.hid (HK.out.trans HKR.out)
              have HPV := Lib.hid (HPV.out.keep HKR.out fun _ _ => id)
              have HAT := Lib.hid (HKR.out.rangeAt HAT.out)
              have HKi := Lib.hid (HKi.out.trans HKR.out)
              have HOA := Lib.hid (HKR.out.owns HOA.out fun _ _ => id)
              go_wp2_with fail
              have hlen : 0 + 0 + 1 + 0 = 0 + 1 := by omega
              go_roundw
              case rel =>
                refine ⟨k + 1, 0 + 1, a74, c74, outs.take 0 ++ (.slice xa nu xc2, pu) :: outs.drop 0, by omega, by omega, by rw [hlen], by go_num, Lib.hid ?_, Lib.hid ?_, Lib.hid ?_, Lib.hid ?_, HK⟩
                · have := HM.out
                  rw [List.length_append, List.length_cons, List.length_take, List.length_drop]; omega
                · have h := ownsRow_mono HO74.out hBw
                  rw [hlen] at h
                  rw [ubRow_append, show ubRow ((Value.slice xa nu xc2, pu) :: outs.drop 0) = lcn ++ ubRow (outs.drop 0) from by rw [← HLN.out]; rfl, ← List.append_assoc]
                  exact h
                · have h := best_ins HB.out HFO.out HFU.out (j := 0) (fun i x hi hx => by rw [List.getElem?_map] at hx; obtain ⟨q, hq, rfl⟩ := Option.map_eq_some_iff.1 hx; exact HAH.out i q hi hq) (fun x hx => by rw [List.getElem?_eq_none (by rw [List.length_map, HM.out]; exact Nat.le_refl _)] at hx; cases hx)
                  rw [HTK.out]
                  simpa only [List.map_append, List.map_cons, List.map_take, List.map_drop] using h
                · intro q hq
                  rcases List.mem_append.1 hq with h | h
                  · exact HU.out q (List.mem_of_mem_take h)
                  · rcases List.mem_cons.1 h with rfl | h
                    · exact ⟨HPV.out.pool, HPV.out.root.sum, HPV.out.root.ads, by rw [HNU.out]; exact ownsRow_mono HOA.out HKW0.out.size⟩
                    · exact HU.out q (List.mem_of_mem_drop h)
              case measure => simp [intOf]; omega
            · have HSIZE := Lib.hid (show x63 < wj.heap.size from by obtain ⟨cur, hc⟩ := owns_block HO63.out (k := x63) rfl; exact lt_of_block hc)
              refine wpList_build_one (by rfl) 22 36 (.tmp 68) (by rfl) Tryz.underlying22 infoUb (by decide) (lcn) hnl (by decide) (by rfl) ?_
              have hk : Keep noBlk wj (wj.alloc (.cells (lcn).toArray 36)) := (Keep.refl _ _).alloc _
              have HR69 := Lib.hid (rd_blk (n := 1) (size := 69) (heap_alloc_new wj (.cells (lcn).toArray 36)) hnl (by unfold maxLen; omega))
              obtain ⟨x69, hx69⟩ : ∃ s, wj.heap.size = s := ⟨_, rfl⟩
              rw [hx69] at HR69 ⊢
              have HX69 := Lib.hid hx69
              clear hx69
              generalize wj.alloc (.cells (lcn).toArray 36) = wk at *
              have HO63 := Lib.hid (hk.owns HO63.out fun _ _ => id)
              have hS2 := HSI.out _ ((HSE.out _ hS1).trans hk)
              clear hS1 hk
              go_wp2_with fail
              refine ⟨hS2, ?_⟩
              refine wpAnyH_one (k := 4) rfl (by kernel_rfl) ?_
              refine wpList_append_rd (by rfl) (.tmp 63) (.tmp 66) 22 (by rfl) B0 36 (.agg (ubCs (.slice none 0 0) ⟨0, ⟨[], 0, 0, zeros32⟩, 0, zeros32⟩).toArray) 69 120 Tryz.underlying22 infoUb rfl (by decide) (.slice (some ⟨x63, 0, none⟩) 0 0) (0) ([]) (by rfl) HO63.out (.slice none 0 0) (0) (ubRow (outs.take 0)) (by rfl) (HP66.out.keep (HSE.out _ hS2) fun _ _ => id) (oneCell_ubRow (ubsO_take HU.out 0)) (by unfold maxLen; omega) (by omega) (by rw [← HB0.out]; exact (HSE.out _ hS2).size) ?_
              intro v67 wl ho hk0 hn_ hb_
              have hk2 : Keep noBlk wh wl := (HSE.out _ hS2).trans' hk0 (U := noBlk) (fun _ _ h => h) (fun i hi e => by have h1 := owns_base HO63.out e; have h2 := HB0.out; omega)
              obtain ⟨a67, c67, hv_, -, -⟩ := (Rd.of_owns ho).form
              subst hv_
              have HO67 := Lib.hid ho
              have HR69 := Lib.hid (HR69.out.keep hk0 (fun j hj e => by cases hj; have e2 : x63 = x69 := Option.some.inj e; have h1 := HX63.out; have h2 := HX69.out; have h3 := HSIZE.out; omega))
              clear ho hn_ hb_ hk0
              have hS3 := HSI.out _ hk2
              clear hS2 hk2
              go_wp2_with fail
              refine ⟨hS3, ?_⟩
              refine wpAnyH_one (k := 7) rfl (by kernel_rfl) ?_
              refine wpList_append_rd (by rfl) (.tmp 67) (.tmp 69) 22 (by rfl) B0 36 (.agg (ubCs (.slice none 0 0) ⟨0, ⟨[], 0, 0, zeros32⟩, 0, zeros32⟩).toArray) 69 120 Tryz.underlying22 infoUb rfl (by decide) (.slice a67 (0 + 0) c67) (0 + 0) ([] ++ ubRow (outs.take 0)) (by rfl) HO67.out (.slice (some ⟨x69, 0, none⟩) 1 1) (1) (lcn) (by rfl) HR69.out HNO.out (by unfold maxLen; omega) (by omega) (by rw [← HB0.out]; exact (HSE.out _ hS3).size) ?_
              intro v70 wm ho hk0 hn_ hb_
              have hk2 : Keep noBlk wh wm := (HSE.out _ hS3).trans' hk0 (U := noBlk) (fun _ _ h => h) (fun i hi e => by have h1 := owns_base HO67.out e; have h2 := HB0.out; omega)
              obtain ⟨a70, c70, hv_, -, -⟩ := (Rd.of_owns ho).form
              subst hv_
              have HO70 := Lib.hid ho
              clear ho hn_ hb_ hk0
              have hS4 := HSI.out _ hk2
              clear hS3 hk2
              go_wp2_with fail
              refine ⟨hS4, ?_⟩
              refine wpAnyH_one (k := 11) rfl (by kernel_rfl) ?_
              refine wpList_append_rd (by rfl) (.tmp 70) (.tmp 73) 22 (by rfl) B0 36 (.agg (ubCs (.slice none 0 0) ⟨0, ⟨[], 0, 0, zeros32⟩, 0, zeros32⟩).toArray) 69 120 Tryz.underlying22 infoUb rfl (by decide) (.slice a70 (0 + 0 + 1) c70) (0 + 0 + 1) ([] ++ ubRow (outs.take 0) ++ lcn) (by rfl) HO70.out (.slice none 0 0) (0) (ubRow (outs.drop 0)) (by rfl) (HP73.out.keep (HSE.out _ hS4) fun _ _ => id) (oneCell_ubRow (ubsO_drop HU.out 0)) (by unfold maxLen; omega) (by omega) (by rw [← HB0.out]; exact (HSE.out _ hS4).size) ?_
              intro v74 wn ho hk0 hn_ hb_
              have hk2 : Keep noBlk wh wn := (HSE.out _ hS4).trans' hk0 (U := noBlk) (fun _ _ h => h) (fun i hi e => by have h1 := owns_base HO70.out e; have h2 := HB0.out; omega)
              obtain ⟨a74, c74, hv_, -, -⟩ := (Rd.of_owns ho).form
              subst hv_
              have HO74 := Lib.hid ho
              clear ho hn_ hb_ hk0
              have hS5 := HSI.out _ hk2
              clear hS4 hk2
              go_wp2_with fail
              refine ⟨hS5, ?_⟩
              refine tka 12 (.slice a74 (0 + 0 + 1 + 0) c74) rfl hS5 ?_
              simp only [Act.put, List.setIfInBounds_toArray, List.set_cons_zero, List.set_cons_succ, List.getElem_toArray, List.getElem_cons_succ, List.getElem_cons_zero]
              refine wpAnyH_done (by kernel_rfl) ?_ _
              have HKR := Lib.hid (HSE.out _ hS5)
              clear hS5 HSE HSI
              have HO := Lib.hid (HKR.out.owns HO.out fun _ _ => id)
              have HU := Lib.hid (HU.out.keep HKR.out)
              have HK := Lib.hid (HK.out.trans HKR.out)
              have HPV := Lib.hid (HPV.out.keep HKR.out fun _ _ => id)
              have HAT := Lib.hid (HKR.out.rangeAt HAT.out)
              have HKi := Lib.hid (HKi.out.trans HKR.out)
              have HOA := Lib.hid (HKR.out.owns HOA.out fun _ _ => id)
              go_wp2_with fail
              have hlen : 0 + 0 + 1 + 0 = 0 + 1 := by omega
              go_roundw
              case rel =>
                refine ⟨k + 1, 0 + 1, a74, c74, outs.take 0 ++ (.slice xa nu xc2, pu) :: outs.drop 0, by omega, by omega, by rw [hlen], by go_num, Lib.hid ?_, Lib.hid ?_, Lib.hid ?_, Lib.hid ?_, HK⟩
                · have := HM.out
                  rw [List.length_append, List.length_cons, List.length_take, List.length_drop]; omega
                · have h := ownsRow_mono HO74.out hBw
                  rw [hlen] at h
                  rw [ubRow_append, show ubRow ((Value.slice xa nu xc2, pu) :: outs.drop 0) = lcn ++ ubRow (outs.drop 0) from by rw [← HLN.out]; rfl, ← List.append_assoc]
                  exact h
                · have h := best_ins HB.out HFO.out HFU.out (j := 0) (fun i x hi hx => by rw [List.getElem?_map] at hx; obtain ⟨q, hq, rfl⟩ := Option.map_eq_some_iff.1 hx; exact HAH.out i q hi hq) (fun x hx => by rw [List.getElem?_eq_none (by rw [List.length_map, HM.out]; exact Nat.le_refl _)] at hx; cases hx)
                  rw [HTK.out]
                  simpa only [List.map_append, List.map_cons, List.map_take, List.map_drop] using h
                · intro q hq
                  rcases List.mem_append.1 hq with h | h
                  · exact HU.out q (List.mem_of_mem_take h)
                  · rcases List.mem_cons.1 h with rfl | h
                    · exact ⟨HPV.out.pool, HPV.out.root.sum, HPV.out.root.ads, by rw [HNU.out]; exact ownsRow_mono HOA.out HKW0.out.size⟩
                    · exact HU.out q (List.mem_of_mem_drop h)
              case measure => simp [intOf]; omega
          · refine wpList_build_one (by rfl) 22 36 (.tmp 68) (by rfl) Tryz.underlying22 infoUb (by decide) (lcn) hnl (by decide) (by rfl) ?_
            have hk : Keep noBlk wi (wi.alloc (.cells (lcn).toArray 36)) := (Keep.refl _ _).alloc _
            have HR69 := Lib.hid (rd_blk (n := 1) (size := 69) (heap_alloc_new wi (.cells (lcn).toArray 36)) hnl (by unfold maxLen; omega))
            obtain ⟨x69, hx69⟩ : ∃ s, wi.heap.size = s := ⟨_, rfl⟩
            rw [hx69] at HR69 ⊢
            have HX69 := Lib.hid hx69
            clear hx69
            generalize wi.alloc (.cells (lcn).toArray 36) = wj at *
            skip
            have hS1 := HSI.out _ ((HSE.out _ hS).trans hk)
            clear hS hk
            go_wp2_with fail
            refine ⟨hS1, ?_⟩
            have HSIZE := Lib.hid (show x69 < wj.heap.size from by obtain ⟨k_, h1, h2⟩ := HR69.out.lt (by rw [hnl]; decide); cases h1; exact h2)
            refine wpAnyH_one (k := 0) rfl (by kernel_rfl) ?_
            go_wp2_with fail
            obtain ⟨x63, hx63⟩ : ∃ x, wj.heap.size = x := ⟨_, rfl⟩
            have HO63 : Hid ((wj.alloc (.cells #[] 36)).ownsRow B0 36 69 (.slice (some ⟨x63, 0, none⟩) 0 0) 0 []) := Lib.hid (by rw [← hx63]; exact World.ownsRow_made wj #[] 0 (by rw [← HB0.out]; exact (HSE.out _ hS1).size) (by unfold maxLen; omega) rfl)
            have hk : Keep noBlk wj (wj.alloc (.cells #[] 36)) := (Keep.refl _ _).alloc _
            rw [hx63]
            have HX63 := Lib.hid hx63
            clear hx63
            generalize wj.alloc (.cells #[] 36) = wk at *
            have HKx := Lib.hid hk
            have hS2 := HSI.out _ ((HSE.out _ hS1).trans hk)
            clear hS1 hk
            refine ⟨hS2, ?_⟩
            have HR69 := Lib.hid (HR69.out.keep HKx.out fun _ _ => id)
            refine wpAnyH_one (k := 4) rfl (by kernel_rfl) ?_
            refine wpList_append_rd (by rfl) (.tmp 63) (.tmp 66) 22 (by rfl) B0 36 (.agg (ubCs (.slice none 0 0) ⟨0, ⟨[], 0, 0, zeros32⟩, 0, zeros32⟩).toArray) 69 120 Tryz.underlying22 infoUb rfl (by decide) (.slice (some ⟨x63, 0, none⟩) 0 0) (0) ([]) (by rfl) HO63.out (.slice none 0 0) (0) (ubRow (outs.take 0)) (by rfl) (HP66.out.keep (HSE.out _ hS2) fun _ _ => id) (oneCell_ubRow (ubsO_take HU.out 0)) (by unfold maxLen; omega) (by omega) (by rw [← HB0.out]; exact (HSE.out _ hS2).size) ?_
            intro v67 wl ho hk0 hn_ hb_
            have hk2 : Keep noBlk wh wl := (HSE.out _ hS2).trans' hk0 (U := noBlk) (fun _ _ h => h) (fun i hi e => by have h1 := owns_base HO63.out e; have h2 := HB0.out; omega)
            obtain ⟨a67, c67, hv_, -, -⟩ := (Rd.of_owns ho).form
            subst hv_
            have HO67 := Lib.hid ho
            have HR69 := Lib.hid (HR69.out.keep hk0 (fun j hj e => by cases hj; have e2 : x63 = x69 := Option.some.inj e; have h1 := HX63.out; have h2 := HX69.out; have h3 := HSIZE.out; omega))
            clear ho hn_ hb_ hk0
            have hS3 := HSI.out _ hk2
            clear hS2 hk2
            go_wp2_with fail
            refine ⟨hS3, ?_⟩
            refine wpAnyH_one (k := 7) rfl (by kernel_rfl) ?_
            refine wpList_append_rd (by rfl) (.tmp 67) (.tmp 69) 22 (by rfl) B0 36 (.agg (ubCs (.slice none 0 0) ⟨0, ⟨[], 0, 0, zeros32⟩, 0, zeros32⟩).toArray) 69 120 Tryz.underlying22 infoUb rfl (by decide) (.slice a67 (0 + 0) c67) (0 + 0) ([] ++ ubRow (outs.take 0)) (by rfl) HO67.out (.slice (some ⟨x69, 0, none⟩) 1 1) (1) (lcn) (by rfl) HR69.out HNO.out (by unfold maxLen; omega) (by omega) (by rw [← HB0.out]; exact (HSE.out _ hS3).size) ?_
            intro v70 wm ho hk0 hn_ hb_
            have hk2 : Keep noBlk wh wm := (HSE.out _ hS3).trans' hk0 (U := noBlk) (fun _ _ h => h) (fun i hi e => by have h1 := owns_base HO67.out e; have h2 := HB0.out; omega)
            obtain ⟨a70, c70, hv_, -, -⟩ := (Rd.of_owns ho).form
            subst hv_
            have HO70 := Lib.hid ho
            clear ho hn_ hb_ hk0
            have hS4 := HSI.out _ hk2
            clear hS3 hk2
            go_wp2_with fail
            refine ⟨hS4, ?_⟩
            refine wpAnyH_one (k := 11) rfl (by kernel_rfl) ?_
            refine wpList_append_rd (by rfl) (.tmp 70) (.tmp 73) 22 (by rfl) B0 36 (.agg (ubCs (.slice none 0 0) ⟨0, ⟨[], 0, 0, zeros32⟩, 0, zeros32⟩).toArray) 69 120 Tryz.underlying22 infoUb rfl (by decide) (.slice a70 (0 + 0 + 1) c70) (0 + 0 + 1) ([] ++ ubRow (outs.take 0) ++ lcn) (by rfl) HO70.out (.slice none 0 0) (0) (ubRow (outs.drop 0)) (by rfl) (HP73.out.keep (HSE.out _ hS4) fun _ _ => id) (oneCell_ubRow (ubsO_drop HU.out 0)) (by unfold maxLen; omega) (by omega) (by rw [← HB0.out]; exact (HSE.out _ hS4).size) ?_
            intro v74 wn ho hk0 hn_ hb_
            have hk2 : Keep noBlk wh wn := (HSE.out _ hS4).trans' hk0 (U := noBlk) (fun _ _ h => h) (fun i hi e => by have h1 := owns_base HO70.out e; have h2 := HB0.out; omega)
            obtain ⟨a74, c74, hv_, -, -⟩ := (Rd.of_owns ho).form
            subst hv_
            have HO74 := Lib.hid ho
            clear ho hn_ hb_ hk0
            have hS5 := HSI.out _ hk2
            clear hS4 hk2
            go_wp2_with fail
            refine ⟨hS5, ?_⟩
            refine tka 12 (.slice a74 (0 + 0 + 1 + 0) c74) rfl hS5 ?_
            simp only [Act.put, List.setIfInBounds_toArray, List.set_cons_zero, List.set_cons_succ, List.getElem_toArray, List.getElem_cons_succ, List.getElem_cons_zero]
            refine wpAnyH_done (by kernel_rfl) ?_ _
            have HKR := Lib.hid (HSE.out _ hS5)
            clear hS5 HSE HSI
            have HO := Lib.hid (HKR.out.owns HO.out fun _ _ => id)
            have HU := Lib.hid (HU.out.keep HKR.out)
            have HK := Lib.hid (HK.out.trans HKR.out)
            have HPV := Lib.hid (HPV.out.keep HKR.out fun _ _ => id)
            have HAT := Lib.hid (HKR.out.rangeAt HAT.out)
            have HKi := Lib.hid (HKi.out.trans HKR.out)
            have HOA := Lib.hid (HKR.out.owns HOA.out fun _ _ => id)
            go_wp2_with fail
            have hlen : 0 + 0 + 1 + 0 = 0 + 1 := by omega
            go_roundw
            case rel =>
              refine ⟨k + 1, 0 + 1, a74, c74, outs.take 0 ++ (.slice xa nu xc2, pu) :: outs.drop 0, by omega, by omega, by rw [hlen], by go_num, Lib.hid ?_, Lib.hid ?_, Lib.hid ?_, Lib.hid ?_, HK⟩
              · have := HM.out
                rw [List.length_append, List.length_cons, List.length_take, List.length_drop]; omega
              · have h := ownsRow_mono HO74.out hBw
                rw [hlen] at h
                rw [ubRow_append, show ubRow ((Value.slice xa nu xc2, pu) :: outs.drop 0) = lcn ++ ubRow (outs.drop 0) from by rw [← HLN.out]; rfl, ← List.append_assoc]
                exact h
              · have h := best_ins HB.out HFO.out HFU.out (j := 0) (fun i x hi hx => by rw [List.getElem?_map] at hx; obtain ⟨q, hq, rfl⟩ := Option.map_eq_some_iff.1 hx; exact HAH.out i q hi hq) (fun x hx => by rw [List.getElem?_eq_none (by rw [List.length_map, HM.out]; exact Nat.le_refl _)] at hx; cases hx)
                rw [HTK.out]
                simpa only [List.map_append, List.map_cons, List.map_take, List.map_drop] using h
              · intro q hq
                rcases List.mem_append.1 hq with h | h
                · exact HU.out q (List.mem_of_mem_take h)
                · rcases List.mem_cons.1 h with rfl | h
                  · exact ⟨HPV.out.pool, HPV.out.root.sum, HPV.out.root.ads, by rw [HNU.out]; exact ownsRow_mono HOA.out HKW0.out.size⟩
                  · exact HU.out q (List.mem_of_mem_drop h)
            case measure => simp [intOf]; omega
        · have e2 : ∃ gq, ad = ⟨gq, 0, none⟩ := by
            rcases HO.out.2 with ⟨h1, -⟩ | ⟨g', cap', cur', h1, -⟩
            · cases h1
            · cases h1; exact ⟨_, rfl⟩
          obtain ⟨gq, rfl⟩ := e2
          go_wp2_with fail
          obtain ⟨S, hS0⟩ : ∃ S : World → Prop, S = fun w' => Keep noBlk wr w' := ⟨_, rfl⟩
          have HSE := Lib.hid (show ∀ w', S w' → Keep noBlk wr w' from fun w' h => by rw [hS0] at h; exact h)
          have HSI := Lib.hid (show ∀ w', Keep noBlk wr w' → S w' from fun w' h => by rw [hS0]; exact h)
          have hS : S wr.drew := by rw [hS0]; exact (Keep.refl _ _).drew
          clear hS0
          refine wp_region_held (S := S) (by kernel_rfl) ?_
          change wpAnyH _ _ _ _ _ _ _ _ wr.drew
          generalize wr.drew = wc at hS ⊢
          refine tka 0 (.int .i64 (m : Int)) rfl hS ?_
          simp only [Act.put, List.setIfInBounds_toArray, List.set_cons_zero, List.set_cons_succ, List.getElem_toArray, List.getElem_cons_zero]
          refine tka 1 (.slice (some ⟨gq, 0, none⟩) m pc) rfl hS ?_
          simp only [Act.put, List.setIfInBounds_toArray, List.set_cons_zero, List.set_cons_succ, List.getElem_toArray, List.getElem_cons_succ, List.getElem_cons_zero]
          refine tkb 2 (.int .i64 m) rfl hS ?_
          simp only [Act.put, List.setIfInBounds_toArray, List.set_cons_zero, List.set_cons_succ, List.getElem_toArray, List.getElem_cons_succ, List.getElem_cons_zero]
          refine tkb 3 (.bool false) rfl hS ?_
          simp only [Act.put, List.setIfInBounds_toArray, List.set_cons_zero, List.set_cons_succ, List.getElem_toArray, List.getElem_cons_succ, List.getElem_cons_zero]
          refine tka 4 (.bool false) rfl hS ?_
          simp only [Act.put, List.setIfInBounds_toArray, List.set_cons_zero, List.set_cons_succ, List.getElem_toArray, List.getElem_cons_succ, List.getElem_cons_zero]
          refine tkc 5 undef rfl hS ?_
          simp only [Act.put, List.setIfInBounds_toArray, List.set_cons_zero, List.set_cons_succ, List.getElem_toArray, List.getElem_cons_succ, List.getElem_cons_zero]
          refine tkc 6 undef rfl hS ?_
          simp only [Act.put, List.setIfInBounds_toArray, List.set_cons_zero, List.set_cons_succ, List.getElem_toArray, List.getElem_cons_succ, List.getElem_cons_zero]
          refine tkc 7 undef rfl hS ?_
          simp only [Act.put, List.setIfInBounds_toArray, List.set_cons_zero, List.set_cons_succ, List.getElem_toArray, List.getElem_cons_succ, List.getElem_cons_zero]
          refine tkc 8 undef rfl hS ?_
          simp only [Act.put, List.setIfInBounds_toArray, List.set_cons_zero, List.set_cons_succ, List.getElem_toArray, List.getElem_cons_succ, List.getElem_cons_zero]
          refine tkc 9 undef rfl hS ?_
          simp only [Act.put, List.setIfInBounds_toArray, List.set_cons_zero, List.set_cons_succ, List.getElem_toArray, List.getElem_cons_succ, List.getElem_cons_zero]
          refine tkc 10 undef rfl hS ?_
          simp only [Act.put, List.setIfInBounds_toArray, List.set_cons_zero, List.set_cons_succ, List.getElem_toArray, List.getElem_cons_succ, List.getElem_cons_zero]
          refine tkc 11 undef rfl hS ?_
          simp only [Act.put, List.setIfInBounds_toArray, List.set_cons_zero, List.set_cons_succ, List.getElem_toArray, List.getElem_cons_succ, List.getElem_cons_zero]
          refine tkc 12 undef rfl hS ?_
          simp only [Act.put, List.setIfInBounds_toArray, List.set_cons_zero, List.set_cons_succ, List.getElem_toArray, List.getElem_cons_succ, List.getElem_cons_zero]
          refine tkc 13 undef rfl hS ?_
          simp only [Act.put, List.setIfInBounds_toArray, List.set_cons_zero, List.set_cons_succ, List.getElem_toArray, List.getElem_cons_succ, List.getElem_cons_zero]
          refine tka 14 (.bool false) rfl hS ?_
          simp only [Act.put, List.setIfInBounds_toArray, List.set_cons_zero, List.set_cons_succ, List.getElem_toArray, List.getElem_cons_succ, List.getElem_cons_zero]
          refine wpAnyH_done (by kernel_rfl) ?_ _
          have HKR := Lib.hid (HSE.out _ hS)
          clear hS HSE HSI
          have HO := Lib.hid (HKR.out.owns HO.out fun _ _ => id)
          have HU := Lib.hid (HU.out.keep HKR.out)
          have HK := Lib.hid (HK.out.trans HKR.out)
          have HPV := Lib.hid (HPV.out.keep HKR.out fun _ _ => id)
          have HAT := Lib.hid (HKR.out.rangeAt HAT.out)
          have HKi := Lib.hid (HKi.out.trans HKR.out)
          go_wp2_with fail
          obtain ⟨S, hS0⟩ : ∃ S : World → Prop, S = fun w' => Keep noBlk wc w' := ⟨_, rfl⟩
          have HSE := Lib.hid (show ∀ w', S w' → Keep noBlk wc w' from fun w' h => by rw [hS0] at h; exact h)
          have HSI := Lib.hid (show ∀ w', Keep noBlk wc w' → S w' from fun w' h => by rw [hS0]; exact h)
          have hS : S wc.drew := by rw [hS0]; exact (Keep.refl _ _).drew
          clear hS0
          refine wp_region_held (S := S) (by kernel_rfl) ?_
          change wpAnyH _ _ _ _ _ _ _ _ wc.drew
          generalize wc.drew = wd at hS ⊢
          refine tka 0 (.int .i64 (m : Int)) rfl hS ?_
          simp only [Act.put, List.setIfInBounds_toArray, List.set_cons_zero, List.set_cons_succ, List.getElem_toArray, List.getElem_cons_zero]
          refine tka 1 (.slice (some ⟨gq, 0, none⟩) m pc) rfl hS ?_
          simp only [Act.put, List.setIfInBounds_toArray, List.set_cons_zero, List.set_cons_succ, List.getElem_toArray, List.getElem_cons_succ, List.getElem_cons_zero]
          refine tkb 2 (.int .i64 m) rfl hS ?_
          simp only [Act.put, List.setIfInBounds_toArray, List.set_cons_zero, List.set_cons_succ, List.getElem_toArray, List.getElem_cons_succ, List.getElem_cons_zero]
          refine tkb 3 (.bool true) rfl hS ?_
          simp only [Act.put, List.setIfInBounds_toArray, List.set_cons_zero, List.set_cons_succ, List.getElem_toArray, List.getElem_cons_succ, List.getElem_cons_zero]
          refine tka 4 (.bool true) rfl hS ?_
          simp only [Act.put, List.setIfInBounds_toArray, List.set_cons_zero, List.set_cons_succ, List.getElem_toArray, List.getElem_cons_succ, List.getElem_cons_zero]
          refine tkc 5 undef rfl hS ?_
          simp only [Act.put, List.setIfInBounds_toArray, List.set_cons_zero, List.set_cons_succ, List.getElem_toArray, List.getElem_cons_succ, List.getElem_cons_zero]
          refine tkc 6 undef rfl hS ?_
          simp only [Act.put, List.setIfInBounds_toArray, List.set_cons_zero, List.set_cons_succ, List.getElem_toArray, List.getElem_cons_succ, List.getElem_cons_zero]
          refine tkc 7 undef rfl hS ?_
          simp only [Act.put, List.setIfInBounds_toArray, List.set_cons_zero, List.set_cons_succ, List.getElem_toArray, List.getElem_cons_succ, List.getElem_cons_zero]
          refine tkc 8 undef rfl hS ?_
          simp only [Act.put, List.setIfInBounds_toArray, List.set_cons_zero, List.set_cons_succ, List.getElem_toArray, List.getElem_cons_succ, List.getElem_cons_zero]
          refine tkc 9 undef rfl hS ?_
          simp only [Act.put, List.setIfInBounds_toArray, List.set_cons_zero, List.set_cons_succ, List.getElem_toArray, List.getElem_cons_succ, List.getElem_cons_zero]
          refine tkc 10 undef rfl hS ?_
          simp only [Act.put, List.setIfInBounds_toArray, List.set_cons_zero, List.set_cons_succ, List.getElem_toArray, List.getElem_cons_succ, List.getElem_cons_zero]
          refine tkc 11 undef rfl hS ?_
          simp only [Act.put, List.setIfInBounds_toArray, List.set_cons_zero, List.set_cons_succ, List.getElem_toArray, List.getElem_cons_succ, List.getElem_cons_zero]
          refine tkc 12 undef rfl hS ?_
          simp only [Act.put, List.setIfInBounds_toArray, List.set_cons_zero, List.set_cons_succ, List.getElem_toArray, List.getElem_cons_succ, List.getElem_cons_zero]
          refine tkc 13 undef rfl hS ?_
          simp only [Act.put, List.setIfInBounds_toArray, List.set_cons_zero, List.set_cons_succ, List.getElem_toArray, List.getElem_cons_succ, List.getElem_cons_zero]
          refine tkc 14 undef rfl hS ?_
          simp only [Act.put, List.setIfInBounds_toArray, List.set_cons_zero, List.set_cons_succ, List.getElem_toArray, List.getElem_cons_succ, List.getElem_cons_zero]
          refine tka 15 (.bool true) rfl hS ?_
          simp only [Act.put, List.setIfInBounds_toArray, List.set_cons_zero, List.set_cons_succ, List.getElem_toArray, List.getElem_cons_succ, List.getElem_cons_zero]
          refine wpAnyH_done (by kernel_rfl) ?_ _
          have HKR := Lib.hid (HSE.out _ hS)
          clear hS HSE HSI
          have HO := Lib.hid (HKR.out.owns HO.out fun _ _ => id)
          have HU := Lib.hid (HU.out.keep HKR.out)
          have HK := Lib.hid (HK.out.trans HKR.out)
          have HPV := Lib.hid (HPV.out.keep HKR.out fun _ _ => id)
          have HAT := Lib.hid (HKR.out.rangeAt HAT.out)
          have HKi := Lib.hid (HKi.out.trans HKR.out)
          have HKW0 := HK
          obtain ⟨b6, hb6⟩ : ∃ b, wd.heap.size = b := ⟨_, rfl⟩
          have HB6N := Lib.hid hb6
          go_wp2_with (first
            | ((with_reducible show wpList _ _ _ (⟨_, .load 36 (.tmp 54), _, _, _, _⟩ :: _) _ _); refine wpList_load_mid rfl 36 (.tmp 54) rfl gp (op + k * 69) rfl uc _ HAT.out ubUnder rfl (sizeUbL hpl) ?_)
            | ((with_reducible show wpList _ _ _ (⟨_, .alloc 36, _, _, _, _⟩ :: _) _ _); refine wpList_alloc_at rfl 36 rfl _ HZV.out zc.toArray rfl ?_)
            | ((with_reducible show wpList _ _ _ (⟨none, .store 36 (.tmp 6) (.tmp 55), _, _, _, _⟩ :: _) _ _)
               refine wpList_store_agg rfl 36 (.tmp 6) (.tmp 55) rfl wd.heap.size 0 uc rfl rfl zc.toArray _ (heap_alloc_new _ _) (by rw [hpl, List.size_toArray, hzl]; exact Nat.le_refl _) (sizeUbL hpl) HUO.out ?_
               intro we hbb hkk
               rw [spl_whole _ _ (by rw [hpl, List.size_toArray, hzl])] at hbb
               have hkb : Keep noBlk wd we := ((Keep.refl noBlk wd).alloc _).trans' hkk (fun _ _ h => h.elim) (fun i hi e => by omega)
               rw [HB6N.out] at hbb ⊢
               obtain ⟨wf, hw9, k9, hb9, s9⟩ := alloc_facts we #[] 70
               have hb69 := k9.blk hbb id
               have hc69 := blk_cell hb69 (i := 1) (v := .slice ba nu bc) (by rw [← HUC.out]; rfl)
               have HB69 := Lib.hid hb69
               have HK9 := Lib.hid (hkb.trans k9)
               obtain ⟨x9, hx9⟩ : ∃ b, we.heap.size = b := ⟨_, rfl⟩
               have HX9 := Lib.hid (show wd.heap.size ≤ x9 ∧ b6 < x9 from by have h1 := hkb.size; have h2 := lt_of_block hbb; omega)
               have HO9 : Hid (wf.ownsRow wd.heap.size 70 2 (.slice (some ⟨x9, 0, none⟩) 0 0) 0 []) := Lib.hid (by rw [← hx9, ← hw9]; exact World.ownsRow_made we #[] 0 hkb.size (by unfold maxLen; omega) rfl)
               have HR9 : Hid (Rd wf 2 (.slice ba nu bc) nu (adCells pu.root.addrs)) := Lib.hid (by have h := (HPV.out.keep HK9.out fun _ _ => id).root.rd; rw [HNU.out] at h; exact h)
               have HZ9 := Lib.hid HK9.out.size
               have hna : nu ≤ 65536 := by have := HPA.out; rw [HNU.out] at this; exact this
               clear hbb hkk hkb k9 hb9 s9 hb69)
            | (at_builtin; refine wpList_append_rd rfl (.tmp 56) (.tmp 59) 30 rfl wd.heap.size 70 zeroAdU 2 16 Tryz.underlying30 infoAdU rfl (by decide) (.slice (some ⟨x9, 0, none⟩) 0 0) 0 ([]) rfl HO9.out (.slice ba nu bc) nu (adCells pu.root.addrs) rfl HR9.out (oneCell_ads _) (by unfold maxLen; omega) (by omega) HZ9.out ?_
               intro v' wg hoa hka hna' hba
               rw [Nat.zero_add, List.nil_append] at hoa
               obtain ⟨xa, xc2, hxv, -, -⟩ := (Rd.of_owns hoa).form
               subst hxv
               have hb10 := hka.blk HB69.out (fun e => by have h1 := HX9.out.2; have h2 : x9 = b6 := Option.some.inj e; omega)
               have hc10 := blk_cell hb10 (i := 1) (v := .slice ba nu bc) (by rw [← HUC.out]; rfl)
               have hf10 := blk_free hb10 1
               obtain ⟨wh, hw11⟩ : ∃ x, wg.setCell ⟨b6, 1, none⟩ (.slice xa nu xc2) = x := ⟨_, rfl⟩
               have hb11 := set_blk hb10 1 (.slice xa nu xc2)
               rw [hw11, ← HUC.out, ubCs_put1] at hb11
               have hk11 : Keep (fun i => i = b6) wg wh := by rw [← hw11]; exact (Keep.refl (fun i => i = b6) wg).setCell (p := ⟨b6, 1, none⟩) (fun _ => rfl) _
               have HOA : Hid (wh.ownsRow wd.heap.size 70 2 (.slice xa nu xc2) nu (adCells pu.root.addrs)) := Lib.hid (hk11.owns hoa (fun i hi e => by obtain ⟨cur, hc⟩ := owns_block hoa hi; rw [e, hb10] at hc; cases hc))
               have HB11 := Lib.hid hb11
               have HKN : Hid (Keep noBlk wd wh) := Lib.hid ((HK9.out.trans' hka (U := noBlk) (fun _ _ h => h) (fun i hi e => by have h1 := HX9.out.1; have h2 : x9 = i := Option.some.inj e; omega)).trans' hk11 (fun _ _ h => h) (fun i hi e => by have := HB6N.out; omega))
               clear hoa hka hna' hba hb10 hb11 hk11 hc69))
          try clear hw9
          try clear hx9
          try clear hw11
          try clear hc10
          try clear hf10
          try clear hb6
          have HO := Lib.hid (HKN.out.owns HO.out fun _ _ => id)
          have HU := Lib.hid (HU.out.keep HKN.out)
          have HK := Lib.hid (HK.out.trans HKN.out)
          have HPV := Lib.hid (HPV.out.keep HKN.out fun _ _ => id)
          have HAT := Lib.hid (HKN.out.rangeAt HAT.out)
          have HKi := Lib.hid (HKi.out.trans HKN.out)
          obtain ⟨lcn, hlcn⟩ : ∃ l, ubCs (.slice xa nu xc2) pu = l := ⟨_, rfl⟩
          have HLN := Lib.hid hlcn
          have hnl : lcn.length = 69 := by rw [← hlcn]; exact ubCs_len HPV.out.root.sum HPV.out.pool
          have HNO : Hid (∀ u ∈ lcn, u.oneCell' = true) := Lib.hid (by rw [← hlcn]; exact oneCell_ub pu)
          rw [hlcn] at HB11
          clear hlcn
          obtain ⟨B0, hB0⟩ : ∃ b, wh.heap.size = b := ⟨_, rfl⟩
          have HB0 := Lib.hid hB0
          have hBw : w.heap.size ≤ B0 := by rw [← hB0]; exact HK.out.size
          clear hB0
          have hm64 : m ≤ 64 := by omega
          have hmpc : m ≤ pc ∧ pc ≤ maxLen := by obtain ⟨a', c', h1, h2, h3⟩ := (Rd.of_owns HO.out).form; cases h1; exact ⟨h2, h3⟩
          obtain ⟨oa73, hoa73⟩ : ∃ x : Option Addr, (if pc = m then (some ⟨gq, 0, none⟩ : Option Addr) else some ⟨gq, m * 69, none⟩) = x := ⟨_, rfl⟩
          have hrds := rd_split HLO.out (by rw [HM.out]; exact Rd.of_owns HO.out) (j := m) (by rw [HM.out]; omega)
          rw [HM.out, hoa73, Nat.sub_self] at hrds
          have HP66 := Lib.hid hrds.1; have HP73 := Lib.hid hrds.2
          unfold maxLen at hmpc
          have hji2 : (m : Int) ≤ (m : Int) := by omega
          have hjp : (m : Int) ≤ (pc : Int) := by omega
          have hmp : (m : Int) ≤ (pc : Int) := by omega
          clear hrds
          obtain ⟨S, hS0⟩ : ∃ S : World → Prop, S = fun w' => Keep noBlk wh w' := ⟨_, rfl⟩
          have HSE := Lib.hid (show ∀ w', S w' → Keep noBlk wh w' from fun w' h => by rw [hS0] at h; exact h)
          have HSI := Lib.hid (show ∀ w', Keep noBlk wh w' → S w' from fun w' h => by rw [hS0]; exact h)
          have hS : S wh.drew := by rw [hS0]; exact (Keep.refl _ _).drew
          clear hS0
          refine wp_region_held (S := S) (by kernel_rfl) ?_
          change wpAnyH _ _ _ _ _ _ _ _ wh.drew
          generalize wh.drew = wi at hS ⊢
          refine tka 1 (.slice (some ⟨gq, 0, none⟩) m pc) rfl hS ?_
          simp only [Act.put, List.setIfInBounds_toArray, List.set_cons_zero, List.set_cons_succ, List.getElem_toArray, List.getElem_cons_succ, List.getElem_cons_zero]
          refine tka 2 (.int .i64 (m : Int)) rfl hS ?_
          simp only [Act.put, List.setIfInBounds_toArray, List.set_cons_zero, List.set_cons_succ, List.getElem_toArray, List.getElem_cons_succ, List.getElem_cons_zero]
          refine tkb 3 (.slice (some ⟨gq, 0, none⟩) m pc) rfl hS ?_
          simp only [Act.put, List.setIfInBounds_toArray, List.set_cons_zero, List.set_cons_succ, List.getElem_toArray, List.getElem_cons_succ, List.getElem_cons_zero]
          refine tkd 5 (.agg (lcn).toArray) rfl (yieldsIf_load_mid (by rfl) 36 (.tmp 6) rfl (b6) (0) rfl (lcn) _ (fun w' h => rangeAt_whole ((HSE.out w' h).blk HB11.out id)) ubUnder rfl (by first | exact sizeUbL hpl | exact sizeUbL hxl | exact sizeUbL hnl)) hS ?_
          simp only [Act.put, List.setIfInBounds_toArray, List.set_cons_zero, List.set_cons_succ, List.getElem_toArray, List.getElem_cons_succ, List.getElem_cons_zero]
          refine tka 8 (.slice (some ⟨gq, 0, none⟩) m pc) rfl hS ?_
          simp only [Act.put, List.setIfInBounds_toArray, List.set_cons_zero, List.set_cons_succ, List.getElem_toArray, List.getElem_cons_succ, List.getElem_cons_zero]
          refine tka 9 (.int .i64 (m : Int)) rfl hS ?_
          simp only [Act.put, List.setIfInBounds_toArray, List.set_cons_zero, List.set_cons_succ, List.getElem_toArray, List.getElem_cons_succ, List.getElem_cons_zero]
          refine tkb 10 (.slice oa73 0 (pc - m)) rfl hS ?_
          simp only [Act.put, List.setIfInBounds_toArray, List.set_cons_zero, List.set_cons_succ, List.getElem_toArray, List.getElem_cons_succ, List.getElem_cons_zero]
          refine wpAnyH_two (k := 0) (l := 6) rfl rfl (by kernel_rfl) ?_ ?_
          · go_wp2_with fail
            obtain ⟨x63, hx63⟩ : ∃ x, wi.heap.size = x := ⟨_, rfl⟩
            have HO63 : Hid ((wi.alloc (.cells #[] 36)).ownsRow B0 36 69 (.slice (some ⟨x63, 0, none⟩) 0 0) 0 []) := Lib.hid (by rw [← hx63]; exact World.ownsRow_made wi #[] 0 (by rw [← HB0.out]; exact (HSE.out _ hS).size) (by unfold maxLen; omega) rfl)
            have hk : Keep noBlk wi (wi.alloc (.cells #[] 36)) := (Keep.refl _ _).alloc _
            rw [hx63]
            have HX63 := Lib.hid hx63
            clear hx63
            generalize wi.alloc (.cells #[] 36) = wj at *
            have HKx := Lib.hid hk
            have hS1 := HSI.out _ ((HSE.out _ hS).trans hk)
            clear hS hk
            refine ⟨hS1, ?_⟩
            refine wpAnyH_two (k := 4) (l := 6) rfl rfl (by kernel_rfl) ?_ ?_
            · refine wpList_append_rd (by rfl) (.tmp 63) (.tmp 66) 22 (by rfl) B0 36 (.agg (ubCs (.slice none 0 0) ⟨0, ⟨[], 0, 0, zeros32⟩, 0, zeros32⟩).toArray) 69 120 Tryz.underlying22 infoUb rfl (by decide) (.slice (some ⟨x63, 0, none⟩) 0 0) (0) ([]) (by rfl) HO63.out (.slice (some ⟨gq, 0, none⟩) m pc) (m) (ubRow (outs.take m)) (by rfl) (HP66.out.keep (HSE.out _ hS1) fun _ _ => id) (oneCell_ubRow (ubsO_take HU.out m)) (by unfold maxLen; omega) (by omega) (by rw [← HB0.out]; exact (HSE.out _ hS1).size) ?_
              intro v67 wk ho hk0 hn_ hb_
              have hk2 : Keep noBlk wh wk := (HSE.out _ hS1).trans' hk0 (U := noBlk) (fun _ _ h => h) (fun i hi e => by have h1 := owns_base HO63.out e; have h2 := HB0.out; omega)
              obtain ⟨a67, c67, hv_, -, -⟩ := (Rd.of_owns ho).form
              subst hv_
              have HO67 := Lib.hid ho
              clear ho hn_ hb_ hk0
              have hS2 := HSI.out _ hk2
              clear hS1 hk2
              go_wp2_with fail
              refine ⟨hS2, ?_⟩
              refine wpAnyH_one (k := 6) rfl (by kernel_rfl) ?_
              refine wpList_build_one (by rfl) 22 36 (.tmp 68) (by rfl) Tryz.underlying22 infoUb (by decide) (lcn) hnl (by decide) (by rfl) ?_
              have hk : Keep noBlk wk (wk.alloc (.cells (lcn).toArray 36)) := (Keep.refl _ _).alloc _
              have HR69 := Lib.hid (rd_blk (n := 1) (size := 69) (heap_alloc_new wk (.cells (lcn).toArray 36)) hnl (by unfold maxLen; omega))
              obtain ⟨x69, hx69⟩ : ∃ s, wk.heap.size = s := ⟨_, rfl⟩
              rw [hx69] at HR69 ⊢
              have HX69 := Lib.hid hx69
              clear hx69
              generalize wk.alloc (.cells (lcn).toArray 36) = wl at *
              have HO67 := Lib.hid (hk.owns HO67.out fun _ _ => id)
              have hS3 := HSI.out _ ((HSE.out _ hS2).trans hk)
              clear hS2 hk
              go_wp2_with fail
              refine ⟨hS3, ?_⟩
              refine wpAnyH_one (k := 7) rfl (by kernel_rfl) ?_
              refine wpList_append_rd (by rfl) (.tmp 67) (.tmp 69) 22 (by rfl) B0 36 (.agg (ubCs (.slice none 0 0) ⟨0, ⟨[], 0, 0, zeros32⟩, 0, zeros32⟩).toArray) 69 120 Tryz.underlying22 infoUb rfl (by decide) (.slice a67 (0 + m) c67) (0 + m) ([] ++ ubRow (outs.take m)) (by rfl) HO67.out (.slice (some ⟨x69, 0, none⟩) 1 1) (1) (lcn) (by rfl) HR69.out HNO.out (by unfold maxLen; omega) (by omega) (by rw [← HB0.out]; exact (HSE.out _ hS3).size) ?_
              intro v70 wm ho hk0 hn_ hb_
              have hk2 : Keep noBlk wh wm := (HSE.out _ hS3).trans' hk0 (U := noBlk) (fun _ _ h => h) (fun i hi e => by have h1 := owns_base HO67.out e; have h2 := HB0.out; omega)
              obtain ⟨a70, c70, hv_, -, -⟩ := (Rd.of_owns ho).form
              subst hv_
              have HO70 := Lib.hid ho
              clear ho hn_ hb_ hk0
              have hS4 := HSI.out _ hk2
              clear hS3 hk2
              go_wp2_with fail
              refine ⟨hS4, ?_⟩
              refine wpAnyH_one (k := 11) rfl (by kernel_rfl) ?_
              refine wpList_append_rd (by rfl) (.tmp 70) (.tmp 73) 22 (by rfl) B0 36 (.agg (ubCs (.slice none 0 0) ⟨0, ⟨[], 0, 0, zeros32⟩, 0, zeros32⟩).toArray) 69 120 Tryz.underlying22 infoUb rfl (by decide) (.slice a70 (0 + m + 1) c70) (0 + m + 1) ([] ++ ubRow (outs.take m) ++ lcn) (by rfl) HO70.out (.slice oa73 0 (pc - m)) (0) (ubRow (outs.drop m)) (by rfl) (HP73.out.keep (HSE.out _ hS4) fun _ _ => id) (oneCell_ubRow (ubsO_drop HU.out m)) (by unfold maxLen; omega) (by omega) (by rw [← HB0.out]; exact (HSE.out _ hS4).size) ?_
              intro v74 wn ho hk0 hn_ hb_
              have hk2 : Keep noBlk wh wn := (HSE.out _ hS4).trans' hk0 (U := noBlk) (fun _ _ h => h) (fun i hi e => by have h1 := owns_base HO70.out e; have h2 := HB0.out; omega)
              obtain ⟨a74, c74, hv_, -, -⟩ := (Rd.of_owns ho).form
              subst hv_
              have HO74 := Lib.hid ho
              clear ho hn_ hb_ hk0
              have hS5 := HSI.out _ hk2
              clear hS4 hk2
              go_wp2_with fail
              refine ⟨hS5, ?_⟩
              refine tka 12 (.slice a74 (0 + m + 1 + 0) c74) rfl hS5 ?_
              simp only [Act.put, List.setIfInBounds_toArray, List.set_cons_zero, List.set_cons_succ, List.getElem_toArray, List.getElem_cons_succ, List.getElem_cons_zero]
              refine wpAnyH_done (by kernel_rfl) ?_ _
              have HKR := Lib.hid (HSE.out _ hS5)
              clear hS5 HSE HSI
              have HO := Lib.hid (HKR.out.owns HO.out fun _ _ => id)
              have HU := Lib.hid (HU.out.keep HKR.out)
              have HK := Lib.hid (HK.out.trans HKR.out)
              have HPV := Lib.hid (HPV.out.keep HKR.out fun _ _ => id)
              have HAT := Lib.hid (HKR.out.rangeAt HAT.out)
              have HKi := Lib.hid (HKi.out.trans HKR.out)
              have HOA := Lib.hid (HKR.out.owns HOA.out fun _ _ => id)
              go_wp2_with fail
              have hlen : 0 + m + 1 + 0 = m + 1 := by omega
              go_roundw
              case rel =>
                refine ⟨k + 1, m + 1, a74, c74, outs.take m ++ (.slice xa nu xc2, pu) :: outs.drop m, by omega, by omega, by rw [hlen], by go_num, Lib.hid ?_, Lib.hid ?_, Lib.hid ?_, Lib.hid ?_, HK⟩
                · have := HM.out
                  rw [List.length_append, List.length_cons, List.length_take, List.length_drop]; omega
                · have h := ownsRow_mono HO74.out hBw
                  rw [hlen] at h
                  rw [ubRow_append, show ubRow ((Value.slice xa nu xc2, pu) :: outs.drop m) = lcn ++ ubRow (outs.drop m) from by rw [← HLN.out]; rfl, ← List.append_assoc]
                  exact h
                · have h := best_ins HB.out HFO.out HFU.out (j := m) (fun i x hi hx => by rw [List.getElem?_map] at hx; obtain ⟨q, hq, rfl⟩ := Option.map_eq_some_iff.1 hx; exact HAH.out i q hi hq) (fun x hx => by rw [List.getElem?_eq_none (by rw [List.length_map, HM.out]; exact Nat.le_refl _)] at hx; cases hx)
                  rw [HTK.out]
                  simpa only [List.map_append, List.map_cons, List.map_take, List.map_drop] using h
                · intro q hq
                  rcases List.mem_append.1 hq with h | h
                  · exact HU.out q (List.mem_of_mem_take h)
                  · rcases List.mem_cons.1 h with rfl | h
                    · exact ⟨HPV.out.pool, HPV.out.root.sum, HPV.out.root.ads, by rw [HNU.out]; exact ownsRow_mono HOA.out HKW0.out.size⟩
                    · exact HU.out q (List.mem_of_mem_drop h)
              case measure => simp [intOf]; omega
            · have HSIZE := Lib.hid (show x63 < wj.heap.size from by obtain ⟨cur, hc⟩ := owns_block HO63.out (k := x63) rfl; exact lt_of_block hc)
              refine wpList_build_one (by rfl) 22 36 (.tmp 68) (by rfl) Tryz.underlying22 infoUb (by decide) (lcn) hnl (by decide) (by rfl) ?_
              have hk : Keep noBlk wj (wj.alloc (.cells (lcn).toArray 36)) := (Keep.refl _ _).alloc _
              have HR69 := Lib.hid (rd_blk (n := 1) (size := 69) (heap_alloc_new wj (.cells (lcn).toArray 36)) hnl (by unfold maxLen; omega))
              obtain ⟨x69, hx69⟩ : ∃ s, wj.heap.size = s := ⟨_, rfl⟩
              rw [hx69] at HR69 ⊢
              have HX69 := Lib.hid hx69
              clear hx69
              generalize wj.alloc (.cells (lcn).toArray 36) = wk at *
              have HO63 := Lib.hid (hk.owns HO63.out fun _ _ => id)
              have hS2 := HSI.out _ ((HSE.out _ hS1).trans hk)
              clear hS1 hk
              go_wp2_with fail
              refine ⟨hS2, ?_⟩
              refine wpAnyH_one (k := 4) rfl (by kernel_rfl) ?_
              refine wpList_append_rd (by rfl) (.tmp 63) (.tmp 66) 22 (by rfl) B0 36 (.agg (ubCs (.slice none 0 0) ⟨0, ⟨[], 0, 0, zeros32⟩, 0, zeros32⟩).toArray) 69 120 Tryz.underlying22 infoUb rfl (by decide) (.slice (some ⟨x63, 0, none⟩) 0 0) (0) ([]) (by rfl) HO63.out (.slice (some ⟨gq, 0, none⟩) m pc) (m) (ubRow (outs.take m)) (by rfl) (HP66.out.keep (HSE.out _ hS2) fun _ _ => id) (oneCell_ubRow (ubsO_take HU.out m)) (by unfold maxLen; omega) (by omega) (by rw [← HB0.out]; exact (HSE.out _ hS2).size) ?_
              intro v67 wl ho hk0 hn_ hb_
              have hk2 : Keep noBlk wh wl := (HSE.out _ hS2).trans' hk0 (U := noBlk) (fun _ _ h => h) (fun i hi e => by have h1 := owns_base HO63.out e; have h2 := HB0.out; omega)
              obtain ⟨a67, c67, hv_, -, -⟩ := (Rd.of_owns ho).form
              subst hv_
              have HO67 := Lib.hid ho
              have HR69 := Lib.hid (HR69.out.keep hk0 (fun j hj e => by cases hj; have e2 : x63 = x69 := Option.some.inj e; have h1 := HX63.out; have h2 := HX69.out; have h3 := HSIZE.out; omega))
              clear ho hn_ hb_ hk0
              have hS3 := HSI.out _ hk2
              clear hS2 hk2
              go_wp2_with fail
              refine ⟨hS3, ?_⟩
              refine wpAnyH_one (k := 7) rfl (by kernel_rfl) ?_
              refine wpList_append_rd (by rfl) (.tmp 67) (.tmp 69) 22 (by rfl) B0 36 (.agg (ubCs (.slice none 0 0) ⟨0, ⟨[], 0, 0, zeros32⟩, 0, zeros32⟩).toArray) 69 120 Tryz.underlying22 infoUb rfl (by decide) (.slice a67 (0 + m) c67) (0 + m) ([] ++ ubRow (outs.take m)) (by rfl) HO67.out (.slice (some ⟨x69, 0, none⟩) 1 1) (1) (lcn) (by rfl) HR69.out HNO.out (by unfold maxLen; omega) (by omega) (by rw [← HB0.out]; exact (HSE.out _ hS3).size) ?_
              intro v70 wm ho hk0 hn_ hb_
              have hk2 : Keep noBlk wh wm := (HSE.out _ hS3).trans' hk0 (U := noBlk) (fun _ _ h => h) (fun i hi e => by have h1 := owns_base HO67.out e; have h2 := HB0.out; omega)
              obtain ⟨a70, c70, hv_, -, -⟩ := (Rd.of_owns ho).form
              subst hv_
              have HO70 := Lib.hid ho
              clear ho hn_ hb_ hk0
              have hS4 := HSI.out _ hk2
              clear hS3 hk2
              go_wp2_with fail
              refine ⟨hS4, ?_⟩
              refine wpAnyH_one (k := 11) rfl (by kernel_rfl) ?_
              refine wpList_append_rd (by rfl) (.tmp 70) (.tmp 73) 22 (by rfl) B0 36 (.agg (ubCs (.slice none 0 0) ⟨0, ⟨[], 0, 0, zeros32⟩, 0, zeros32⟩).toArray) 69 120 Tryz.underlying22 infoUb rfl (by decide) (.slice a70 (0 + m + 1) c70) (0 + m + 1) ([] ++ ubRow (outs.take m) ++ lcn) (by rfl) HO70.out (.slice oa73 0 (pc - m)) (0) (ubRow (outs.drop m)) (by rfl) (HP73.out.keep (HSE.out _ hS4) fun _ _ => id) (oneCell_ubRow (ubsO_drop HU.out m)) (by unfold maxLen; omega) (by omega) (by rw [← HB0.out]; exact (HSE.out _ hS4).size) ?_
              intro v74 wn ho hk0 hn_ hb_
              have hk2 : Keep noBlk wh wn := (HSE.out _ hS4).trans' hk0 (U := noBlk) (fun _ _ h => h) (fun i hi e => by have h1 := owns_base HO70.out e; have h2 := HB0.out; omega)
              obtain ⟨a74, c74, hv_, -, -⟩ := (Rd.of_owns ho).form
              subst hv_
              have HO74 := Lib.hid ho
              clear ho hn_ hb_ hk0
              have hS5 := HSI.out _ hk2
              clear hS4 hk2
              go_wp2_with fail
              refine ⟨hS5, ?_⟩
              refine tka 12 (.slice a74 (0 + m + 1 + 0) c74) rfl hS5 ?_
              simp only [Act.put, List.setIfInBounds_toArray, List.set_cons_zero, List.set_cons_succ, List.getElem_toArray, List.getElem_cons_succ, List.getElem_cons_zero]
              refine wpAnyH_done (by kernel_rfl) ?_ _
              have HKR := Lib.hid (HSE.out _ hS5)
              clear hS5 HSE HSI
              have HO := Lib.hid (HKR.out.owns HO.out fun _ _ => id)
              have HU := Lib.hid (HU.out.keep HKR.out)
              have HK := Lib.hid (HK.out.trans HKR.out)
              have HPV := Lib.hid (HPV.out.keep HKR.out fun _ _ => id)
              have HAT := Lib.hid (HKR.out.rangeAt HAT.out)
              have HKi := Lib.hid (HKi.out.trans HKR.out)
              have HOA := Lib.hid (HKR.out.owns HOA.out fun _ _ => id)
              go_wp2_with fail
              have hlen : 0 + m + 1 + 0 = m + 1 := by omega
              go_roundw
              case rel =>
                refine ⟨k + 1, m + 1, a74, c74, outs.take m ++ (.slice xa nu xc2, pu) :: outs.drop m, by omega, by omega, by rw [hlen], by go_num, Lib.hid ?_, Lib.hid ?_, Lib.hid ?_, Lib.hid ?_, HK⟩
                · have := HM.out
                  rw [List.length_append, List.length_cons, List.length_take, List.length_drop]; omega
                · have h := ownsRow_mono HO74.out hBw
                  rw [hlen] at h
                  rw [ubRow_append, show ubRow ((Value.slice xa nu xc2, pu) :: outs.drop m) = lcn ++ ubRow (outs.drop m) from by rw [← HLN.out]; rfl, ← List.append_assoc]
                  exact h
                · have h := best_ins HB.out HFO.out HFU.out (j := m) (fun i x hi hx => by rw [List.getElem?_map] at hx; obtain ⟨q, hq, rfl⟩ := Option.map_eq_some_iff.1 hx; exact HAH.out i q hi hq) (fun x hx => by rw [List.getElem?_eq_none (by rw [List.length_map, HM.out]; exact Nat.le_refl _)] at hx; cases hx)
                  rw [HTK.out]
                  simpa only [List.map_append, List.map_cons, List.map_take, List.map_drop] using h
                · intro q hq
                  rcases List.mem_append.1 hq with h | h
                  · exact HU.out q (List.mem_of_mem_take h)
                  · rcases List.mem_cons.1 h with rfl | h
                    · exact ⟨HPV.out.pool, HPV.out.root.sum, HPV.out.root.ads, by rw [HNU.out]; exact ownsRow_mono HOA.out HKW0.out.size⟩
                    · exact HU.out q (List.mem_of_mem_drop h)
              case measure => simp [intOf]; omega
          · refine wpList_build_one (by rfl) 22 36 (.tmp 68) (by rfl) Tryz.underlying22 infoUb (by decide) (lcn) hnl (by decide) (by rfl) ?_
            have hk : Keep noBlk wi (wi.alloc (.cells (lcn).toArray 36)) := (Keep.refl _ _).alloc _
            have HR69 := Lib.hid (rd_blk (n := 1) (size := 69) (heap_alloc_new wi (.cells (lcn).toArray 36)) hnl (by unfold maxLen; omega))
            obtain ⟨x69, hx69⟩ : ∃ s, wi.heap.size = s := ⟨_, rfl⟩
            rw [hx69] at HR69 ⊢
            have HX69 := Lib.hid hx69
            clear hx69
            generalize wi.alloc (.cells (lcn).toArray 36) = wj at *
            skip
            have hS1 := HSI.out _ ((HSE.out _ hS).trans hk)
            clear hS hk
            go_wp2_with fail
            refine ⟨hS1, ?_⟩
            have HSIZE := Lib.hid (show x69 < wj.heap.size from by obtain ⟨k_, h1, h2⟩ := HR69.out.lt (by rw [hnl]; decide); cases h1; exact h2)
            refine wpAnyH_one (k := 0) rfl (by kernel_rfl) ?_
            go_wp2_with fail
            obtain ⟨x63, hx63⟩ : ∃ x, wj.heap.size = x := ⟨_, rfl⟩
            have HO63 : Hid ((wj.alloc (.cells #[] 36)).ownsRow B0 36 69 (.slice (some ⟨x63, 0, none⟩) 0 0) 0 []) := Lib.hid (by rw [← hx63]; exact World.ownsRow_made wj #[] 0 (by rw [← HB0.out]; exact (HSE.out _ hS1).size) (by unfold maxLen; omega) rfl)
            have hk : Keep noBlk wj (wj.alloc (.cells #[] 36)) := (Keep.refl _ _).alloc _
            rw [hx63]
            have HX63 := Lib.hid hx63
            clear hx63
            generalize wj.alloc (.cells #[] 36) = wk at *
            have HKx := Lib.hid hk
            have hS2 := HSI.out _ ((HSE.out _ hS1).trans hk)
            clear hS1 hk
            refine ⟨hS2, ?_⟩
            have HR69 := Lib.hid (HR69.out.keep HKx.out fun _ _ => id)
            refine wpAnyH_one (k := 4) rfl (by kernel_rfl) ?_
            refine wpList_append_rd (by rfl) (.tmp 63) (.tmp 66) 22 (by rfl) B0 36 (.agg (ubCs (.slice none 0 0) ⟨0, ⟨[], 0, 0, zeros32⟩, 0, zeros32⟩).toArray) 69 120 Tryz.underlying22 infoUb rfl (by decide) (.slice (some ⟨x63, 0, none⟩) 0 0) (0) ([]) (by rfl) HO63.out (.slice (some ⟨gq, 0, none⟩) m pc) (m) (ubRow (outs.take m)) (by rfl) (HP66.out.keep (HSE.out _ hS2) fun _ _ => id) (oneCell_ubRow (ubsO_take HU.out m)) (by unfold maxLen; omega) (by omega) (by rw [← HB0.out]; exact (HSE.out _ hS2).size) ?_
            intro v67 wl ho hk0 hn_ hb_
            have hk2 : Keep noBlk wh wl := (HSE.out _ hS2).trans' hk0 (U := noBlk) (fun _ _ h => h) (fun i hi e => by have h1 := owns_base HO63.out e; have h2 := HB0.out; omega)
            obtain ⟨a67, c67, hv_, -, -⟩ := (Rd.of_owns ho).form
            subst hv_
            have HO67 := Lib.hid ho
            have HR69 := Lib.hid (HR69.out.keep hk0 (fun j hj e => by cases hj; have e2 : x63 = x69 := Option.some.inj e; have h1 := HX63.out; have h2 := HX69.out; have h3 := HSIZE.out; omega))
            clear ho hn_ hb_ hk0
            have hS3 := HSI.out _ hk2
            clear hS2 hk2
            go_wp2_with fail
            refine ⟨hS3, ?_⟩
            refine wpAnyH_one (k := 7) rfl (by kernel_rfl) ?_
            refine wpList_append_rd (by rfl) (.tmp 67) (.tmp 69) 22 (by rfl) B0 36 (.agg (ubCs (.slice none 0 0) ⟨0, ⟨[], 0, 0, zeros32⟩, 0, zeros32⟩).toArray) 69 120 Tryz.underlying22 infoUb rfl (by decide) (.slice a67 (0 + m) c67) (0 + m) ([] ++ ubRow (outs.take m)) (by rfl) HO67.out (.slice (some ⟨x69, 0, none⟩) 1 1) (1) (lcn) (by rfl) HR69.out HNO.out (by unfold maxLen; omega) (by omega) (by rw [← HB0.out]; exact (HSE.out _ hS3).size) ?_
            intro v70 wm ho hk0 hn_ hb_
            have hk2 : Keep noBlk wh wm := (HSE.out _ hS3).trans' hk0 (U := noBlk) (fun _ _ h => h) (fun i hi e => by have h1 := owns_base HO67.out e; have h2 := HB0.out; omega)
            obtain ⟨a70, c70, hv_, -, -⟩ := (Rd.of_owns ho).form
            subst hv_
            have HO70 := Lib.hid ho
            clear ho hn_ hb_ hk0
            have hS4 := HSI.out _ hk2
            clear hS3 hk2
            go_wp2_with fail
            refine ⟨hS4, ?_⟩
            refine wpAnyH_one (k := 11) rfl (by kernel_rfl) ?_
            refine wpList_append_rd (by rfl) (.tmp 70) (.tmp 73) 22 (by rfl) B0 36 (.agg (ubCs (.slice none 0 0) ⟨0, ⟨[], 0, 0, zeros32⟩, 0, zeros32⟩).toArray) 69 120 Tryz.underlying22 infoUb rfl (by decide) (.slice a70 (0 + m + 1) c70) (0 + m + 1) ([] ++ ubRow (outs.take m) ++ lcn) (by rfl) HO70.out (.slice oa73 0 (pc - m)) (0) (ubRow (outs.drop m)) (by rfl) (HP73.out.keep (HSE.out _ hS4) fun _ _ => id) (oneCell_ubRow (ubsO_drop HU.out m)) (by unfold maxLen; omega) (by omega) (by rw [← HB0.out]; exact (HSE.out _ hS4).size) ?_
            intro v74 wn ho hk0 hn_ hb_
            have hk2 : Keep noBlk wh wn := (HSE.out _ hS4).trans' hk0 (U := noBlk) (fun _ _ h => h) (fun i hi e => by have h1 := owns_base HO70.out e; have h2 := HB0.out; omega)
            obtain ⟨a74, c74, hv_, -, -⟩ := (Rd.of_owns ho).form
            subst hv_
            have HO74 := Lib.hid ho
            clear ho hn_ hb_ hk0
            have hS5 := HSI.out _ hk2
            clear hS4 hk2
            go_wp2_with fail
            refine ⟨hS5, ?_⟩
            refine tka 12 (.slice a74 (0 + m + 1 + 0) c74) rfl hS5 ?_
            simp only [Act.put, List.setIfInBounds_toArray, List.set_cons_zero, List.set_cons_succ, List.getElem_toArray, List.getElem_cons_succ, List.getElem_cons_zero]
            refine wpAnyH_done (by kernel_rfl) ?_ _
            have HKR := Lib.hid (HSE.out _ hS5)
            clear hS5 HSE HSI
            have HO := Lib.hid (HKR.out.owns HO.out fun _ _ => id)
            have HU := Lib.hid (HU.out.keep HKR.out)
            have HK := Lib.hid (HK.out.trans HKR.out)
            have HPV := Lib.hid (HPV.out.keep HKR.out fun _ _ => id)
            have HAT := Lib.hid (HKR.out.rangeAt HAT.out)
            have HKi := Lib.hid (HKi.out.trans HKR.out)
            have HOA := Lib.hid (HKR.out.owns HOA.out fun _ _ => id)
            go_wp2_with fail
            have hlen : 0 + m + 1 + 0 = m + 1 := by omega
            go_roundw
            case rel =>
              refine ⟨k + 1, m + 1, a74, c74, outs.take m ++ (.slice xa nu xc2, pu) :: outs.drop m, by omega, by omega, by rw [hlen], by go_num, Lib.hid ?_, Lib.hid ?_, Lib.hid ?_, Lib.hid ?_, HK⟩
              · have := HM.out
                rw [List.length_append, List.length_cons, List.length_take, List.length_drop]; omega
              · have h := ownsRow_mono HO74.out hBw
                rw [hlen] at h
                rw [ubRow_append, show ubRow ((Value.slice xa nu xc2, pu) :: outs.drop m) = lcn ++ ubRow (outs.drop m) from by rw [← HLN.out]; rfl, ← List.append_assoc]
                exact h
              · have h := best_ins HB.out HFO.out HFU.out (j := m) (fun i x hi hx => by rw [List.getElem?_map] at hx; obtain ⟨q, hq, rfl⟩ := Option.map_eq_some_iff.1 hx; exact HAH.out i q hi hq) (fun x hx => by rw [List.getElem?_eq_none (by rw [List.length_map, HM.out]; exact Nat.le_refl _)] at hx; cases hx)
                rw [HTK.out]
                simpa only [List.map_append, List.map_cons, List.map_take, List.map_drop] using h
              · intro q hq
                rcases List.mem_append.1 hq with h | h
                · exact HU.out q (List.mem_of_mem_take h)
                · rcases List.mem_cons.1 h with rfl | h
                  · exact ⟨HPV.out.pool, HPV.out.root.sum, HPV.out.root.ads, by rw [HNU.out]; exact ownsRow_mono HOA.out HKW0.out.size⟩
                  · exact HU.out q (List.mem_of_mem_drop h)
            case measure => simp [intOf]; omega
  · obtain rfl : k = n := by omega
    have HW : Hid (RBestPost w (ps.map (·.2)) (.returned (.slice pa m pc)) wr) := Lib.hid (by
      have hb := HB.out
      rw [List.take_of_length_le (by rw [HN.out]; exact Nat.le_refl _)] at hb
      exact ⟨_, outs, rfl, by rw [HM.out]; exact HO.out, hb, HU.out, HK.out, by rw [HM.out, List.length_map, HN.out]; exact hmk⟩)
    go_wp2_with fail
    go_ret
    exact HW.out

end Go.Proofs.YtaiicjhnhbkgmaaGreatDoor
