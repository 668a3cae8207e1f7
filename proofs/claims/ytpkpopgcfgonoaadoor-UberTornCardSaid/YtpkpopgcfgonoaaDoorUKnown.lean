/-
  UberKnown: the chapter's examples are answered as it says
  Conditions: the two package variables hold errors.
-/
import Derived.Test.YtpkpopgcfgonoaaDoorOneU
import Derived.Test.YtpkpopgcfgonoaaDoorUbsL
namespace Go.Proofs.YtpkpopgcfgonoaaDoor
open Go.RowKit Go.Maps Go.ChangeMaps
set_option maxRecDepth 100000
set_option linter.unusedVariables false

theorem infoAdK : (Tryd.prog.info? 31).map (fun i => (i.zero, i.size, i.bytes)) = some (some (.agg #[.int .i64 0, .int .i64 0]), 2, 16) := by kernel_rfl
theorem eqB_refl (u : Ub) : u.eqB u = true := by unfold Ub.eqB Pt.eqB; simp
def uA : Ub := ⟨0, zPt, 300, zeros32⟩
def uB : Ub := ⟨258, zPt, 16385, zeros32⟩
def pC : Pt := ⟨[⟨1, 5⟩], 7, 2, zeros32⟩
def uC : Ub := ⟨258, pC, 300, zeros32⟩
def uD : Ub := ⟨258, zPt, 0, zeros32⟩
theorem uA_may : uA.may = false := by decide
theorem uB_may : uB.may = false := by decide
theorem uC_may : uC.may = false := by decide
theorem uD_eq : oneUb.eqB uD = false := by decide
theorem ubV_flat (w : World) (t l : Int) : UbV w (.slice none 0 0) ⟨t, zPt, l, zeros32⟩ := ⟨⟨Rd.of_owns (World.ownsRow_nil w 0 31 2), (fun x hx => by cases hx), rfl⟩, rfl⟩
theorem unpackU_zeros : (unpackU (List.replicate 256 0)).2 = 6 := by
  unfold unpackU
  rw [if_neg (by simp), if_pos rfl]
theorem unpackU_nil : (unpackU []).2 = 4 := rfl
theorem onesU_may : (ubOf (List.replicate 256 1)).may = false := by decide +kernel
theorem unpackU_ones : (unpackU (List.replicate 256 1)).2 = 11 := by
  unfold unpackU
  rw [if_neg (by simp), if_neg (by decide +kernel), if_neg]
  rw [onesU_may]
  simp
theorem ones_stepU {n i : Nat} (h : i < n) : (List.replicate i (1 : UInt8) ++ List.replicate (n - i) 0).set i 1 = List.replicate (i + 1) 1 ++ List.replicate (n - (i + 1)) 0 := by
  apply List.ext_getElem?
  intro j
  rw [List.getElem?_set]
  simp only [List.length_append, List.length_replicate]
  by_cases hij : i = j
  · subst hij
    rw [if_pos rfl, if_pos (by omega), List.getElem?_append_left (by simp), List.getElem?_replicate, if_pos (by omega)]
  · rw [if_neg hij]
    by_cases hj : j < i
    · rw [List.getElem?_append_left (by simp; exact hj), List.getElem?_append_left (by simp; omega), List.getElem?_replicate, List.getElem?_replicate, if_pos hj, if_pos (by omega)]
    · rw [List.getElem?_append_right (by simp; omega), List.getElem?_append_right (by simp; omega), List.getElem?_replicate, List.getElem?_replicate]
      simp only [List.length_replicate]
      by_cases h2 : j < n
      · rw [if_pos (by omega), if_pos (by omega)]
      · rw [if_neg (by omega), if_neg (by omega)]
/-- Blocks from b on that hold uberblocks. -/
def KS (w wr : World) (b : Nat) (L : List (List Value)) : Prop := w.heap.size ≤ b ∧ Keep noBlk w wr ∧ ∀ i c, L[i]? = some c → wr.heap[b + i]? = some (.cells c.toArray 28 (0, 0))
theorem KS.same {w wr w' : World} {b : Nat} {L : List (List Value)} (h : KS w wr b L) (k : Keep noBlk wr w') : KS w w' b L := ⟨h.1, h.2.1.trans k, fun i c hi => k.blk (h.2.2 i c hi) id⟩
theorem KS.set {w wr w' : World} {b i : Nat} {L : List (List Value)} {c : List Value} (h : KS w wr b L) (k : Keep (fun j => j = b + i) wr w') (hb : w'.heap[b + i]? = some (.cells c.toArray 28 (0, 0))) : KS w w' b (L.set i c) := by
  refine ⟨h.1, h.2.1.trans' k (fun _ _ h => h) (fun j hj e => by have := h.1; omega), fun j d hj => ?_⟩
  rw [List.getElem?_set] at hj
  by_cases e : i = j
  · subst e
    rw [if_pos rfl] at hj
    split at hj
    · cases hj; exact hb
    · cases hj
  · rw [if_neg e] at hj
    exact k.blk (h.2.2 j d hj) (fun e' => by omega)
theorem KS.put {w wr : World} {b i : Nat} {L : List (List Value)} {c c' : List Value} (h : KS w wr b L) (hi : L[i]? = some c) (j : Nat) (v : Value) (hc : c.set j v = c') : KS w (wr.setCell ⟨b + i, j, none⟩ v) b (L.set i c') := by
  refine h.set ((Keep.refl (fun k => k = b + i) wr).setCell (p := ⟨b + i, j, none⟩) (fun _ => rfl) v) ?_
  have := set_blk (h.2.2 i c hi) j v
  rw [List.setIfInBounds_toArray, hc] at this
  exact this
theorem splC (B : Nat) : spl (ubCs (.slice none 0 0) oneUb).toArray 1 (ptCs (.slice (some ⟨B, 0, none⟩) 1 1) pC) = (ubCs (.slice (some ⟨B, 0, none⟩) 1 1) uC).toArray := by
  have h := ubCs_rootS (.slice none 0 0) (.slice (some ⟨B, 0, none⟩) 1 1) uC rfl
  rw [← h]
  apply Array.ext_getElem?
  intro j
  have l1 : (ptCs (.slice (some ⟨B, 0, none⟩) 1 1) pC).length = 35 := rfl
  rw [spl_get _ _ _ _ (by rw [l1]; decide), spl_get _ _ _ _ (by rw [show uC.root = pC from rfl, l1]; decide), show uC.root = pC from rfl, l1]
  by_cases hj : 1 ≤ j ∧ j < 1 + 35
  · rw [if_pos hj, if_pos hj]
  · rw [if_neg hj, if_neg hj]
    have e : ∀ p : Pt, (ubCs (.slice none 0 0) ⟨258, p, 300, zeros32⟩).toArray[j]? = (Value.int .i64 258 :: (ptCs (.slice none 0 0) p ++ (.int .i64 300 :: zeros32.map vb)))[j]? := fun p => by rw [List.getElem?_toArray]; rfl
    rw [show oneUb = ⟨258, zPt, 300, zeros32⟩ from rfl, show uC = ⟨258, pC, 300, zeros32⟩ from rfl, e, e]
    cases j with
    | zero => rfl
    | succ i =>
      have la : ∀ p : Pt, p.sum.length = 32 → (ptCs (.slice none 0 0) p).length = 35 := fun p hp => ptCs_len hp
      rw [List.getElem?_cons_succ, List.getElem?_cons_succ, List.getElem?_append_right (by rw [la zPt rfl]; omega), List.getElem?_append_right (by rw [la pC rfl]; omega), la zPt rfl, la pC rfl]
theorem buildPtC (B : Nat) (w : World) : (Instr.build 26 #[(0, .slice (some ⟨B, 0, none⟩) 1 1), (1, .int .i64 7), (2, .int .i64 2)]).run Tryd.prog w = .ok (.agg (ptCs (.slice (some ⟨B, 0, none⟩) 1 1) pC).toArray) w := by kernel_rfl
theorem rdC {w : World} {B : Nat} {t : TypeId} {fr : Nat × Nat} (h : w.heap[B]? = some (.cells (adCs ⟨1, 5⟩).toArray t fr)) : Rd w 2 (.slice (some ⟨B, 0, none⟩) 1 1) 1 (adCells [⟨1, 5⟩]) :=
  ⟨rfl, _, 1, rfl, Nat.le_refl _, by unfold maxLen; omega, (by intro h; cases h), fun _ => ⟨B, 0, rfl, fun i u hu => by rw [Nat.zero_add]; exact blk_cell h (by rw [List.getElem?_toArray]; exact hu)⟩⟩
theorem uC_ads : AdsOk uC.root.addrs := fun x hx => by
  have e : x = ⟨1, 5⟩ := by simpa [uC, pC] using hx
  rw [e]
  exact ⟨⟨by decide, by decide⟩, by decide, by decide⟩
theorem checkK (u : Ub) (v : Value) (wx : World) (h : UbV wx v u) {lc : List Value} (hl : ubCs v u = lc) {n : Int} (hn : (if u.may then 0 else 2) = n) : Calls Tryd.prog 7 #[.agg lc.toArray] wx (fun e w' => e = .returned (.int .i64 n) ∧ Keep noBlk wx w') := by
  subst hl; subst hn
  exact checkU_any wx v u h

set_option maxHeartbeats 16000000 in
theorem uberKnown_walk (w : World) (aF aR : Addr) (hg : ErrG w aF aR) : Calls Tryd.prog 3 #[] w (TherePost w true) := by
  obtain ⟨zc, hzc, hzl⟩ : ∃ zc, ubCs (.slice none 0 0) zUb = zc ∧ zc.length = 69 := ⟨_, rfl, rfl⟩
  have hzv : ∀ w, (zeroValue 28).run Tryd.prog w = .ok (.agg zc.toArray) w := by rw [← hzc]; exact zeroValUb
  have HZV := Lib.hid hzv; have HZC := Lib.hid hzc
  clear hzc hzv
  obtain ⟨lc, hlc⟩ : ∃ x, ubCs (.slice none 0 0) oneUb = x := ⟨_, rfl⟩
  have hll : lc.length = 69 := by rw [← hlc]; rfl
  have hlo := oneCell_ub (oa := none) (n := 0) (ca := 0) oneUb
  rw [hlc] at hlo
  have HLO := Lib.hid hlo
  have C1 := Lib.hid (fun wx => oneU_any wx)
  rw [hlc] at C1
  obtain ⟨cA, hcA⟩ : ∃ x, ubCs (.slice none 0 0) uA = x := ⟨_, rfl⟩
  have hlA : cA.length = 69 := by rw [← hcA]; rfl
  obtain ⟨cB, hcB⟩ : ∃ x, ubCs (.slice none 0 0) uB = x := ⟨_, rfl⟩
  have hlB : cB.length = 69 := by rw [← hcB]; rfl
  obtain ⟨cD, hcD⟩ : ∃ x, ubCs (.slice none 0 0) uD = x := ⟨_, rfl⟩
  have hlD : cD.length = 69 := by rw [← hcD]; rfl
  have HSA := Lib.hid (show lc.set 0 (.int .i64 0) = cA by rw [← hlc, ← hcA]; rfl)
  have HSB := Lib.hid (show lc.set 36 (.int .i64 16385) = cB by rw [← hlc, ← hcB]; rfl)
  have HSD := Lib.hid (show lc.set 36 (.int .i64 0) = cD by rw [← hlc, ← hcD]; rfl)
  have q0 : lc.toArray[0]? = some (.int .i64 258) := by rw [← hlc]; rfl
  have q36 : lc.toArray[36]? = some (.int .i64 300) := by rw [← hlc]; rfl
  have HQ0 := Lib.hid q0; have HQ36 := Lib.hid q36
  have HCA := Lib.hid hcA; have HCB := Lib.hid hcB; have HCD := Lib.hid hcD; have HLC := Lib.hid hlc
  have HG := Lib.hid hg
  clear hlc hlo hcA hcB hcD q0 q36 hg
  go_enter Tryd.func3, Tryd.ntmps3
  go_wp2_with fail
  refine (C1.out _).mono ?_
  rintro e w1 ⟨rfl, hk0⟩
  go_wp2_with fail
  refine (C1.out _).mono ?_
  rintro e w2 ⟨rfl, hk1⟩
  go_wp2_with fail
  refine (C1.out _).mono ?_
  rintro e w3 ⟨rfl, hk2⟩
  go_wp2_with fail
  refine (C1.out _).mono ?_
  rintro e w4 ⟨rfl, hk3⟩
  have HK4 := Lib.hid (((hk0.trans hk1).trans hk2).trans hk3)
  clear hk0 hk1 hk2 hk3
  obtain ⟨b, hb⟩ : ∃ b, w4.heap.size = b := ⟨_, rfl⟩
  obtain ⟨wa, ha, ka, ba, sa⟩ := alloc_facts w4 zc.toArray 28
  obtain ⟨wb, hb', kb, bb, sb⟩ := alloc_facts wa zc.toArray 28
  obtain ⟨wc, hc, kc, bc, sc⟩ := alloc_facts wb zc.toArray 28
  obtain ⟨wd, hd, kd, bd, sd⟩ := alloc_facts wc zc.toArray 28
  rw [hb] at sa ba
  rw [sa] at sb bb
  rw [sb] at sc bc
  rw [sc] at sd bd
  have HS0 : Hid (KS w wd b [zc, zc, zc, zc]) := Lib.hid ⟨by have := HK4.out.size; omega, ((((HK4.out.trans ka).trans kb).trans kc).trans kd), fun i c h => by
    have hi : i < 4 := (List.getElem?_eq_some_iff.1 h).1
    have h4 : i = 0 ∨ i = 1 ∨ i = 2 ∨ i = 3 := by omega
    rcases h4 with rfl | rfl | rfl | rfl <;> cases h
    · exact kd.blk (kc.blk (kb.blk ba id) id) id
    · exact kd.blk (kc.blk bb id) id
    · exact kd.blk bc id
    · exact bd⟩
  clear ka kb kc kd ba bb bc bd
  have hba := fun w => buildAd 1 5 w
  go_wp2_with (first
    | ((with_reducible show wpList _ _ _ (⟨some 1, .alloc 28, _, _, _, _⟩ :: _) _ _); refine wpList_alloc_at rfl 28 rfl _ HZV.out zc.toArray rfl ?_; rw [ha, hb])
    | ((with_reducible show wpList _ _ _ (⟨some 2, .alloc 28, _, _, _, _⟩ :: _) _ _); refine wpList_alloc_at rfl 28 rfl _ HZV.out zc.toArray rfl ?_; rw [hb', sa])
    | ((with_reducible show wpList _ _ _ (⟨some 3, .alloc 28, _, _, _, _⟩ :: _) _ _); refine wpList_alloc_at rfl 28 rfl _ HZV.out zc.toArray rfl ?_; rw [hc, sb])
    | ((with_reducible show wpList _ _ _ (⟨some 4, .alloc 28, _, _, _, _⟩ :: _) _ _); refine wpList_alloc_at rfl 28 rfl _ HZV.out zc.toArray rfl ?_; rw [hd, sc])
    | ((with_reducible show wpList _ _ _ (⟨none, .store 28 (.tmp 1) (.tmp 14), _, _, _, _⟩ :: _) _ _)
       refine wpList_store_agg rfl 28 (.tmp 1) (.tmp 14) rfl (b + 0) 0 lc (by first | rfl | (simp only [Act.eval, Nat.add_assoc]; rfl)) rfl zc.toArray _ (HS0.out.2.2 0 zc rfl) (by rw [hll, List.size_toArray, hzl]; exact Nat.le_refl _) (sizeUbL hll) HLO.out ?_
       intro we1 hbe hke
       rw [spl_whole _ _ (by rw [hll, List.size_toArray, hzl])] at hbe
       have HS1 : Hid (KS w we1 b [lc, zc, zc, zc]) := Lib.hid (HS0.out.set (i := 0) hke hbe)
       clear hbe hke)
    | ((with_reducible show wpList _ _ _ (⟨none, .store 28 (.tmp 2) (.tmp 15), _, _, _, _⟩ :: _) _ _)
       refine wpList_store_agg rfl 28 (.tmp 2) (.tmp 15) rfl (b + 1) 0 lc (by first | rfl | (simp only [Act.eval, Nat.add_assoc]; rfl)) rfl zc.toArray _ (HS1.out.2.2 1 zc rfl) (by rw [hll, List.size_toArray, hzl]; exact Nat.le_refl _) (sizeUbL hll) HLO.out ?_
       intro we2 hbe hke
       rw [spl_whole _ _ (by rw [hll, List.size_toArray, hzl])] at hbe
       have HS2 : Hid (KS w we2 b [lc, lc, zc, zc]) := Lib.hid (HS1.out.set (i := 1) hke hbe)
       clear hbe hke)
    | ((with_reducible show wpList _ _ _ (⟨none, .store 28 (.tmp 3) (.tmp 16), _, _, _, _⟩ :: _) _ _)
       refine wpList_store_agg rfl 28 (.tmp 3) (.tmp 16) rfl (b + 2) 0 lc (by first | rfl | (simp only [Act.eval, Nat.add_assoc]; rfl)) rfl zc.toArray _ (HS2.out.2.2 2 zc rfl) (by rw [hll, List.size_toArray, hzl]; exact Nat.le_refl _) (sizeUbL hll) HLO.out ?_
       intro we3 hbe hke
       rw [spl_whole _ _ (by rw [hll, List.size_toArray, hzl])] at hbe
       have HS3 : Hid (KS w we3 b [lc, lc, lc, zc]) := Lib.hid (HS2.out.set (i := 2) hke hbe)
       clear hbe hke)
    | ((with_reducible show wpList _ _ _ (⟨none, .store 28 (.tmp 4) (.tmp 17), _, _, _, _⟩ :: _) _ _)
       refine wpList_store_agg rfl 28 (.tmp 4) (.tmp 17) rfl (b + 3) 0 lc (by first | rfl | (simp only [Act.eval, Nat.add_assoc]; rfl)) rfl zc.toArray _ (HS3.out.2.2 3 zc rfl) (by rw [hll, List.size_toArray, hzl]; exact Nat.le_refl _) (sizeUbL hll) HLO.out ?_
       intro we4 hbe hke
       rw [spl_whole _ _ (by rw [hll, List.size_toArray, hzl])] at hbe
       have HS4 : Hid (KS w we4 b [lc, lc, lc, lc]) := Lib.hid (HS3.out.set (i := 3) hke hbe)
       clear hbe hke
       have q1 := blk_cell (i := 0) (v := .int .i64 258) (HS4.out.2.2 0 lc rfl) HQ0.out
       have q2 := blk_cell (i := 36) (v := .int .i64 300) (HS4.out.2.2 1 lc rfl) HQ36.out
       have q4 := blk_cell (i := 36) (v := .int .i64 300) (HS4.out.2.2 3 lc rfl) HQ36.out
       have f1 := blk_free (HS4.out.2.2 0 lc rfl) 0; have f2 := blk_free (HS4.out.2.2 1 lc rfl) 36; have f4 := blk_free (HS4.out.2.2 3 lc rfl) 36
       have hbz : b + 3 < we4.heap.size := lt_of_block (HS4.out.2.2 3 lc rfl)
       simp only [Nat.add_zero] at q1 f1
       clear ha hb' hc hd sa sb sc sd hb)
    | ((with_reducible show wpList _ _ _ (⟨_, .buildSlice _ 1 _, _, _, _, _⟩ :: _) _ _)
       have hs6 : KS w ((we4.setCell ⟨b, 0, none⟩ (.int .i64 0)).setCell ⟨b + 1, 36, none⟩ (.int .i64 16385)) b [cA, cB, lc, lc] := (HS4.out.put (i := 0) rfl 0 (.int .i64 0) HSA.out).put (i := 1) rfl 36 (.int .i64 16385) HSB.out
       have q4' : ((we4.setCell ⟨b, 0, none⟩ (.int .i64 0)).setCell ⟨b + 1, 36, none⟩ (.int .i64 16385)).cell? ⟨b + 3, 36, none⟩ = some (.int .i64 300) := blk_cell (i := 36) (v := .int .i64 300) (hs6.2.2 3 lc rfl) HQ36.out
       generalize (we4.setCell ⟨b, 0, none⟩ (.int .i64 0)).setCell ⟨b + 1, 36, none⟩ (.int .i64 16385) = w6 at *
       refine wpList_build_one rfl 22 31 (.tmp 20) rfl Tryd.underlying22 infoAdK (by decide) (adCs ⟨1, 5⟩) rfl (by decide) rfl ?_
       obtain ⟨w7, hw7, k7, hb7, s7⟩ := alloc_facts w6 (adCs ⟨1, 5⟩).toArray 31
       obtain ⟨B, hB⟩ : ∃ B, w6.heap.size = B := ⟨_, rfl⟩
       have hs7 := hs6.same k7
       rw [hB] at hb7 s7
       rw [hw7, hB]
       have HS7 := Lib.hid hs7; have HBC := Lib.hid hb7
       have hbp := buildPtC B
       obtain ⟨pc, hpc⟩ : ∃ x, ptCs (.slice (some ⟨B, 0, none⟩) 1 1) pC = x := ⟨_, rfl⟩
       have hplc : pc.length = 35 := by rw [← hpc]; rfl
       have hpo := oneCell_pt (oa := some ⟨B, 0, none⟩) (n := 1) (ca := 1) pC
       rw [hpc] at hbp hpo
       have HPO := Lib.hid hpo; have HPC := Lib.hid hpc
       clear hs6 hs7 k7 hb7 s7 hw7 hB q1 q2 q4 q4' f1 f2 f4 hpo hpc hbz)
    | ((with_reducible show wpList _ _ _ (⟨none, .store 26 (.tmp 23) (.tmp 22), _, _, _, _⟩ :: _) _ _)
       refine wpList_store_agg rfl 26 (.tmp 23) (.tmp 22) rfl (b + 2) 1 pc (by first | rfl | (simp only [Act.eval, Nat.add_assoc]; rfl)) (by rw [← HPC.out]; rfl) lc.toArray _ (HS7.out.2.2 2 lc rfl) (by rw [hplc, List.size_toArray, hll]; omega) (sizePtL hplc) HPO.out ?_
       intro w8 hb8 hk8
       obtain ⟨cC, hcC⟩ : ∃ x, ubCs (.slice (some ⟨B, 0, none⟩) 1 1) uC = x := ⟨_, rfl⟩
       have hlC : cC.length = 69 := by rw [← hcC]; rfl
       have hsp : spl lc.toArray 1 pc = cC.toArray := by rw [← hcC, ← HLC.out, ← HPC.out]; exact splC B
       rw [hsp] at hb8
       have HS8 : Hid (KS w w8 b [cA, cB, cC, lc]) := Lib.hid (HS7.out.set (i := 2) hk8 hb8)
       have HBC := Lib.hid (hk8.blk HBC.out (fun e => by
         subst e
         have h7 := HS7.out.2.2 2 lc rfl
         rw [HBC.out] at h7
         cases h7))
       have q4 := blk_cell (i := 36) (v := .int .i64 300) (HS8.out.2.2 3 lc rfl) HQ36.out
       have f4 := blk_free (HS8.out.2.2 3 lc rfl) 36
       have HCC := Lib.hid hcC
       clear hb8 hk8 hsp hcC hbp)
    | ((with_reducible show wpList _ _ _ (⟨some 25, .load 28 (.tmp 1), _, _, _, _⟩ :: _) _ _)
       have hs9 : KS w (w8.setCell ⟨b + 3, 36, none⟩ (.int .i64 0)) b [cA, cB, cC, cD] := HS8.out.put (i := 3) rfl 36 (.int .i64 0) HSD.out
       have hbc9 : (w8.setCell ⟨b + 3, 36, none⟩ (.int .i64 0)).heap[B]? = _ := (heap_setCell_other w8 ⟨b + 3, 36, none⟩ B (.int .i64 0) (fun e => by
         have e' : B = b + 3 := e
         subst e'
         have h7 := HS8.out.2.2 3 lc rfl
         rw [HBC.out] at h7
         cases h7)).trans HBC.out
       generalize w8.setCell ⟨b + 3, 36, none⟩ (.int .i64 0) = w9 at *
       have HS := Lib.hid hs9; have HBC := Lib.hid hbc9
       clear hs9 hbc9 q4 f4
       refine wpList_load_mid rfl 28 (.tmp 1) rfl b 0 rfl cA _ (rangeAt_whole (HS.out.2.2 0 cA rfl)) ubUnder rfl (sizeUbL hlA) ?_))
  refine (checkK uA _ w9 (ubV_flat _ _ _) HCA.out (n := 2) (by rw [uA_may]; rfl)).mono ?_
  rintro e wa ⟨rfl, hk⟩
  have HS := Lib.hid (HS.out.same hk)
  have HBC := Lib.hid (hk.blk HBC.out id)
  clear hk
  go_wp2_with (first
    | (refine wpList_load_g (by rfl) 28 (.tmp 2) rfl (b + 1) 0 (by first | rfl | (simp only [Act.eval, Nat.add_assoc]; rfl)) cB _ (rangeAt_whole (HS.out.2.2 1 cB rfl)) ubUnder rfl (sizeUbL hlB) ?_))
  refine (checkK uB _ wa (ubV_flat _ _ _) HCB.out (n := 2) (by rw [uB_may]; rfl)).mono ?_
  rintro e wb ⟨rfl, hk⟩
  have HS := Lib.hid (HS.out.same hk)
  have HBC := Lib.hid (hk.blk HBC.out id)
  clear hk
  go_wp2_with (first
    | (refine wpList_load_g (by rfl) 28 (.tmp 3) rfl (b + 2) 0 (by first | rfl | (simp only [Act.eval, Nat.add_assoc]; rfl)) cC _ (rangeAt_whole (HS.out.2.2 2 cC rfl)) ubUnder rfl (sizeUbL hlC) ?_))
  refine (checkK uC _ wb ⟨⟨rdC HBC.out, uC_ads, rfl⟩, rfl⟩ HCC.out (n := 2) (by rw [uC_may]; rfl)).mono ?_
  rintro e wc ⟨rfl, hk⟩
  have HS := Lib.hid (HS.out.same hk)
  have HBC := Lib.hid (hk.blk HBC.out id)
  clear hk
  go_wp2_with fail
  refine (C1.out _).mono ?_
  rintro e wd ⟨rfl, hk⟩
  have HS := Lib.hid (HS.out.same hk)
  have HBC := Lib.hid (hk.blk HBC.out id)
  clear hk
  go_wp2_with fail
  refine (checkK oneUb _ wd (ubV_one _) HLC.out (n := 0) (by rw [oneUb_may]; rfl)).mono ?_
  rintro e we ⟨rfl, hk⟩
  have HS := Lib.hid (HS.out.same hk)
  have HBC := Lib.hid (hk.blk HBC.out id)
  clear hk
  go_wp2_with (first
    | (refine wpList_make_one rfl (.const (.int .i64 256)) (.const (.int .i64 256)) 36 rfl we.heap.size 5 _ 1 Tryd.underlying36 infoU8 rfl 256 rfl rfl (by decide) (by decide) (Nat.le_refl _) ?_; intro wm hom hkm; have HOM := Lib.hid hom; have HKM := Lib.hid hkm; clear hom hkm))
  have HS := Lib.hid (HS.out.same HKM.out)
  have HBC := Lib.hid (HKM.out.blk HBC.out id)
  obtain ⟨z6, hz6⟩ : ∃ l, List.replicate 256 (0 : UInt8) = l := ⟨_, rfl⟩
  have e6 : (unpackU z6).2 = 6 := by rw [← hz6]; exact unpackU_zeros
  have hr6 := rd_zerosU HOM.out
  rw [hz6] at hr6
  have hl6 : z6.length ≤ 65536 := by rw [← hz6, List.length_replicate]; omega
  have E6 := Lib.hid e6
  clear e6 hz6 HOM
  refine ((uunpack_any wm aF aR (HG.out.keep HS.out.2.1) _ z6 hr6 hl6).mono fun e w' h => UUnpackPost.V h).mono ?_
  rintro e wl ⟨vm, rfl, hu_, ho_, hk⟩
  rw [E6.out]
  have HS := Lib.hid (HS.out.same hk)
  have HBC := Lib.hid (hk.blk HBC.out id)
  clear hk
  obtain ⟨am, cm, hv_, -, -⟩ := hu_.root.rd.form
  have hv2_ : vm = .slice am ((unpackU z6).1).root.addrs.length cm := hv_
  clear hv_
  subst hv2_
  have hlm := ubCs_len (v := .slice am ((unpackU z6).1).root.addrs.length cm) hu_.root.sum hu_.pool
  have HCm := Lib.hid (oneCell_ub (oa := am) (n := ((unpackU z6).1).root.addrs.length) (ca := cm) ((unpackU z6).1))
  have HUm := Lib.hid hu_
  obtain ⟨lcm, hlcm⟩ : ∃ x, ubCs (.slice am ((unpackU z6).1).root.addrs.length cm) ((unpackU z6).1) = x := ⟨_, rfl⟩
  rw [hlcm] at hlm HCm
  try rw [hlcm]
  have HLCm := Lib.hid hlcm
  clear hlcm
  clear hu_
  clear ho_
  go_wp2_with (first
    | ((with_reducible show wpList _ _ _ (⟨_, .alloc 28, _, _, _, _⟩ :: _) _ _); refine wpList_alloc_at rfl 28 rfl _ HZV.out zc.toArray rfl ?_)
    | ((with_reducible show wpList _ _ _ (⟨none, .store 28 (.tmp 6) (.tmp 46), _, _, _, _⟩ :: _) _ _)
       refine wpList_store_agg rfl 28 (.tmp 6) (.tmp 46) rfl wl.heap.size 0 lcm rfl rfl zc.toArray _ (heap_alloc_new _ _) (by rw [hlm, List.size_toArray, hzl]; exact Nat.le_refl _) (sizeUbL hlm) HCm.out ?_
       intro wm hb5 hk5
       rw [spl_whole _ _ (by rw [hlm, List.size_toArray, hzl])] at hb5
       have hkb : Keep noBlk wl wm := ((Keep.refl noBlk wl).alloc _).trans' hk5 (fun _ _ h => h.elim) (fun i hi e => by omega)
       clear hk5
       obtain ⟨bm, hb_⟩ : ∃ b, wl.heap.size = b := ⟨_, rfl⟩
       rw [hb_] at hb5 ⊢
       have HBSm := Lib.hid hb_; clear hb_
       have HBm := Lib.hid hb5; clear hb5))
  have HS := Lib.hid (HS.out.same hkb)
  have HBC := Lib.hid (hkb.blk HBC.out id)
  clear hkb
  clear hr6 hl6
  refine ((uunpack_any wm aF aR (HG.out.keep HS.out.2.1) (.slice none 0 0) [] (Rd.nil _ _) (by decide)).mono fun e w' h => UUnpackPost.V h).mono ?_
  rintro e wn ⟨vr, rfl, hu_, ho_, hk⟩
  rw [unpackU_nil]
  have HS := Lib.hid (HS.out.same hk)
  have HBC := Lib.hid (hk.blk HBC.out id)
  have HBm := Lib.hid (hk.blk HBm.out id)
  clear hk
  obtain ⟨ar, cr, hv_, -, -⟩ := hu_.root.rd.form
  have hv2_ : vr = .slice ar ((unpackU []).1).root.addrs.length cr := hv_
  clear hv_
  subst hv2_
  have hlr := ubCs_len (v := .slice ar ((unpackU []).1).root.addrs.length cr) hu_.root.sum hu_.pool
  have HCr := Lib.hid (oneCell_ub (oa := ar) (n := ((unpackU []).1).root.addrs.length) (ca := cr) ((unpackU []).1))
  have HUr := Lib.hid hu_
  obtain ⟨lcr, hlcr⟩ : ∃ x, ubCs (.slice ar ((unpackU []).1).root.addrs.length cr) ((unpackU []).1) = x := ⟨_, rfl⟩
  rw [hlcr] at hlr HCr
  try rw [hlcr]
  have HLCr := Lib.hid hlcr
  clear hlcr
  clear hu_
  clear ho_
  go_wp2_with (first
    | ((with_reducible show wpList _ _ _ (⟨_, .alloc 28, _, _, _, _⟩ :: _) _ _); refine wpList_alloc_at rfl 28 rfl _ HZV.out zc.toArray rfl ?_)
    | ((with_reducible show wpList _ _ _ (⟨none, .store 28 (.tmp 8) (.tmp 50), _, _, _, _⟩ :: _) _ _)
       refine wpList_store_agg rfl 28 (.tmp 8) (.tmp 50) rfl wn.heap.size 0 lcr rfl rfl zc.toArray _ (heap_alloc_new _ _) (by rw [hlr, List.size_toArray, hzl]; exact Nat.le_refl _) (sizeUbL hlr) HCr.out ?_
       intro wo hb5 hk5
       rw [spl_whole _ _ (by rw [hlr, List.size_toArray, hzl])] at hb5
       have hkb : Keep noBlk wn wo := ((Keep.refl noBlk wn).alloc _).trans' hk5 (fun _ _ h => h.elim) (fun i hi e => by omega)
       clear hk5
       obtain ⟨br, hb_⟩ : ∃ b, wn.heap.size = b := ⟨_, rfl⟩
       rw [hb_] at hb5 ⊢
       have HBSr := Lib.hid hb_; clear hb_
       have HBr := Lib.hid hb5; clear hb5)
    | (refine wpList_make_one rfl (.const (.int .i64 256)) (.const (.int .i64 256)) 36 rfl wo.heap.size 5 _ 1 Tryd.underlying36 infoU8 rfl 256 rfl rfl (by decide) (by decide) (Nat.le_refl _) ?_; intro w15 ho15 hk15; have HO15 := Lib.hid ho15; have HK15W := Lib.hid hk15; clear ho15 hk15))
  have HS := Lib.hid (HS.out.same hkb)
  have HBC := Lib.hid (hkb.blk HBC.out id)
  have HBm := Lib.hid (hkb.blk HBm.out id)
  clear hkb
  obtain ⟨g, hg⟩ : ∃ g, wo.heap.size = g := ⟨_, rfl⟩
  have hwg : w.heap.size ≤ g := by have := HS.out.2.1.size; omega
  have hbg : b + 3 < g := by have := lt_of_block (HS.out.2.2 3 cD rfl); omega
  have ho15 := HO15.out
  rw [hg] at ho15 ⊢
  have hb15 : w15.heap[g]? = some (.cells ((List.replicate 0 (1 : UInt8) ++ List.replicate (256 - 0) 0).map vb).toArray 5 (0, 0)) := by
    rcases ho15.2 with ⟨h, -⟩ | ⟨g', cap', cur, h, hb, hh, h1, h2, h3, h4⟩
    · cases h
    · cases h
      rw [hh]
      have : cur = ((List.replicate 0 (1 : UInt8) ++ List.replicate (256 - 0) 0).map vb).toArray := by
        apply Array.ext'
        rw [List.toList_toArray, ← List.take_of_length_le (l := cur.toList) (i := 256 * 1) (by simp [h3]), h4]
        simp [vb]
      rw [this]
  have HB15 := Lib.hid hb15
  have HKL := Lib.hid (HS.out.2.1.trans HK15W.out)
  have HBD := Lib.hid (HK15W.out.blk (HS.out.2.2 3 cD rfl) id)
  clear hb15 ho15 hg HO15 HS
  go_loopw [11] (fun i wr => ∃ j : Nat, j ≤ 256 ∧ i = .int .i64 j ∧ Hid (wr.heap[g]? = some (.cells ((List.replicate j (1 : UInt8) ++ List.replicate (256 - j) 0).map vb).toArray 5 (0, 0))) ∧ Hid (wr.heap[b + 3]? = some (.cells cD.toArray 28 (0, 0))) ∧ Hid (Keep noBlk w wr)) (fun i _ => 256 - (intOf i).toNat)
  case atStart => exact ⟨0, by omega, rfl, HB15, HBD, HKL⟩
  case round =>
  obtain ⟨j, hj, rfl, HB, HBD, HK⟩ := hrel
  by_cases hlt : j < 256
  · have hc := blk_cell (i := j) (v := .int .u8 0) HB.out (by rw [List.getElem?_toArray, List.getElem?_map, List.getElem?_append_right (by simp), List.length_replicate, Nat.sub_self, List.getElem?_replicate, if_pos (by omega)]; rfl)
    have hf := blk_free HB.out j
    have hset := set_blk HB.out j (.int .u8 1)
    have HSS : Hid ((wr.setCell ⟨g, j, none⟩ (.int .u8 1)).heap[g]? = some (.cells ((List.replicate (j + 1) (1 : UInt8) ++ List.replicate (256 - (j + 1)) 0).map vb).toArray 5 (0, 0))) := by
      rw [List.setIfInBounds_toArray, show (Value.int .u8 1) = vb 1 from rfl, ← List.map_set, ones_stepU hlt] at hset
      exact Lib.hid hset
    have HKS : Hid (Keep noBlk w (wr.setCell ⟨g, j, none⟩ (.int .u8 1))) := Lib.hid (HK.out.setCell (p := ⟨g, j, none⟩) (fun h => by have h' : g < w.heap.size := h; omega) _)
    have HDS : Hid ((wr.setCell ⟨g, j, none⟩ (.int .u8 1)).heap[b + 3]? = some (.cells cD.toArray 28 (0, 0))) := Lib.hid ((heap_setCell_other wr ⟨g, j, none⟩ (b + 3) (.int .u8 1) (by show b + 3 ≠ g; omega)).trans HBD.out)
    clear hset
    go_wp2_with fail
    go_roundw
    case rel => exact ⟨j + 1, by omega, by go_num, HSS, HDS, HKS⟩
    case measure => simp [intOf]; omega
  · obtain rfl : j = 256 := by omega
    obtain ⟨z1, hz1⟩ : ∃ l, List.replicate 256 (1 : UInt8) = l := ⟨_, rfl⟩
    have e1 : (unpackU z1).2 = 11 := by rw [← hz1]; exact unpackU_ones
    have hl1 : z1.length = 256 := by rw [← hz1, List.length_replicate]
    have hrd : Rd wr 1 (.slice (some ⟨g, 0, none⟩) 256 256) z1.length (z1.map vb) := by
      have h0 := HB.out
      rw [show (List.replicate 256 (1 : UInt8) ++ List.replicate (256 - 256) 0) = List.replicate 256 1 by simp, hz1] at h0
      exact rd_blk (n := 256) (size := 1) h0 (by rw [List.length_map, hl1]) (by unfold maxLen; omega) |> fun h => by rw [hl1]; exact h
    have HRD := Lib.hid hrd; have E1 := Lib.hid e1; have HL1 := Lib.hid hl1
    clear hrd e1 hl1 hz1 HB
    go_wp2_with fail
    refine ((uunpack_any wr aF aR (HG.out.keep HK.out) _ z1 HRD.out (by rw [HL1.out]; omega)).mono fun e w' h => UUnpackPost.V h).mono ?_
    rintro e wq41 ⟨vu, rfl, hu_, ho_, hk⟩
    rw [E1.out]
    clear HRD
    have HBD := Lib.hid (hk.blk HBD.out id)
    have HK := Lib.hid (HK.out.trans hk)
    clear hk
    obtain ⟨au, cu, hv_, -, -⟩ := hu_.root.rd.form
    have hv2_ : vu = .slice au ((unpackU z1).1).root.addrs.length cu := hv_
    clear hv_
    subst hv2_
    have hlu := ubCs_len (v := .slice au ((unpackU z1).1).root.addrs.length cu) hu_.root.sum hu_.pool
    have HCu := Lib.hid (oneCell_ub (oa := au) (n := ((unpackU z1).1).root.addrs.length) (ca := cu) ((unpackU z1).1))
    have HUu := Lib.hid hu_
    obtain ⟨lcu, hlcu⟩ : ∃ x, ubCs (.slice au ((unpackU z1).1).root.addrs.length cu) ((unpackU z1).1) = x := ⟨_, rfl⟩
    rw [hlcu] at hlu HCu
    try rw [hlcu]
    have HLCu := Lib.hid hlcu
    clear hlcu
    clear hu_
    clear ho_
    go_wp2_with (first
      | ((with_reducible show wpList _ _ _ (⟨_, .alloc 28, _, _, _, _⟩ :: _) _ _); refine wpList_alloc_at rfl 28 rfl _ HZV.out zc.toArray rfl ?_)
      | ((with_reducible show wpList _ _ _ (⟨none, .store 28 (.tmp 12) (.tmp 65), _, _, _, _⟩ :: _) _ _)
         refine wpList_store_agg rfl 28 (.tmp 12) (.tmp 65) rfl wq41.heap.size 0 lcu rfl rfl zc.toArray _ (heap_alloc_new _ _) (by rw [hlu, List.size_toArray, hzl]; exact Nat.le_refl _) (sizeUbL hlu) HCu.out ?_
         intro wq42 hb5 hk5
         rw [spl_whole _ _ (by rw [hlu, List.size_toArray, hzl])] at hb5
         have hkb : Keep noBlk wq41 wq42 := ((Keep.refl noBlk wq41).alloc _).trans' hk5 (fun _ _ h => h.elim) (fun i hi e => by omega)
         clear hk5
         obtain ⟨bu, hb_⟩ : ∃ b, wq41.heap.size = b := ⟨_, rfl⟩
         rw [hb_] at hb5 ⊢
         have HBSu := Lib.hid hb_; clear hb_
         have HBu := Lib.hid hb5; clear hb5))
    have HBD := Lib.hid (hkb.blk HBD.out id)
    have HK := Lib.hid (HK.out.trans hkb)
    clear hkb
    have CW := Lib.hid (show ∀ wx, Keep noBlk wq42 wx → Calls Tryd.prog 9 #[] wx (TherePost wx true) from fun wx k => awakeB_any wx aF aR (HG.out.keep (HK.out.trans k)))
    have CS := Lib.hid (show ∀ wx, Calls Tryd.prog 10 #[.agg lc.toArray, .agg cD.toArray] wx (TherePost wx false) from fun wx => by
      have h := sameU_any wx (.slice none 0 0) (.slice none 0 0) oneUb uD (ubV_one wx) (ubV_flat wx _ _)
      rw [uD_eq] at h
      rw [← HLC.out, ← HCD.out]
      exact h)
    obtain ⟨S, hS0⟩ : ∃ S : World → Prop, S = fun w' => Keep noBlk wq42 w' := ⟨_, rfl⟩
    have HSE := Lib.hid (show ∀ w', S w' → Keep noBlk wq42 w' from fun w' h => by rw [hS0] at h; exact h)
    have HSI := Lib.hid (show ∀ w', Keep noBlk wq42 w' → S w' from fun w' h => by rw [hS0]; exact h)
    have hS : S wq42.drew := by rw [hS0]; exact (Keep.refl _ _).drew
    clear hS0
    refine wp_region_held (S := S) (by kernel_rfl) ?_
    change wpAnyH _ _ _ _ _ _ _ _ wq42.drew
    generalize wq42.drew = wq43 at hS ⊢
    refine wpAnyH_one (k := 0) rfl (by kernel_rfl) ?_
    go_wp2_with fail
    refine (CW.out wq43 (HSE.out _ hS)).mono ?_
    rintro e wq44 ⟨rfl, hk⟩
    have hS1 := HSI.out _ ((HSE.out _ hS).trans hk)
    clear hS hk
    go_wp2_with fail
    refine ⟨hS1, ?_⟩
    refine wpAnyH_take (i := 1) (v := .bool true) rfl (by kernel_rfl) (by kernel_rfl) (by kernel_rfl) (fun _ _ _ h => h) (.inl ⟨by rfl, fun _ _ => rfl⟩) hS1 ?_
    simp only [Act.put, List.setIfInBounds_toArray, List.set_cons_zero, List.set_cons_succ, List.getElem_toArray, List.getElem_cons_succ, List.getElem_cons_zero]
    refine wpAnyH_take (i := 2) (v := .bool true) rfl (by kernel_rfl) (by kernel_rfl) (by kernel_rfl) (fun _ _ _ h => h) (.inl ⟨by rfl, fun _ _ => rfl⟩) hS1 ?_
    simp only [Act.put, List.setIfInBounds_toArray, List.set_cons_zero, List.set_cons_succ, List.getElem_toArray, List.getElem_cons_succ, List.getElem_cons_zero]
    refine wpAnyH_take (i := 3) (v := .bool true) rfl (by kernel_rfl) (by kernel_rfl) (by kernel_rfl) (fun _ _ _ h => h) (.inl ⟨by rfl, fun _ _ => rfl⟩) hS1 ?_
    simp only [Act.put, List.setIfInBounds_toArray, List.set_cons_zero, List.set_cons_succ, List.getElem_toArray, List.getElem_cons_succ, List.getElem_cons_zero]
    refine wpAnyH_take (i := 4) (v := .bool true) rfl (by kernel_rfl) (by kernel_rfl) (by kernel_rfl) (fun _ _ _ h => h) (.inl ⟨by rfl, fun _ _ => rfl⟩) hS1 ?_
    simp only [Act.put, List.setIfInBounds_toArray, List.set_cons_zero, List.set_cons_succ, List.getElem_toArray, List.getElem_cons_succ, List.getElem_cons_zero]
    refine wpAnyH_take (i := 5) (v := .int .i64 6) rfl (by kernel_rfl) (by kernel_rfl) (by kernel_rfl) (fun _ _ _ h => h) (.inl ⟨by rfl, fun _ _ => rfl⟩) hS1 ?_
    simp only [Act.put, List.setIfInBounds_toArray, List.set_cons_zero, List.set_cons_succ, List.getElem_toArray, List.getElem_cons_succ, List.getElem_cons_zero]
    refine wpAnyH_take (i := 6) (v := .bool true) rfl (by kernel_rfl) (by kernel_rfl) (by kernel_rfl) (fun _ _ _ h => h) (.inl ⟨by rfl, fun _ _ => by go_simp⟩) hS1 ?_
    simp only [Act.put, List.setIfInBounds_toArray, List.set_cons_zero, List.set_cons_succ, List.getElem_toArray, List.getElem_cons_succ, List.getElem_cons_zero]
    refine wpAnyH_take (i := 7) (v := .bool true) rfl (by kernel_rfl) (by kernel_rfl) (by kernel_rfl) (fun _ _ _ h => h) (.inl ⟨by rfl, fun _ _ => rfl⟩) hS1 ?_
    simp only [Act.put, List.setIfInBounds_toArray, List.set_cons_zero, List.set_cons_succ, List.getElem_toArray, List.getElem_cons_succ, List.getElem_cons_zero]
    refine wpAnyH_take (i := 8) (v := .bool true) rfl (by kernel_rfl) (by kernel_rfl) (by kernel_rfl) (fun _ _ _ h => h) (.inl ⟨by rfl, fun _ _ => rfl⟩) hS1 ?_
    simp only [Act.put, List.setIfInBounds_toArray, List.set_cons_zero, List.set_cons_succ, List.getElem_toArray, List.getElem_cons_succ, List.getElem_cons_zero]
    refine wpAnyH_take (i := 9) (v := .int .i64 4) rfl (by kernel_rfl) (by kernel_rfl) (by kernel_rfl) (fun _ _ _ h => h) (.inl ⟨by rfl, fun _ _ => rfl⟩) hS1 ?_
    simp only [Act.put, List.setIfInBounds_toArray, List.set_cons_zero, List.set_cons_succ, List.getElem_toArray, List.getElem_cons_succ, List.getElem_cons_zero]
    refine wpAnyH_take (i := 10) (v := .bool true) rfl (by kernel_rfl) (by kernel_rfl) (by kernel_rfl) (fun _ _ _ h => h) (.inl ⟨by rfl, fun _ _ => by go_simp⟩) hS1 ?_
    simp only [Act.put, List.setIfInBounds_toArray, List.set_cons_zero, List.set_cons_succ, List.getElem_toArray, List.getElem_cons_succ, List.getElem_cons_zero]
    refine wpAnyH_take (i := 11) (v := .bool true) rfl (by kernel_rfl) (by kernel_rfl) (by kernel_rfl) (fun _ _ _ h => h) (.inl ⟨by rfl, fun _ _ => rfl⟩) hS1 ?_
    simp only [Act.put, List.setIfInBounds_toArray, List.set_cons_zero, List.set_cons_succ, List.getElem_toArray, List.getElem_cons_succ, List.getElem_cons_zero]
    refine wpAnyH_take (i := 12) (v := .bool true) rfl (by kernel_rfl) (by kernel_rfl) (by kernel_rfl) (fun _ _ _ h => h) (.inl ⟨by rfl, fun _ _ => rfl⟩) hS1 ?_
    simp only [Act.put, List.setIfInBounds_toArray, List.set_cons_zero, List.set_cons_succ, List.getElem_toArray, List.getElem_cons_succ, List.getElem_cons_zero]
    refine wpAnyH_take (i := 13) (v := .int .i64 11) rfl (by kernel_rfl) (by kernel_rfl) (by kernel_rfl) (fun _ _ _ h => h) (.inl ⟨by rfl, fun _ _ => rfl⟩) hS1 ?_
    simp only [Act.put, List.setIfInBounds_toArray, List.set_cons_zero, List.set_cons_succ, List.getElem_toArray, List.getElem_cons_succ, List.getElem_cons_zero]
    refine wpAnyH_take (i := 14) (v := .bool true) rfl (by kernel_rfl) (by kernel_rfl) (by kernel_rfl) (fun _ _ _ h => h) (.inl ⟨by rfl, fun _ _ => by go_simp⟩) hS1 ?_
    simp only [Act.put, List.setIfInBounds_toArray, List.set_cons_zero, List.set_cons_succ, List.getElem_toArray, List.getElem_cons_succ, List.getElem_cons_zero]
    refine wpAnyH_take (i := 15) (v := .bool true) rfl (by kernel_rfl) (by kernel_rfl) (by kernel_rfl) (fun _ _ _ h => h) (.inl ⟨by rfl, fun _ _ => rfl⟩) hS1 ?_
    simp only [Act.put, List.setIfInBounds_toArray, List.set_cons_zero, List.set_cons_succ, List.getElem_toArray, List.getElem_cons_succ, List.getElem_cons_zero]
    refine wpAnyH_take (i := 16) (v := .bool true) rfl (by kernel_rfl) (by kernel_rfl) (by kernel_rfl) (fun _ _ _ h => h) (.inl ⟨by rfl, fun _ _ => rfl⟩) hS1 ?_
    simp only [Act.put, List.setIfInBounds_toArray, List.set_cons_zero, List.set_cons_succ, List.getElem_toArray, List.getElem_cons_succ, List.getElem_cons_zero]
    refine wpAnyH_take (i := 18) (v := .agg (cD).toArray) rfl (by kernel_rfl) (by kernel_rfl) (by kernel_rfl) (fun _ _ _ h => h) (yieldsIf_load_mid (by rfl) 28 (.tmp 4) rfl (b + 3) (0) rfl (cD) _ (fun w' h => rangeAt_whole ((HSE.out w' h).blk HBD.out id)) ubUnder rfl (sizeUbL hlD)) hS1 ?_
    simp only [Act.put, List.setIfInBounds_toArray, List.set_cons_zero, List.set_cons_succ, List.getElem_toArray, List.getElem_cons_succ, List.getElem_cons_zero]
    refine wpAnyH_one (k := 17) rfl (by kernel_rfl) ?_
    go_wp2_with fail
    refine (C1.out wq44).mono ?_
    rintro e wq45 ⟨rfl, hk⟩
    have hS2 := HSI.out _ ((HSE.out _ hS1).trans hk)
    clear hS1 hk
    go_wp2_with fail
    refine ⟨hS2, ?_⟩
    refine wpAnyH_one (k := 19) rfl (by kernel_rfl) ?_
    go_wp2_with fail
    refine (CS.out wq45).mono ?_
    rintro e wq46 ⟨rfl, hk⟩
    have hS3 := HSI.out _ ((HSE.out _ hS2).trans hk)
    clear hS2 hk
    go_wp2_with fail
    refine ⟨hS3, ?_⟩
    refine wpAnyH_take (i := 20) (v := .bool true) rfl (by kernel_rfl) (by kernel_rfl) (by kernel_rfl) (fun _ _ _ h => h) (.inl ⟨by rfl, fun _ _ => by go_simp⟩) hS3 ?_
    simp only [Act.put, List.setIfInBounds_toArray, List.set_cons_zero, List.set_cons_succ, List.getElem_toArray, List.getElem_cons_succ, List.getElem_cons_zero]
    refine wpAnyH_take (i := 21) (v := .bool true) rfl (by kernel_rfl) (by kernel_rfl) (by kernel_rfl) (fun _ _ _ h => h) (.inl ⟨by rfl, fun _ _ => rfl⟩) hS3 ?_
    simp only [Act.put, List.setIfInBounds_toArray, List.set_cons_zero, List.set_cons_succ, List.getElem_toArray, List.getElem_cons_succ, List.getElem_cons_zero]
    refine wpAnyH_take (i := 22) (v := .bool true) rfl (by kernel_rfl) (by kernel_rfl) (by kernel_rfl) (fun _ _ _ h => h) (.inl ⟨by rfl, fun _ _ => rfl⟩) hS3 ?_
    simp only [Act.put, List.setIfInBounds_toArray, List.set_cons_zero, List.getElem_toArray, List.getElem_cons_succ, List.getElem_cons_zero]
    refine wpAnyH_done (by kernel_rfl) ?_ _
    have HKR := Lib.hid (HSE.out _ hS3)
    clear hS3 HSE HSI
    have HBD := Lib.hid (HKR.out.blk HBD.out id)
    have HK := Lib.hid (HK.out.trans HKR.out)
    have HBu := Lib.hid (HKR.out.blk HBu.out id)
    go_wp2_with fail
    go_ret
    exact ⟨rfl, HK.out⟩
end Go.Proofs.YtpkpopgcfgonoaaDoor
