/-
  Block pointers and uberblocks: Check.
  Conditions: those told.
-/
import Derived.Test.YtaiicjhnhbkgmaaGreatDoorPtrA
namespace Go.Proofs.YtaiicjhnhbkgmaaGreatDoor
open Go.RowKit Go.Maps Go.ChangeMaps
set_option maxRecDepth 100000
set_option linter.unusedVariables false

def OkPost (w : World) (b : Bool) (e : Ending) (w' : World) : Prop := e = .returned (.int .i64 (if b then 0 else 2)) ∧ Keep noBlk w w'
theorem OkPost.end {w w' : World} {b : Bool} {e : Ending} (h : OkPost w b e w') : e = .returned (.int .i64 (if b then 0 else 2)) ∧ Keep noBlk w w' := h
theorem hole_may {p : Pt} (h : p.hole = true) : p.may = true := by unfold Pt.may; rw [h]; rfl
set_option maxHeartbeats 8000000 in
theorem checkP_any (w : World) (v : Value) (p : Pt) (h0 : PtV w v p) : Calls Tryz.prog 40 #[.agg (ptCs v p).toArray] w (OkPost w p.may) := by
  obtain ⟨oa, ca, hv, -, -⟩ := h0.rd.form
  subst hv
  obtain ⟨n, hn⟩ : ∃ x, p.addrs.length = x := ⟨_, rfl⟩
  have HN := Lib.hid hn
  have h0n := h0
  rw [hn] at h0n ⊢
  obtain ⟨w1, hw1, hk1, hb_0, hs1⟩ := alloc_facts w (ptCs (.slice oa n ca) p).toArray 34
  obtain ⟨a0, b0, c0, d0⟩ := pt_mem (rangeAt_whole hb_0)
  have HP0 := Lib.hid d0; have HB0 := Lib.hid hb_0
  have hl0 : (ptCs (.slice oa n ca) p).length = 35 := ptCs_len h0n.sum
  simp only [Nat.zero_add] at a0 b0 c0
  have HC := Lib.hid (hole_any w1 _ p (h0n.keep hk1 fun _ _ => id))
  have HM := Lib.hid (fun wx (k : Keep noBlk w wx) => may_any wx (.slice oa n ca) p.addrs h0.ads (h0n.rd.keep k fun _ _ => id))
  have HK := Lib.hid hk1
  obtain ⟨t1, ht1⟩ : ∃ t : Bool, p.hole = t := ⟨_, rfl⟩
  obtain ⟨t2, ht2⟩ : ∃ t : Bool, adsB p.addrs = t := ⟨_, rfl⟩
  obtain ⟨t3, ht3⟩ : ∃ t : Bool, decide (1 ≤ p.birth) = t := ⟨_, rfl⟩
  obtain ⟨t4, ht4⟩ : ∃ t : Bool, decide (p.birth ≤ 2147483648) = t := ⟨_, rfl⟩
  obtain ⟨t5, ht5⟩ : ∃ t : Bool, decide (0 ≤ p.level) = t := ⟨_, rfl⟩
  obtain ⟨t6, ht6⟩ : ∃ t : Bool, decide (p.level ≤ 3) = t := ⟨_, rfl⟩
  have hs : p.may = (t1 || (t2 && (t3 && t4 && t5 && t6))) := by unfold Pt.may Pt.numsB; rw [ht1, ht2, ht3, ht4, ht5, ht6]
  have HS := Lib.hid hs
  rw [ht1] at HC
  rw [ht2] at HM
  have HR0 := Lib.hid (rangeAt_whole HB0.out)
  obtain ⟨pc, hpc⟩ : ∃ x, ptCs (.slice oa n ca) p = x := ⟨_, rfl⟩
  have Hpc := Lib.hid hpc
  rw [hpc] at hw1 HC hl0 HR0 ⊢
  clear hs ht1 ht2 hb_0 d0 hk1 hs1 hpc h0 h0n HB0 HP0 hn
  cases t1
  · skip
    cases t2
    · skip
      go_enter Tryz.func40, Tryz.ntmps40
      go_wp2_with (first
        | ((with_reducible show wpList _ _ _ (⟨_, .load 34 (.tmp 1), _, _, _, _⟩ :: _) _ _); refine wpList_load_g (by rfl) 34 (.tmp 1) rfl (w.heap.size) 0 rfl pc _ HR0.out ptUnder rfl (sizePtL hl0) ?_))
      refine HC.out.mono ?_
      rintro e w2 ⟨rfl, hk⟩
      have HR0 := Lib.hid (hk.rangeAt HR0.out); have HK := Lib.hid (HK.out.trans hk)
      obtain ⟨a0, b0, c0, -⟩ := pt_mem (p := p) (v := (.slice oa n ca)) (by rw [Hpc.out]; exact HR0.out)
      simp only [Nat.zero_add] at a0 b0 c0
      clear hk
      go_wp2_with fail
      refine (HM.out _ HK.out).mono ?_
      rintro e w3 ⟨rfl, hk⟩
      have HR0 := Lib.hid (hk.rangeAt HR0.out); have HK := Lib.hid (HK.out.trans hk)
      obtain ⟨a0, b0, c0, -⟩ := pt_mem (p := p) (v := (.slice oa n ca)) (by rw [Hpc.out]; exact HR0.out)
      simp only [Nat.zero_add] at a0 b0 c0
      clear hk
      go_wp2_with fail
      go_ret
      exact ⟨by rw [HS.out]; rfl, HK.out⟩
    · skip
      cases t3
      · have y3 : decide (p.birth < 1) = true := decide_eq_true (by have := of_decide_eq_false ht3; omega)
        go_enter Tryz.func40, Tryz.ntmps40
        go_wp2_with (first
          | ((with_reducible show wpList _ _ _ (⟨_, .load 34 (.tmp 1), _, _, _, _⟩ :: _) _ _); refine wpList_load_g (by rfl) 34 (.tmp 1) rfl (w.heap.size) 0 rfl pc _ HR0.out ptUnder rfl (sizePtL hl0) ?_))
        refine HC.out.mono ?_
        rintro e w2 ⟨rfl, hk⟩
        have HR0 := Lib.hid (hk.rangeAt HR0.out); have HK := Lib.hid (HK.out.trans hk)
        obtain ⟨a0, b0, c0, -⟩ := pt_mem (p := p) (v := (.slice oa n ca)) (by rw [Hpc.out]; exact HR0.out)
        simp only [Nat.zero_add] at a0 b0 c0
        clear hk
        go_wp2_with fail
        refine (HM.out _ HK.out).mono ?_
        rintro e w3 ⟨rfl, hk⟩
        have HR0 := Lib.hid (hk.rangeAt HR0.out); have HK := Lib.hid (HK.out.trans hk)
        obtain ⟨a0, b0, c0, -⟩ := pt_mem (p := p) (v := (.slice oa n ca)) (by rw [Hpc.out]; exact HR0.out)
        simp only [Nat.zero_add] at a0 b0 c0
        clear hk
        go_wp2_with fail
        go_ret
        exact ⟨by rw [HS.out]; rfl, HK.out⟩
      · have y3 : decide (p.birth < 1) = false := decide_eq_false (by have := of_decide_eq_true ht3; omega)
        cases t4
        · have y4 : decide (2147483648 < p.birth) = true := decide_eq_true (by have := of_decide_eq_false ht4; omega)
          go_enter Tryz.func40, Tryz.ntmps40
          go_wp2_with (first
            | ((with_reducible show wpList _ _ _ (⟨_, .load 34 (.tmp 1), _, _, _, _⟩ :: _) _ _); refine wpList_load_g (by rfl) 34 (.tmp 1) rfl (w.heap.size) 0 rfl pc _ HR0.out ptUnder rfl (sizePtL hl0) ?_))
          refine HC.out.mono ?_
          rintro e w2 ⟨rfl, hk⟩
          have HR0 := Lib.hid (hk.rangeAt HR0.out); have HK := Lib.hid (HK.out.trans hk)
          obtain ⟨a0, b0, c0, -⟩ := pt_mem (p := p) (v := (.slice oa n ca)) (by rw [Hpc.out]; exact HR0.out)
          simp only [Nat.zero_add] at a0 b0 c0
          clear hk
          go_wp2_with fail
          refine (HM.out _ HK.out).mono ?_
          rintro e w3 ⟨rfl, hk⟩
          have HR0 := Lib.hid (hk.rangeAt HR0.out); have HK := Lib.hid (HK.out.trans hk)
          obtain ⟨a0, b0, c0, -⟩ := pt_mem (p := p) (v := (.slice oa n ca)) (by rw [Hpc.out]; exact HR0.out)
          simp only [Nat.zero_add] at a0 b0 c0
          clear hk
          go_wp2_with fail
          go_ret
          exact ⟨by rw [HS.out]; rfl, HK.out⟩
        · have y4 : decide (2147483648 < p.birth) = false := decide_eq_false (by have := of_decide_eq_true ht4; omega)
          cases t5
          · have y5 : decide (p.level < 0) = true := decide_eq_true (by have := of_decide_eq_false ht5; omega)
            go_enter Tryz.func40, Tryz.ntmps40
            go_wp2_with (first
              | ((with_reducible show wpList _ _ _ (⟨_, .load 34 (.tmp 1), _, _, _, _⟩ :: _) _ _); refine wpList_load_g (by rfl) 34 (.tmp 1) rfl (w.heap.size) 0 rfl pc _ HR0.out ptUnder rfl (sizePtL hl0) ?_))
            refine HC.out.mono ?_
            rintro e w2 ⟨rfl, hk⟩
            have HR0 := Lib.hid (hk.rangeAt HR0.out); have HK := Lib.hid (HK.out.trans hk)
            obtain ⟨a0, b0, c0, -⟩ := pt_mem (p := p) (v := (.slice oa n ca)) (by rw [Hpc.out]; exact HR0.out)
            simp only [Nat.zero_add] at a0 b0 c0
            clear hk
            go_wp2_with fail
            refine (HM.out _ HK.out).mono ?_
            rintro e w3 ⟨rfl, hk⟩
            have HR0 := Lib.hid (hk.rangeAt HR0.out); have HK := Lib.hid (HK.out.trans hk)
            obtain ⟨a0, b0, c0, -⟩ := pt_mem (p := p) (v := (.slice oa n ca)) (by rw [Hpc.out]; exact HR0.out)
            simp only [Nat.zero_add] at a0 b0 c0
            clear hk
            go_wp2_with fail
            go_ret
            exact ⟨by rw [HS.out]; rfl, HK.out⟩
          · have y5 : decide (p.level < 0) = false := decide_eq_false (by have := of_decide_eq_true ht5; omega)
            cases t6
            · have y6 : decide (3 < p.level) = true := decide_eq_true (by have := of_decide_eq_false ht6; omega)
              go_enter Tryz.func40, Tryz.ntmps40
              go_wp2_with (first
                | ((with_reducible show wpList _ _ _ (⟨_, .load 34 (.tmp 1), _, _, _, _⟩ :: _) _ _); refine wpList_load_g (by rfl) 34 (.tmp 1) rfl (w.heap.size) 0 rfl pc _ HR0.out ptUnder rfl (sizePtL hl0) ?_))
              refine HC.out.mono ?_
              rintro e w2 ⟨rfl, hk⟩
              have HR0 := Lib.hid (hk.rangeAt HR0.out); have HK := Lib.hid (HK.out.trans hk)
              obtain ⟨a0, b0, c0, -⟩ := pt_mem (p := p) (v := (.slice oa n ca)) (by rw [Hpc.out]; exact HR0.out)
              simp only [Nat.zero_add] at a0 b0 c0
              clear hk
              go_wp2_with fail
              refine (HM.out _ HK.out).mono ?_
              rintro e w3 ⟨rfl, hk⟩
              have HR0 := Lib.hid (hk.rangeAt HR0.out); have HK := Lib.hid (HK.out.trans hk)
              obtain ⟨a0, b0, c0, -⟩ := pt_mem (p := p) (v := (.slice oa n ca)) (by rw [Hpc.out]; exact HR0.out)
              simp only [Nat.zero_add] at a0 b0 c0
              clear hk
              go_wp2_with fail
              go_ret
              exact ⟨by rw [HS.out]; rfl, HK.out⟩
            · have y6 : decide (3 < p.level) = false := decide_eq_false (by have := of_decide_eq_true ht6; omega)
              go_enter Tryz.func40, Tryz.ntmps40
              go_wp2_with (first
                | ((with_reducible show wpList _ _ _ (⟨_, .load 34 (.tmp 1), _, _, _, _⟩ :: _) _ _); refine wpList_load_g (by rfl) 34 (.tmp 1) rfl (w.heap.size) 0 rfl pc _ HR0.out ptUnder rfl (sizePtL hl0) ?_))
              refine HC.out.mono ?_
              rintro e w2 ⟨rfl, hk⟩
              have HR0 := Lib.hid (hk.rangeAt HR0.out); have HK := Lib.hid (HK.out.trans hk)
              obtain ⟨a0, b0, c0, -⟩ := pt_mem (p := p) (v := (.slice oa n ca)) (by rw [Hpc.out]; exact HR0.out)
              simp only [Nat.zero_add] at a0 b0 c0
              clear hk
              go_wp2_with fail
              refine (HM.out _ HK.out).mono ?_
              rintro e w3 ⟨rfl, hk⟩
              have HR0 := Lib.hid (hk.rangeAt HR0.out); have HK := Lib.hid (HK.out.trans hk)
              obtain ⟨a0, b0, c0, -⟩ := pt_mem (p := p) (v := (.slice oa n ca)) (by rw [Hpc.out]; exact HR0.out)
              simp only [Nat.zero_add] at a0 b0 c0
              clear hk
              go_wp2_with fail
              go_ret
              exact ⟨by rw [HS.out]; rfl, HK.out⟩
  · skip
    go_enter Tryz.func40, Tryz.ntmps40
    go_wp2_with (first
      | ((with_reducible show wpList _ _ _ (⟨_, .load 34 (.tmp 1), _, _, _, _⟩ :: _) _ _); refine wpList_load_g (by rfl) 34 (.tmp 1) rfl (w.heap.size) 0 rfl pc _ HR0.out ptUnder rfl (sizePtL hl0) ?_))
    refine HC.out.mono ?_
    rintro e w2 ⟨rfl, hk⟩
    have HR0 := Lib.hid (hk.rangeAt HR0.out); have HK := Lib.hid (HK.out.trans hk)
    obtain ⟨a0, b0, c0, -⟩ := pt_mem (p := p) (v := (.slice oa n ca)) (by rw [Hpc.out]; exact HR0.out)
    simp only [Nat.zero_add] at a0 b0 c0
    clear hk
    go_wp2_with fail
    go_ret
    exact ⟨by rw [HS.out]; rfl, HK.out⟩

set_option maxHeartbeats 8000000 in
theorem rcheckP_any (w : World) (v : Value) (p : Pt) (h0 : PtV w v p) : Calls Tryz.prog 58 #[.agg (ptCs v p).toArray] w (OkPost w p.may) := by
  obtain ⟨oa, ca, hv, -, -⟩ := h0.rd.form
  subst hv
  obtain ⟨n, hn⟩ : ∃ x, p.addrs.length = x := ⟨_, rfl⟩
  have HN := Lib.hid hn
  have h0n := h0
  rw [hn] at h0n ⊢
  obtain ⟨w1, hw1, hk1, hb_0, hs1⟩ := alloc_facts w (ptCs (.slice oa n ca) p).toArray 34
  obtain ⟨a0, b0, c0, d0⟩ := pt_mem (rangeAt_whole hb_0)
  have HP0 := Lib.hid d0; have HB0 := Lib.hid hb_0
  have hl0 : (ptCs (.slice oa n ca) p).length = 35 := ptCs_len h0n.sum
  simp only [Nat.zero_add] at a0 b0 c0
  have HC := Lib.hid (rhole_any w1 _ p (h0n.keep hk1 fun _ _ => id))
  have HM := Lib.hid (fun wx (k : Keep noBlk w wx) => addrs_any wx (.slice oa n ca) p.addrs (h0n.rd.keep k fun _ _ => id))
  have HK := Lib.hid hk1
  obtain ⟨t1, ht1⟩ : ∃ t : Bool, p.hole = t := ⟨_, rfl⟩
  obtain ⟨t2, ht2⟩ : ∃ t : Bool, adsB p.addrs = t := ⟨_, rfl⟩
  obtain ⟨t3, ht3⟩ : ∃ t : Bool, decide (1 ≤ p.birth) = t := ⟨_, rfl⟩
  obtain ⟨t4, ht4⟩ : ∃ t : Bool, decide (p.birth ≤ 2147483648) = t := ⟨_, rfl⟩
  obtain ⟨t5, ht5⟩ : ∃ t : Bool, decide (0 ≤ p.level) = t := ⟨_, rfl⟩
  obtain ⟨t6, ht6⟩ : ∃ t : Bool, decide (p.level ≤ 3) = t := ⟨_, rfl⟩
  have hs : p.may = (t1 || (t2 && (t3 && t4 && t5 && t6))) := by unfold Pt.may Pt.numsB; rw [ht1, ht2, ht3, ht4, ht5, ht6]
  have HS := Lib.hid hs
  rw [ht1] at HC
  rw [ht2] at HM
  have HR0 := Lib.hid (rangeAt_whole HB0.out)
  obtain ⟨pc, hpc⟩ : ∃ x, ptCs (.slice oa n ca) p = x := ⟨_, rfl⟩
  have Hpc := Lib.hid hpc
  rw [hpc] at hw1 HC hl0 HR0 ⊢
  clear hs ht1 ht2 hb_0 d0 hk1 hs1 hpc h0 h0n HB0 HP0 hn
  cases t1
  · skip
    cases t2
    · skip
      go_enter Tryz.func58, Tryz.ntmps58
      go_wp2_with (first
        | ((with_reducible show wpList _ _ _ (⟨_, .load 34 (.tmp 1), _, _, _, _⟩ :: _) _ _); refine wpList_load_g (by rfl) 34 (.tmp 1) rfl (w.heap.size) 0 rfl pc _ HR0.out ptUnder rfl (sizePtL hl0) ?_))
      refine HC.out.mono ?_
      rintro e w2 ⟨rfl, hk⟩
      have HR0 := Lib.hid (hk.rangeAt HR0.out); have HK := Lib.hid (HK.out.trans hk)
      obtain ⟨a0, b0, c0, -⟩ := pt_mem (p := p) (v := (.slice oa n ca)) (by rw [Hpc.out]; exact HR0.out)
      simp only [Nat.zero_add] at a0 b0 c0
      clear hk
      go_wp2_with fail
      refine (HM.out _ HK.out).mono ?_
      rintro e w3 ⟨rfl, hk⟩
      have HR0 := Lib.hid (hk.rangeAt HR0.out); have HK := Lib.hid (HK.out.trans hk)
      obtain ⟨a0, b0, c0, -⟩ := pt_mem (p := p) (v := (.slice oa n ca)) (by rw [Hpc.out]; exact HR0.out)
      simp only [Nat.zero_add] at a0 b0 c0
      clear hk
      go_wp2_with fail
      go_ret
      exact ⟨by rw [HS.out]; rfl, HK.out⟩
    · skip
      cases t3
      · have y3 : decide (p.birth < 1) = true := decide_eq_true (by have := of_decide_eq_false ht3; omega)
        go_enter Tryz.func58, Tryz.ntmps58
        go_wp2_with (first
          | ((with_reducible show wpList _ _ _ (⟨_, .load 34 (.tmp 1), _, _, _, _⟩ :: _) _ _); refine wpList_load_g (by rfl) 34 (.tmp 1) rfl (w.heap.size) 0 rfl pc _ HR0.out ptUnder rfl (sizePtL hl0) ?_))
        refine HC.out.mono ?_
        rintro e w2 ⟨rfl, hk⟩
        have HR0 := Lib.hid (hk.rangeAt HR0.out); have HK := Lib.hid (HK.out.trans hk)
        obtain ⟨a0, b0, c0, -⟩ := pt_mem (p := p) (v := (.slice oa n ca)) (by rw [Hpc.out]; exact HR0.out)
        simp only [Nat.zero_add] at a0 b0 c0
        clear hk
        go_wp2_with fail
        refine (HM.out _ HK.out).mono ?_
        rintro e w3 ⟨rfl, hk⟩
        have HR0 := Lib.hid (hk.rangeAt HR0.out); have HK := Lib.hid (HK.out.trans hk)
        obtain ⟨a0, b0, c0, -⟩ := pt_mem (p := p) (v := (.slice oa n ca)) (by rw [Hpc.out]; exact HR0.out)
        simp only [Nat.zero_add] at a0 b0 c0
        clear hk
        go_wp2_with fail
        go_ret
        exact ⟨by rw [HS.out]; rfl, HK.out⟩
      · have y3 : decide (p.birth < 1) = false := decide_eq_false (by have := of_decide_eq_true ht3; omega)
        cases t4
        · have y4 : decide (2147483648 < p.birth) = true := decide_eq_true (by have := of_decide_eq_false ht4; omega)
          go_enter Tryz.func58, Tryz.ntmps58
          go_wp2_with (first
            | ((with_reducible show wpList _ _ _ (⟨_, .load 34 (.tmp 1), _, _, _, _⟩ :: _) _ _); refine wpList_load_g (by rfl) 34 (.tmp 1) rfl (w.heap.size) 0 rfl pc _ HR0.out ptUnder rfl (sizePtL hl0) ?_))
          refine HC.out.mono ?_
          rintro e w2 ⟨rfl, hk⟩
          have HR0 := Lib.hid (hk.rangeAt HR0.out); have HK := Lib.hid (HK.out.trans hk)
          obtain ⟨a0, b0, c0, -⟩ := pt_mem (p := p) (v := (.slice oa n ca)) (by rw [Hpc.out]; exact HR0.out)
          simp only [Nat.zero_add] at a0 b0 c0
          clear hk
          go_wp2_with fail
          refine (HM.out _ HK.out).mono ?_
          rintro e w3 ⟨rfl, hk⟩
          have HR0 := Lib.hid (hk.rangeAt HR0.out); have HK := Lib.hid (HK.out.trans hk)
          obtain ⟨a0, b0, c0, -⟩ := pt_mem (p := p) (v := (.slice oa n ca)) (by rw [Hpc.out]; exact HR0.out)
          simp only [Nat.zero_add] at a0 b0 c0
          clear hk
          go_wp2_with fail
          go_ret
          exact ⟨by rw [HS.out]; rfl, HK.out⟩
        · have y4 : decide (2147483648 < p.birth) = false := decide_eq_false (by have := of_decide_eq_true ht4; omega)
          cases t5
          · have y5 : decide (p.level < 0) = true := decide_eq_true (by have := of_decide_eq_false ht5; omega)
            go_enter Tryz.func58, Tryz.ntmps58
            go_wp2_with (first
              | ((with_reducible show wpList _ _ _ (⟨_, .load 34 (.tmp 1), _, _, _, _⟩ :: _) _ _); refine wpList_load_g (by rfl) 34 (.tmp 1) rfl (w.heap.size) 0 rfl pc _ HR0.out ptUnder rfl (sizePtL hl0) ?_))
            refine HC.out.mono ?_
            rintro e w2 ⟨rfl, hk⟩
            have HR0 := Lib.hid (hk.rangeAt HR0.out); have HK := Lib.hid (HK.out.trans hk)
            obtain ⟨a0, b0, c0, -⟩ := pt_mem (p := p) (v := (.slice oa n ca)) (by rw [Hpc.out]; exact HR0.out)
            simp only [Nat.zero_add] at a0 b0 c0
            clear hk
            go_wp2_with fail
            refine (HM.out _ HK.out).mono ?_
            rintro e w3 ⟨rfl, hk⟩
            have HR0 := Lib.hid (hk.rangeAt HR0.out); have HK := Lib.hid (HK.out.trans hk)
            obtain ⟨a0, b0, c0, -⟩ := pt_mem (p := p) (v := (.slice oa n ca)) (by rw [Hpc.out]; exact HR0.out)
            simp only [Nat.zero_add] at a0 b0 c0
            clear hk
            go_wp2_with fail
            go_ret
            exact ⟨by rw [HS.out]; rfl, HK.out⟩
          · have y5 : decide (p.level < 0) = false := decide_eq_false (by have := of_decide_eq_true ht5; omega)
            cases t6
            · have y6 : decide (3 < p.level) = true := decide_eq_true (by have := of_decide_eq_false ht6; omega)
              go_enter Tryz.func58, Tryz.ntmps58
              go_wp2_with (first
                | ((with_reducible show wpList _ _ _ (⟨_, .load 34 (.tmp 1), _, _, _, _⟩ :: _) _ _); refine wpList_load_g (by rfl) 34 (.tmp 1) rfl (w.heap.size) 0 rfl pc _ HR0.out ptUnder rfl (sizePtL hl0) ?_))
              refine HC.out.mono ?_
              rintro e w2 ⟨rfl, hk⟩
              have HR0 := Lib.hid (hk.rangeAt HR0.out); have HK := Lib.hid (HK.out.trans hk)
              obtain ⟨a0, b0, c0, -⟩ := pt_mem (p := p) (v := (.slice oa n ca)) (by rw [Hpc.out]; exact HR0.out)
              simp only [Nat.zero_add] at a0 b0 c0
              clear hk
              go_wp2_with fail
              refine (HM.out _ HK.out).mono ?_
              rintro e w3 ⟨rfl, hk⟩
              have HR0 := Lib.hid (hk.rangeAt HR0.out); have HK := Lib.hid (HK.out.trans hk)
              obtain ⟨a0, b0, c0, -⟩ := pt_mem (p := p) (v := (.slice oa n ca)) (by rw [Hpc.out]; exact HR0.out)
              simp only [Nat.zero_add] at a0 b0 c0
              clear hk
              go_wp2_with fail
              go_ret
              exact ⟨by rw [HS.out]; rfl, HK.out⟩
            · have y6 : decide (3 < p.level) = false := decide_eq_false (by have := of_decide_eq_true ht6; omega)
              go_enter Tryz.func58, Tryz.ntmps58
              go_wp2_with (first
                | ((with_reducible show wpList _ _ _ (⟨_, .load 34 (.tmp 1), _, _, _, _⟩ :: _) _ _); refine wpList_load_g (by rfl) 34 (.tmp 1) rfl (w.heap.size) 0 rfl pc _ HR0.out ptUnder rfl (sizePtL hl0) ?_))
              refine HC.out.mono ?_
              rintro e w2 ⟨rfl, hk⟩
              have HR0 := Lib.hid (hk.rangeAt HR0.out); have HK := Lib.hid (HK.out.trans hk)
              obtain ⟨a0, b0, c0, -⟩ := pt_mem (p := p) (v := (.slice oa n ca)) (by rw [Hpc.out]; exact HR0.out)
              simp only [Nat.zero_add] at a0 b0 c0
              clear hk
              go_wp2_with fail
              refine (HM.out _ HK.out).mono ?_
              rintro e w3 ⟨rfl, hk⟩
              have HR0 := Lib.hid (hk.rangeAt HR0.out); have HK := Lib.hid (HK.out.trans hk)
              obtain ⟨a0, b0, c0, -⟩ := pt_mem (p := p) (v := (.slice oa n ca)) (by rw [Hpc.out]; exact HR0.out)
              simp only [Nat.zero_add] at a0 b0 c0
              clear hk
              go_wp2_with fail
              go_ret
              exact ⟨by rw [HS.out]; rfl, HK.out⟩
  · skip
    go_enter Tryz.func58, Tryz.ntmps58
    go_wp2_with (first
      | ((with_reducible show wpList _ _ _ (⟨_, .load 34 (.tmp 1), _, _, _, _⟩ :: _) _ _); refine wpList_load_g (by rfl) 34 (.tmp 1) rfl (w.heap.size) 0 rfl pc _ HR0.out ptUnder rfl (sizePtL hl0) ?_))
    refine HC.out.mono ?_
    rintro e w2 ⟨rfl, hk⟩
    have HR0 := Lib.hid (hk.rangeAt HR0.out); have HK := Lib.hid (HK.out.trans hk)
    obtain ⟨a0, b0, c0, -⟩ := pt_mem (p := p) (v := (.slice oa n ca)) (by rw [Hpc.out]; exact HR0.out)
    simp only [Nat.zero_add] at a0 b0 c0
    clear hk
    go_wp2_with fail
    go_ret
    exact ⟨by rw [HS.out]; rfl, HK.out⟩

set_option maxHeartbeats 16000000 in
theorem checkU_any (w : World) (v : Value) (u : Ub) (h0 : UbV w v u) : Calls Tryz.prog 16 #[.agg (ubCs v u).toArray] w (OkPost w u.may) := by
  obtain ⟨oa, ca, hv, -, -⟩ := h0.root.rd.form
  subst hv
  obtain ⟨n, hn⟩ : ∃ x, u.root.addrs.length = x := ⟨_, rfl⟩
  rw [hn] at h0 ⊢
  obtain ⟨w1, hw1, hk1, hb_0, hs1⟩ := alloc_facts w (ubCs (.slice oa n ca) u).toArray 36
  obtain ⟨a0, r0, b0, d0⟩ := ub_mem h0.root.sum (rangeAt_whole hb_0)
  obtain ⟨e0, f0, g0, -⟩ := pt_mem r0
  have HP0 := Lib.hid d0; have HR0 := Lib.hid r0; have HB0 := Lib.hid hb_0
  have hl0 : (ptCs (.slice oa n ca) u.root).length = 35 := ptCs_len h0.root.sum
  have hm0 : (u.pool.map vb).length = 32 := by rw [List.length_map]; exact h0.pool
  simp only [Nat.zero_add] at a0 b0 e0 f0 g0
  have HC := Lib.hid (fun wx (k : Keep noBlk w wx) => hole_any wx (.slice oa n ca) u.root (h0.root.keep k fun _ _ => id))
  have HM := Lib.hid (fun wx (k : Keep noBlk w wx) => checkP_any wx (.slice oa n ca) u.root (h0.root.keep k fun _ _ => id))
  have HK := Lib.hid hk1
  have hhm := @hole_may u.root
  obtain ⟨t1, ht1⟩ : ∃ t : Bool, decide (1 ≤ u.txg) = t := ⟨_, rfl⟩
  obtain ⟨t2, ht2⟩ : ∃ t : Bool, decide (u.txg ≤ 2147483648) = t := ⟨_, rfl⟩
  obtain ⟨t3, ht3⟩ : ∃ t : Bool, decide (0 ≤ u.len) = t := ⟨_, rfl⟩
  obtain ⟨t4, ht4⟩ : ∃ t : Bool, decide (u.len ≤ 16384) = t := ⟨_, rfl⟩
  obtain ⟨t5, ht5⟩ : ∃ t : Bool, u.root.hole = t := ⟨_, rfl⟩
  obtain ⟨t6, ht6⟩ : ∃ t : Bool, u.root.may = t := ⟨_, rfl⟩
  obtain ⟨t7, ht7⟩ : ∃ t : Bool, (u.root.level == 3) = t := ⟨_, rfl⟩
  obtain ⟨t8, ht8⟩ : ∃ t : Bool, decide (u.root.birth ≤ u.txg) = t := ⟨_, rfl⟩
  have hs : u.may = (t1 && t2 && t3 && t4 && (t5 || (t6 && t7 && t8))) := by unfold Ub.may; rw [ht1, ht2, ht3, ht4, ht5, ht6, ht7, ht8]
  have HS := Lib.hid hs
  rw [ht5] at HC hhm
  rw [ht6] at HM hhm
  have HHM := Lib.hid hhm
  obtain ⟨pc, hpc⟩ : ∃ x, ptCs (.slice oa n ca) u.root = x := ⟨_, rfl⟩
  have Hpc := Lib.hid hpc
  obtain ⟨uc, huc⟩ : ∃ x, ubCs (.slice oa n ca) u = x := ⟨_, rfl⟩
  have Huc := Lib.hid huc
  rw [hpc] at HC HM hl0 HR0
  rw [huc] at hw1 HB0 ⊢
  have HSU := Lib.hid h0.root.sum
  have HUB := Lib.hid (rangeAt_whole HB0.out)
  clear hs ht5 ht6 hb_0 d0 r0 hk1 hs1 hpc huc h0 HB0 HP0 hhm hm0 hn
  cases t1
  · have y1 : decide (u.txg < 1) = true := decide_eq_true (by have := of_decide_eq_false ht1; omega)
    go_enter Tryz.func16, Tryz.ntmps16
    go_wp2_with fail
    go_ret
    exact ⟨by rw [HS.out]; rfl, HK.out⟩
  · have y1 : decide (u.txg < 1) = false := decide_eq_false (by have := of_decide_eq_true ht1; omega)
    cases t2
    · have y2 : decide (2147483648 < u.txg) = true := decide_eq_true (by have := of_decide_eq_false ht2; omega)
      go_enter Tryz.func16, Tryz.ntmps16
      go_wp2_with fail
      go_ret
      exact ⟨by rw [HS.out]; rfl, HK.out⟩
    · have y2 : decide (2147483648 < u.txg) = false := decide_eq_false (by have := of_decide_eq_true ht2; omega)
      cases t3
      · have y3 : decide (u.len < 0) = true := decide_eq_true (by have := of_decide_eq_false ht3; omega)
        go_enter Tryz.func16, Tryz.ntmps16
        go_wp2_with fail
        go_ret
        exact ⟨by rw [HS.out]; rfl, HK.out⟩
      · have y3 : decide (u.len < 0) = false := decide_eq_false (by have := of_decide_eq_true ht3; omega)
        cases t4
        · have y4 : decide (16384 < u.len) = true := decide_eq_true (by have := of_decide_eq_false ht4; omega)
          go_enter Tryz.func16, Tryz.ntmps16
          go_wp2_with fail
          go_ret
          exact ⟨by rw [HS.out]; rfl, HK.out⟩
        · have y4 : decide (16384 < u.len) = false := decide_eq_false (by have := of_decide_eq_true ht4; omega)
          cases t5
          · skip
            cases t6
            · skip
              go_enter Tryz.func16, Tryz.ntmps16
              go_wp2_with (first
                | ((with_reducible show wpList _ _ _ (⟨_, .load 34 (.tmp 23), _, _, _, _⟩ :: _) _ _); refine wpList_load_g (by rfl) 34 (.tmp 23) rfl (w.heap.size) 1 rfl pc _ HR0.out ptUnder rfl (sizePtL hl0) ?_))
              refine (HC.out _ HK.out).mono ?_
              rintro e w2 ⟨rfl, hk⟩
              have HR0 := Lib.hid (hk.rangeAt HR0.out); have HUB := Lib.hid (hk.rangeAt HUB.out); have HK := Lib.hid (HK.out.trans hk)
              obtain ⟨a0, -, b0, -⟩ := ub_mem (u := u) (v := .slice oa n ca) HSU.out (by rw [Huc.out]; exact HUB.out)
              obtain ⟨e0, f0, g0, -⟩ := pt_mem (p := u.root) (v := .slice oa n ca) (by rw [Hpc.out]; exact HR0.out)
              simp only [Nat.zero_add] at a0 b0 e0 f0 g0
              clear hk
              go_wp2_with (first
                | ((with_reducible show wpList _ _ _ (⟨_, .load 34 (.tmp 27), _, _, _, _⟩ :: _) _ _); refine wpList_load_g (by rfl) 34 (.tmp 27) rfl (w.heap.size) 1 rfl pc _ HR0.out ptUnder rfl (sizePtL hl0) ?_))
              refine (HM.out _ HK.out).mono ?_
              rintro e w3 ⟨rfl, hk⟩
              have HR0 := Lib.hid (hk.rangeAt HR0.out); have HUB := Lib.hid (hk.rangeAt HUB.out); have HK := Lib.hid (HK.out.trans hk)
              obtain ⟨a0, -, b0, -⟩ := ub_mem (u := u) (v := .slice oa n ca) HSU.out (by rw [Huc.out]; exact HUB.out)
              obtain ⟨e0, f0, g0, -⟩ := pt_mem (p := u.root) (v := .slice oa n ca) (by rw [Hpc.out]; exact HR0.out)
              simp only [Nat.zero_add] at a0 b0 e0 f0 g0
              clear hk
              go_wp2_with fail
              go_ret
              exact ⟨by rw [HS.out]; rfl, HK.out⟩
            · skip
              cases t7
              · have y7 : (u.root.level != 3) = true := by simp only [bne, ht7]; rfl
                go_enter Tryz.func16, Tryz.ntmps16
                go_wp2_with (first
                  | ((with_reducible show wpList _ _ _ (⟨_, .load 34 (.tmp 23), _, _, _, _⟩ :: _) _ _); refine wpList_load_g (by rfl) 34 (.tmp 23) rfl (w.heap.size) 1 rfl pc _ HR0.out ptUnder rfl (sizePtL hl0) ?_))
                refine (HC.out _ HK.out).mono ?_
                rintro e w2 ⟨rfl, hk⟩
                have HR0 := Lib.hid (hk.rangeAt HR0.out); have HUB := Lib.hid (hk.rangeAt HUB.out); have HK := Lib.hid (HK.out.trans hk)
                obtain ⟨a0, -, b0, -⟩ := ub_mem (u := u) (v := .slice oa n ca) HSU.out (by rw [Huc.out]; exact HUB.out)
                obtain ⟨e0, f0, g0, -⟩ := pt_mem (p := u.root) (v := .slice oa n ca) (by rw [Hpc.out]; exact HR0.out)
                simp only [Nat.zero_add] at a0 b0 e0 f0 g0
                clear hk
                go_wp2_with (first
                  | ((with_reducible show wpList _ _ _ (⟨_, .load 34 (.tmp 27), _, _, _, _⟩ :: _) _ _); refine wpList_load_g (by rfl) 34 (.tmp 27) rfl (w.heap.size) 1 rfl pc _ HR0.out ptUnder rfl (sizePtL hl0) ?_))
                refine (HM.out _ HK.out).mono ?_
                rintro e w3 ⟨rfl, hk⟩
                have HR0 := Lib.hid (hk.rangeAt HR0.out); have HUB := Lib.hid (hk.rangeAt HUB.out); have HK := Lib.hid (HK.out.trans hk)
                obtain ⟨a0, -, b0, -⟩ := ub_mem (u := u) (v := .slice oa n ca) HSU.out (by rw [Huc.out]; exact HUB.out)
                obtain ⟨e0, f0, g0, -⟩ := pt_mem (p := u.root) (v := .slice oa n ca) (by rw [Hpc.out]; exact HR0.out)
                simp only [Nat.zero_add] at a0 b0 e0 f0 g0
                clear hk
                go_wp2_with fail
                go_ret
                exact ⟨by rw [HS.out]; rfl, HK.out⟩
              · have y7 : (u.root.level != 3) = false := by simp only [bne, ht7]; rfl
                cases t8
                · have y8 : decide (u.txg < u.root.birth) = true := decide_eq_true (by have := of_decide_eq_false ht8; omega)
                  go_enter Tryz.func16, Tryz.ntmps16
                  go_wp2_with (first
                    | ((with_reducible show wpList _ _ _ (⟨_, .load 34 (.tmp 23), _, _, _, _⟩ :: _) _ _); refine wpList_load_g (by rfl) 34 (.tmp 23) rfl (w.heap.size) 1 rfl pc _ HR0.out ptUnder rfl (sizePtL hl0) ?_))
                  refine (HC.out _ HK.out).mono ?_
                  rintro e w2 ⟨rfl, hk⟩
                  have HR0 := Lib.hid (hk.rangeAt HR0.out); have HUB := Lib.hid (hk.rangeAt HUB.out); have HK := Lib.hid (HK.out.trans hk)
                  obtain ⟨a0, -, b0, -⟩ := ub_mem (u := u) (v := .slice oa n ca) HSU.out (by rw [Huc.out]; exact HUB.out)
                  obtain ⟨e0, f0, g0, -⟩ := pt_mem (p := u.root) (v := .slice oa n ca) (by rw [Hpc.out]; exact HR0.out)
                  simp only [Nat.zero_add] at a0 b0 e0 f0 g0
                  clear hk
                  go_wp2_with (first
                    | ((with_reducible show wpList _ _ _ (⟨_, .load 34 (.tmp 27), _, _, _, _⟩ :: _) _ _); refine wpList_load_g (by rfl) 34 (.tmp 27) rfl (w.heap.size) 1 rfl pc _ HR0.out ptUnder rfl (sizePtL hl0) ?_))
                  refine (HM.out _ HK.out).mono ?_
                  rintro e w3 ⟨rfl, hk⟩
                  have HR0 := Lib.hid (hk.rangeAt HR0.out); have HUB := Lib.hid (hk.rangeAt HUB.out); have HK := Lib.hid (HK.out.trans hk)
                  obtain ⟨a0, -, b0, -⟩ := ub_mem (u := u) (v := .slice oa n ca) HSU.out (by rw [Huc.out]; exact HUB.out)
                  obtain ⟨e0, f0, g0, -⟩ := pt_mem (p := u.root) (v := .slice oa n ca) (by rw [Hpc.out]; exact HR0.out)
                  simp only [Nat.zero_add] at a0 b0 e0 f0 g0
                  clear hk
                  go_wp2_with fail
                  go_ret
                  exact ⟨by rw [HS.out]; rfl, HK.out⟩
                · have y8 : decide (u.txg < u.root.birth) = false := decide_eq_false (by have := of_decide_eq_true ht8; omega)
                  go_enter Tryz.func16, Tryz.ntmps16
                  go_wp2_with (first
                    | ((with_reducible show wpList _ _ _ (⟨_, .load 34 (.tmp 23), _, _, _, _⟩ :: _) _ _); refine wpList_load_g (by rfl) 34 (.tmp 23) rfl (w.heap.size) 1 rfl pc _ HR0.out ptUnder rfl (sizePtL hl0) ?_))
                  refine (HC.out _ HK.out).mono ?_
                  rintro e w2 ⟨rfl, hk⟩
                  have HR0 := Lib.hid (hk.rangeAt HR0.out); have HUB := Lib.hid (hk.rangeAt HUB.out); have HK := Lib.hid (HK.out.trans hk)
                  obtain ⟨a0, -, b0, -⟩ := ub_mem (u := u) (v := .slice oa n ca) HSU.out (by rw [Huc.out]; exact HUB.out)
                  obtain ⟨e0, f0, g0, -⟩ := pt_mem (p := u.root) (v := .slice oa n ca) (by rw [Hpc.out]; exact HR0.out)
                  simp only [Nat.zero_add] at a0 b0 e0 f0 g0
                  clear hk
                  go_wp2_with (first
                    | ((with_reducible show wpList _ _ _ (⟨_, .load 34 (.tmp 27), _, _, _, _⟩ :: _) _ _); refine wpList_load_g (by rfl) 34 (.tmp 27) rfl (w.heap.size) 1 rfl pc _ HR0.out ptUnder rfl (sizePtL hl0) ?_))
                  refine (HM.out _ HK.out).mono ?_
                  rintro e w3 ⟨rfl, hk⟩
                  have HR0 := Lib.hid (hk.rangeAt HR0.out); have HUB := Lib.hid (hk.rangeAt HUB.out); have HK := Lib.hid (HK.out.trans hk)
                  obtain ⟨a0, -, b0, -⟩ := ub_mem (u := u) (v := .slice oa n ca) HSU.out (by rw [Huc.out]; exact HUB.out)
                  obtain ⟨e0, f0, g0, -⟩ := pt_mem (p := u.root) (v := .slice oa n ca) (by rw [Hpc.out]; exact HR0.out)
                  simp only [Nat.zero_add] at a0 b0 e0 f0 g0
                  clear hk
                  go_wp2_with fail
                  go_ret
                  exact ⟨by rw [HS.out]; rfl, HK.out⟩
          · skip
            go_enter Tryz.func16, Tryz.ntmps16
            go_wp2_with (first
              | ((with_reducible show wpList _ _ _ (⟨_, .load 34 (.tmp 23), _, _, _, _⟩ :: _) _ _); refine wpList_load_g (by rfl) 34 (.tmp 23) rfl (w.heap.size) 1 rfl pc _ HR0.out ptUnder rfl (sizePtL hl0) ?_))
            refine (HC.out _ HK.out).mono ?_
            rintro e w2 ⟨rfl, hk⟩
            have HR0 := Lib.hid (hk.rangeAt HR0.out); have HUB := Lib.hid (hk.rangeAt HUB.out); have HK := Lib.hid (HK.out.trans hk)
            obtain ⟨a0, -, b0, -⟩ := ub_mem (u := u) (v := .slice oa n ca) HSU.out (by rw [Huc.out]; exact HUB.out)
            obtain ⟨e0, f0, g0, -⟩ := pt_mem (p := u.root) (v := .slice oa n ca) (by rw [Hpc.out]; exact HR0.out)
            simp only [Nat.zero_add] at a0 b0 e0 f0 g0
            clear hk
            go_wp2_with fail
            go_ret
            exact ⟨by rw [HS.out]; rfl, HK.out⟩

set_option maxHeartbeats 16000000 in
theorem rcheckU_any (w : World) (v : Value) (u : Ub) (h0 : UbV w v u) : Calls Tryz.prog 34 #[.agg (ubCs v u).toArray] w (OkPost w u.may) := by
  obtain ⟨oa, ca, hv, -, -⟩ := h0.root.rd.form
  subst hv
  obtain ⟨n, hn⟩ : ∃ x, u.root.addrs.length = x := ⟨_, rfl⟩
  rw [hn] at h0 ⊢
  obtain ⟨w1, hw1, hk1, hb_0, hs1⟩ := alloc_facts w (ubCs (.slice oa n ca) u).toArray 36
  obtain ⟨a0, r0, b0, d0⟩ := ub_mem h0.root.sum (rangeAt_whole hb_0)
  obtain ⟨e0, f0, g0, -⟩ := pt_mem r0
  have HP0 := Lib.hid d0; have HR0 := Lib.hid r0; have HB0 := Lib.hid hb_0
  have hl0 : (ptCs (.slice oa n ca) u.root).length = 35 := ptCs_len h0.root.sum
  have hm0 : (u.pool.map vb).length = 32 := by rw [List.length_map]; exact h0.pool
  simp only [Nat.zero_add] at a0 b0 e0 f0 g0
  have HC := Lib.hid (fun wx (k : Keep noBlk w wx) => rhole_any wx (.slice oa n ca) u.root (h0.root.keep k fun _ _ => id))
  have HM := Lib.hid (fun wx (k : Keep noBlk w wx) => rcheckP_any wx (.slice oa n ca) u.root (h0.root.keep k fun _ _ => id))
  have HK := Lib.hid hk1
  have hhm := @hole_may u.root
  obtain ⟨t1, ht1⟩ : ∃ t : Bool, decide (1 ≤ u.txg) = t := ⟨_, rfl⟩
  obtain ⟨t2, ht2⟩ : ∃ t : Bool, decide (u.txg ≤ 2147483648) = t := ⟨_, rfl⟩
  obtain ⟨t3, ht3⟩ : ∃ t : Bool, decide (0 ≤ u.len) = t := ⟨_, rfl⟩
  obtain ⟨t4, ht4⟩ : ∃ t : Bool, decide (u.len ≤ 16384) = t := ⟨_, rfl⟩
  obtain ⟨t5, ht5⟩ : ∃ t : Bool, u.root.hole = t := ⟨_, rfl⟩
  obtain ⟨t6, ht6⟩ : ∃ t : Bool, u.root.may = t := ⟨_, rfl⟩
  obtain ⟨t7, ht7⟩ : ∃ t : Bool, (u.root.level == 3) = t := ⟨_, rfl⟩
  obtain ⟨t8, ht8⟩ : ∃ t : Bool, decide (u.root.birth ≤ u.txg) = t := ⟨_, rfl⟩
  have hs : u.may = (t1 && t2 && t3 && t4 && (t5 || (t6 && t7 && t8))) := by unfold Ub.may; rw [ht1, ht2, ht3, ht4, ht5, ht6, ht7, ht8]
  have HS := Lib.hid hs
  rw [ht5] at HC hhm
  rw [ht6] at HM hhm
  have HHM := Lib.hid hhm
  obtain ⟨pc, hpc⟩ : ∃ x, ptCs (.slice oa n ca) u.root = x := ⟨_, rfl⟩
  have Hpc := Lib.hid hpc
  obtain ⟨uc, huc⟩ : ∃ x, ubCs (.slice oa n ca) u = x := ⟨_, rfl⟩
  have Huc := Lib.hid huc
  rw [hpc] at HC HM hl0 HR0
  rw [huc] at hw1 HB0 ⊢
  have HSU := Lib.hid h0.root.sum
  have HUB := Lib.hid (rangeAt_whole HB0.out)
  clear hs ht5 ht6 hb_0 d0 r0 hk1 hs1 hpc huc h0 HB0 HP0 hhm hm0 hn
  cases t1
  · have y1 : decide (u.txg < 1) = true := decide_eq_true (by have := of_decide_eq_false ht1; omega)
    go_enter Tryz.func34, Tryz.ntmps34
    go_wp2_with fail
    go_ret
    exact ⟨by rw [HS.out]; rfl, HK.out⟩
  · have y1 : decide (u.txg < 1) = false := decide_eq_false (by have := of_decide_eq_true ht1; omega)
    cases t2
    · have y2 : decide (2147483648 < u.txg) = true := decide_eq_true (by have := of_decide_eq_false ht2; omega)
      go_enter Tryz.func34, Tryz.ntmps34
      go_wp2_with fail
      go_ret
      exact ⟨by rw [HS.out]; rfl, HK.out⟩
    · have y2 : decide (2147483648 < u.txg) = false := decide_eq_false (by have := of_decide_eq_true ht2; omega)
      cases t3
      · have y3 : decide (u.len < 0) = true := decide_eq_true (by have := of_decide_eq_false ht3; omega)
        go_enter Tryz.func34, Tryz.ntmps34
        go_wp2_with fail
        go_ret
        exact ⟨by rw [HS.out]; rfl, HK.out⟩
      · have y3 : decide (u.len < 0) = false := decide_eq_false (by have := of_decide_eq_true ht3; omega)
        cases t4
        · have y4 : decide (16384 < u.len) = true := decide_eq_true (by have := of_decide_eq_false ht4; omega)
          go_enter Tryz.func34, Tryz.ntmps34
          go_wp2_with fail
          go_ret
          exact ⟨by rw [HS.out]; rfl, HK.out⟩
        · have y4 : decide (16384 < u.len) = false := decide_eq_false (by have := of_decide_eq_true ht4; omega)
          cases t6
          · skip
            have h5 : t5 = false := Bool.eq_false_iff.2 (fun h => by have := HHM.out h; cases this)
            subst h5
            go_enter Tryz.func34, Tryz.ntmps34
            go_wp2_with (first
              | ((with_reducible show wpList _ _ _ (⟨_, .load 34 (.tmp 22), _, _, _, _⟩ :: _) _ _); refine wpList_load_g (by rfl) 34 (.tmp 22) rfl (w.heap.size) 1 rfl pc _ HR0.out ptUnder rfl (sizePtL hl0) ?_))
            refine (HM.out _ HK.out).mono ?_
            rintro e w2 ⟨rfl, hk⟩
            have HR0 := Lib.hid (hk.rangeAt HR0.out); have HUB := Lib.hid (hk.rangeAt HUB.out); have HK := Lib.hid (HK.out.trans hk)
            obtain ⟨a0, -, b0, -⟩ := ub_mem (u := u) (v := .slice oa n ca) HSU.out (by rw [Huc.out]; exact HUB.out)
            obtain ⟨e0, f0, g0, -⟩ := pt_mem (p := u.root) (v := .slice oa n ca) (by rw [Hpc.out]; exact HR0.out)
            simp only [Nat.zero_add] at a0 b0 e0 f0 g0
            clear hk
            go_wp2_with fail
            go_ret
            exact ⟨by rw [HS.out]; rfl, HK.out⟩
          · skip
            cases t5
            · skip
              cases t7
              · have y7 : (u.root.level != 3) = true := by simp only [bne, ht7]; rfl
                go_enter Tryz.func34, Tryz.ntmps34
                go_wp2_with (first
                  | ((with_reducible show wpList _ _ _ (⟨_, .load 34 (.tmp 22), _, _, _, _⟩ :: _) _ _); refine wpList_load_g (by rfl) 34 (.tmp 22) rfl (w.heap.size) 1 rfl pc _ HR0.out ptUnder rfl (sizePtL hl0) ?_))
                refine (HM.out _ HK.out).mono ?_
                rintro e w2 ⟨rfl, hk⟩
                have HR0 := Lib.hid (hk.rangeAt HR0.out); have HUB := Lib.hid (hk.rangeAt HUB.out); have HK := Lib.hid (HK.out.trans hk)
                obtain ⟨a0, -, b0, -⟩ := ub_mem (u := u) (v := .slice oa n ca) HSU.out (by rw [Huc.out]; exact HUB.out)
                obtain ⟨e0, f0, g0, -⟩ := pt_mem (p := u.root) (v := .slice oa n ca) (by rw [Hpc.out]; exact HR0.out)
                simp only [Nat.zero_add] at a0 b0 e0 f0 g0
                clear hk
                go_wp2_with (first
                  | ((with_reducible show wpList _ _ _ (⟨_, .load 34 (.tmp 27), _, _, _, _⟩ :: _) _ _); refine wpList_load_g (by rfl) 34 (.tmp 27) rfl (w.heap.size) 1 rfl pc _ HR0.out ptUnder rfl (sizePtL hl0) ?_))
                refine (HC.out _ HK.out).mono ?_
                rintro e w3 ⟨rfl, hk⟩
                have HR0 := Lib.hid (hk.rangeAt HR0.out); have HUB := Lib.hid (hk.rangeAt HUB.out); have HK := Lib.hid (HK.out.trans hk)
                obtain ⟨a0, -, b0, -⟩ := ub_mem (u := u) (v := .slice oa n ca) HSU.out (by rw [Huc.out]; exact HUB.out)
                obtain ⟨e0, f0, g0, -⟩ := pt_mem (p := u.root) (v := .slice oa n ca) (by rw [Hpc.out]; exact HR0.out)
                simp only [Nat.zero_add] at a0 b0 e0 f0 g0
                clear hk
                go_wp2_with fail
                go_ret
                exact ⟨by rw [HS.out]; rfl, HK.out⟩
              · have y7 : (u.root.level != 3) = false := by simp only [bne, ht7]; rfl
                cases t8
                · have y8 : decide (u.txg < u.root.birth) = true := decide_eq_true (by have := of_decide_eq_false ht8; omega)
                  go_enter Tryz.func34, Tryz.ntmps34
                  go_wp2_with (first
                    | ((with_reducible show wpList _ _ _ (⟨_, .load 34 (.tmp 22), _, _, _, _⟩ :: _) _ _); refine wpList_load_g (by rfl) 34 (.tmp 22) rfl (w.heap.size) 1 rfl pc _ HR0.out ptUnder rfl (sizePtL hl0) ?_))
                  refine (HM.out _ HK.out).mono ?_
                  rintro e w2 ⟨rfl, hk⟩
                  have HR0 := Lib.hid (hk.rangeAt HR0.out); have HUB := Lib.hid (hk.rangeAt HUB.out); have HK := Lib.hid (HK.out.trans hk)
                  obtain ⟨a0, -, b0, -⟩ := ub_mem (u := u) (v := .slice oa n ca) HSU.out (by rw [Huc.out]; exact HUB.out)
                  obtain ⟨e0, f0, g0, -⟩ := pt_mem (p := u.root) (v := .slice oa n ca) (by rw [Hpc.out]; exact HR0.out)
                  simp only [Nat.zero_add] at a0 b0 e0 f0 g0
                  clear hk
                  go_wp2_with (first
                    | ((with_reducible show wpList _ _ _ (⟨_, .load 34 (.tmp 27), _, _, _, _⟩ :: _) _ _); refine wpList_load_g (by rfl) 34 (.tmp 27) rfl (w.heap.size) 1 rfl pc _ HR0.out ptUnder rfl (sizePtL hl0) ?_))
                  refine (HC.out _ HK.out).mono ?_
                  rintro e w3 ⟨rfl, hk⟩
                  have HR0 := Lib.hid (hk.rangeAt HR0.out); have HUB := Lib.hid (hk.rangeAt HUB.out); have HK := Lib.hid (HK.out.trans hk)
                  obtain ⟨a0, -, b0, -⟩ := ub_mem (u := u) (v := .slice oa n ca) HSU.out (by rw [Huc.out]; exact HUB.out)
                  obtain ⟨e0, f0, g0, -⟩ := pt_mem (p := u.root) (v := .slice oa n ca) (by rw [Hpc.out]; exact HR0.out)
                  simp only [Nat.zero_add] at a0 b0 e0 f0 g0
                  clear hk
                  go_wp2_with fail
                  go_ret
                  exact ⟨by rw [HS.out]; rfl, HK.out⟩
                · have y8 : decide (u.txg < u.root.birth) = false := decide_eq_false (by have := of_decide_eq_true ht8; omega)
                  go_enter Tryz.func34, Tryz.ntmps34
                  go_wp2_with (first
                    | ((with_reducible show wpList _ _ _ (⟨_, .load 34 (.tmp 22), _, _, _, _⟩ :: _) _ _); refine wpList_load_g (by rfl) 34 (.tmp 22) rfl (w.heap.size) 1 rfl pc _ HR0.out ptUnder rfl (sizePtL hl0) ?_))
                  refine (HM.out _ HK.out).mono ?_
                  rintro e w2 ⟨rfl, hk⟩
                  have HR0 := Lib.hid (hk.rangeAt HR0.out); have HUB := Lib.hid (hk.rangeAt HUB.out); have HK := Lib.hid (HK.out.trans hk)
                  obtain ⟨a0, -, b0, -⟩ := ub_mem (u := u) (v := .slice oa n ca) HSU.out (by rw [Huc.out]; exact HUB.out)
                  obtain ⟨e0, f0, g0, -⟩ := pt_mem (p := u.root) (v := .slice oa n ca) (by rw [Hpc.out]; exact HR0.out)
                  simp only [Nat.zero_add] at a0 b0 e0 f0 g0
                  clear hk
                  go_wp2_with (first
                    | ((with_reducible show wpList _ _ _ (⟨_, .load 34 (.tmp 27), _, _, _, _⟩ :: _) _ _); refine wpList_load_g (by rfl) 34 (.tmp 27) rfl (w.heap.size) 1 rfl pc _ HR0.out ptUnder rfl (sizePtL hl0) ?_))
                  refine (HC.out _ HK.out).mono ?_
                  rintro e w3 ⟨rfl, hk⟩
                  have HR0 := Lib.hid (hk.rangeAt HR0.out); have HUB := Lib.hid (hk.rangeAt HUB.out); have HK := Lib.hid (HK.out.trans hk)
                  obtain ⟨a0, -, b0, -⟩ := ub_mem (u := u) (v := .slice oa n ca) HSU.out (by rw [Huc.out]; exact HUB.out)
                  obtain ⟨e0, f0, g0, -⟩ := pt_mem (p := u.root) (v := .slice oa n ca) (by rw [Hpc.out]; exact HR0.out)
                  simp only [Nat.zero_add] at a0 b0 e0 f0 g0
                  clear hk
                  go_wp2_with fail
                  go_ret
                  exact ⟨by rw [HS.out]; rfl, HK.out⟩
            · skip
              go_enter Tryz.func34, Tryz.ntmps34
              go_wp2_with (first
                | ((with_reducible show wpList _ _ _ (⟨_, .load 34 (.tmp 22), _, _, _, _⟩ :: _) _ _); refine wpList_load_g (by rfl) 34 (.tmp 22) rfl (w.heap.size) 1 rfl pc _ HR0.out ptUnder rfl (sizePtL hl0) ?_))
              refine (HM.out _ HK.out).mono ?_
              rintro e w2 ⟨rfl, hk⟩
              have HR0 := Lib.hid (hk.rangeAt HR0.out); have HUB := Lib.hid (hk.rangeAt HUB.out); have HK := Lib.hid (HK.out.trans hk)
              obtain ⟨a0, -, b0, -⟩ := ub_mem (u := u) (v := .slice oa n ca) HSU.out (by rw [Huc.out]; exact HUB.out)
              obtain ⟨e0, f0, g0, -⟩ := pt_mem (p := u.root) (v := .slice oa n ca) (by rw [Hpc.out]; exact HR0.out)
              simp only [Nat.zero_add] at a0 b0 e0 f0 g0
              clear hk
              go_wp2_with (first
                | ((with_reducible show wpList _ _ _ (⟨_, .load 34 (.tmp 27), _, _, _, _⟩ :: _) _ _); refine wpList_load_g (by rfl) 34 (.tmp 27) rfl (w.heap.size) 1 rfl pc _ HR0.out ptUnder rfl (sizePtL hl0) ?_))
              refine (HC.out _ HK.out).mono ?_
              rintro e w3 ⟨rfl, hk⟩
              have HR0 := Lib.hid (hk.rangeAt HR0.out); have HUB := Lib.hid (hk.rangeAt HUB.out); have HK := Lib.hid (HK.out.trans hk)
              obtain ⟨a0, -, b0, -⟩ := ub_mem (u := u) (v := .slice oa n ca) HSU.out (by rw [Huc.out]; exact HUB.out)
              obtain ⟨e0, f0, g0, -⟩ := pt_mem (p := u.root) (v := .slice oa n ca) (by rw [Hpc.out]; exact HR0.out)
              simp only [Nat.zero_add] at a0 b0 e0 f0 g0
              clear hk
              go_wp2_with fail
              go_ret
              exact ⟨by rw [HS.out]; rfl, HK.out⟩

end Go.Proofs.YtaiicjhnhbkgmaaGreatDoor

/-
  Block pointers and uberblocks that are the same.
  Conditions: those told.
-/
namespace Go.Proofs.YtaiicjhnhbkgmaaGreatDoor
open Go.RowKit Go.Maps Go.ChangeMaps
set_option maxRecDepth 100000
set_option linter.unusedVariables false

def Pt.eqB (p q : Pt) : Bool := decide (p.addrs = q.addrs) && (p.birth == q.birth) && (p.level == q.level) && decide (p.sum = q.sum)
def Ub.eqB (u v : Ub) : Bool := (u.txg == v.txg) && (u.len == v.len) && decide (u.pool = v.pool) && u.root.eqB v.root
theorem same_like (p q : Pt) : (p.like q && decide (p.addrs = q.addrs)) = p.eqB q := by
  unfold Pt.like Pt.eqB
  by_cases h : p.addrs = q.addrs
  · rw [h]
    simp only [BEq.rfl, Bool.and_true, decide_true, Bool.true_and]
  · simp [h]
set_option maxHeartbeats 2000000 in
theorem equalAd_any (w : World) (va vb' : Value) (xs ys : List Ad) (hx : Rd w 2 va xs.length (adCells xs)) (hy : Rd w 2 vb' ys.length (adCells ys)) (bb : Bool) (he : decide (xs = ys) = bb) :
    Calls Tryz.prog 66 #[va, vb'] w fun e w' => e = .returned (.bool bb) ∧ Keep noBlk w w' := by
  obtain ⟨oa, ca, rfl, hla, hma⟩ := hx.form
  obtain ⟨ob, cb, rfl, hlb, hmb⟩ := hy.form
  have hmx : xs.length ≤ maxLen := by omega
  unfold maxLen at hmx
  have HE := Lib.hid he; have HRX := Lib.hid hx; have HRY := Lib.hid hy
  obtain ⟨n, hn⟩ : ∃ n, xs.length = n := ⟨_, rfl⟩
  obtain ⟨m, hm⟩ : ∃ m, ys.length = m := ⟨_, rfl⟩
  have HN := Lib.hid hn; have HM := Lib.hid hm
  rw [hn] at HRX hmx
  rw [hm] at HRY
  rw [hn, hm]
  clear hx hy he hla hma hlb hmb hn hm
  by_cases hnm : n = m
  · subst hnm
    go_enter Tryz.func66, Tryz.ntmps66
    go_wp2_with fail
    go_loopw [13] (fun i wr => ∃ k : Nat, k ≤ n ∧ i = .int .i64 k ∧ Hid (xs.take k = ys.take k) ∧ Hid (Keep noBlk w wr)) (fun i _ => n - (intOf i).toNat)
    case atStart => exact ⟨0, Nat.zero_le _, rfl, Lib.hid rfl, Lib.hid (Keep.refl _ _)⟩
    case round =>
    obtain ⟨k, hk, rfl, HT, HK⟩ := hrel
    by_cases hlt : k < n
    · obtain ⟨x, hx⟩ : ∃ x, xs[k]? = some x := ⟨xs[k]'(by rw [HN.out]; exact hlt), List.getElem?_eq_getElem _⟩
      obtain ⟨y, hy⟩ : ∃ y, ys[k]? = some y := ⟨ys[k]'(by rw [HM.out]; exact hlt), List.getElem?_eq_getElem _⟩
      obtain ⟨S, hS0⟩ : ∃ S : World → Prop, S = fun w' => Keep noBlk w w' := ⟨_, rfl⟩
      have hra := HRX.out
      have hrb := HRY.out
      rw [← HN.out] at hra
      rw [← HM.out] at hrb
      obtain ⟨g, o, cap, hv, -⟩ := rd_ad hra hx
      obtain ⟨g2, o2, cap2, hv2, -⟩ := rd_ad hrb hy
      have e1 : oa = some ⟨g, o, none⟩ := by cases hv; rfl
      have e2 : ob = some ⟨g2, o2, none⟩ := by cases hv2; rfl
      subst e1 e2
      obtain ⟨xc, hxc⟩ : ∃ xc, adCs x = xc := ⟨_, rfl⟩
      obtain ⟨yc, hyc⟩ : ∃ yc, adCs y = yc := ⟨_, rfl⟩
      have HSX := Lib.hid (show ∀ w', S w' → w'.rangeAt g (o + k * 2) xc from fun w' h => by
        rw [hS0] at h
        obtain ⟨g', o', c', hv', hr'⟩ := rd_ad (hra.keep h fun _ _ => id) hx
        cases hv'
        rw [← hxc]; exact hr')
      have HSY := Lib.hid (show ∀ w', S w' → w'.rangeAt g2 (o2 + k * 2) yc from fun w' h => by
        rw [hS0] at h
        obtain ⟨g', o', c', hv', hr'⟩ := rd_ad (hrb.keep h fun _ _ => id) hy
        cases hv'
        rw [← hyc]; exact hr')
      have HX : Hid ((Tryz.prog.info? 70).map (·.size) = some xc.length) := Lib.hid (by rw [← hxc]; exact sizeAd)
      have HY : Hid ((Tryz.prog.info? 70).map (·.size) = some yc.length) := Lib.hid (by rw [← hyc]; exact sizeAd)
      obtain ⟨bq, hbq⟩ : ∃ bq, (!decide (x = y)) = bq := ⟨_, rfl⟩
      have HNE : Hid (∀ w', Sem.run Tryz.prog (binOp .neq 70 (.agg xc.toArray) (.agg yc.toArray)) w' = .ok (.bool bq) w') := Lib.hid (fun w' => by rw [← hxc, ← hyc, ← hbq]; exact neqAd x y w')
      have HBQ := Lib.hid hbq
      have HSE := Lib.hid (show ∀ w', S w' → Keep noBlk w w' from fun w' h => by rw [hS0] at h; exact h)
      have hS : S wr.drew := by rw [hS0]; exact HK.out.drew
      have HTX : Hid (xs.take (k + 1) = xs.take k ++ [x]) := Lib.hid (by rw [List.take_add_one, hx]; rfl)
      have HTY : Hid (ys.take (k + 1) = ys.take k ++ [y]) := Lib.hid (by rw [List.take_add_one, hy]; rfl)
      have HXE := Lib.hid hx; have HYE := Lib.hid hy
      have hki : (k : Int) < (n : Int) := by omega
      have hk0 : (0 : Int) ≤ (k : Int) := by omega
      clear hx hy hS0 hra hrb hv hv2 hxc hyc hbq HK
      go_wp2_with fail
      refine wp_region_held (S := S) (by kernel_rfl) ?_
      change wpAnyH _ _ _ _ _ _ _ _ wr.drew
      generalize wr.drew = w6 at *
      refine tka 0 (.slice (some ⟨g, o, none⟩) n ca) rfl hS ?_
      simp only [Act.put, List.setIfInBounds_toArray, List.set_cons_zero, List.set_cons_succ, List.getElem_toArray, List.getElem_cons_zero]
      refine tka 1 (.int .i64 k) rfl hS ?_
      simp only [Act.put, List.setIfInBounds_toArray, List.set_cons_zero, List.set_cons_succ, List.getElem_toArray, List.getElem_cons_succ, List.getElem_cons_zero]
      refine tkd 2 (.pointer (some ⟨g, o + k * 2, none⟩)) rfl (.inl ⟨by rfl, fun _ _ => ?_⟩) hS ?_
      · go_simp
      simp only [Act.put, List.setIfInBounds_toArray, List.set_cons_zero, List.set_cons_succ, List.getElem_toArray, List.getElem_cons_succ, List.getElem_cons_zero]
      refine tkd 3 (.agg xc.toArray) rfl (yieldsIf_load_mid (by rfl) 70 (.tmp 18) rfl g (o + k * 2) rfl xc _ HSX.out adUnder rfl HX.out) hS ?_
      simp only [Act.put, List.setIfInBounds_toArray, List.set_cons_zero, List.set_cons_succ, List.getElem_toArray, List.getElem_cons_succ, List.getElem_cons_zero]
      refine tka 4 (.slice (some ⟨g2, o2, none⟩) n cb) rfl hS ?_
      simp only [Act.put, List.setIfInBounds_toArray, List.set_cons_zero, List.set_cons_succ, List.getElem_toArray, List.getElem_cons_succ, List.getElem_cons_zero]
      refine tka 5 (.int .i64 k) rfl hS ?_
      simp only [Act.put, List.setIfInBounds_toArray, List.set_cons_zero, List.set_cons_succ, List.getElem_toArray, List.getElem_cons_succ, List.getElem_cons_zero]
      refine tkd 6 (.pointer (some ⟨g2, o2 + k * 2, none⟩)) rfl (.inl ⟨by rfl, fun _ _ => ?_⟩) hS ?_
      · go_simp
      simp only [Act.put, List.setIfInBounds_toArray, List.set_cons_zero, List.set_cons_succ, List.getElem_toArray, List.getElem_cons_succ, List.getElem_cons_zero]
      refine tkd 7 (.agg yc.toArray) rfl (yieldsIf_load_mid (by rfl) 70 (.tmp 22) rfl g2 (o2 + k * 2) rfl yc _ HSY.out adUnder rfl HY.out) hS ?_
      simp only [Act.put, List.setIfInBounds_toArray, List.set_cons_zero, List.set_cons_succ, List.getElem_toArray, List.getElem_cons_succ, List.getElem_cons_zero]
      refine tkd 8 (.bool bq) rfl (yieldsIf_neq_agg (by rfl) 70 (.tmp 19) (.tmp 23) 70 rfl xc.toArray yc.toArray rfl rfl adGuard HNE.out) hS ?_
      simp only [Act.put, List.setIfInBounds_toArray, List.set_cons_zero, List.set_cons_succ, List.getElem_toArray, List.getElem_cons_succ, List.getElem_cons_zero]
      refine wpAnyH_done (by kernel_rfl) ?_ _
      have HKE := Lib.hid (HSE.out _ hS)
      clear hS
      cases bq
      · have hxy : x = y := by have := HBQ.out; simpa using this
        have HTE : Hid (xs.take (k + 1) = ys.take (k + 1)) := Lib.hid (by rw [HTX.out, HTY.out, HT.out, hxy])
        clear hxy
        go_wp2_with fail
        go_roundw
        case rel => exact ⟨k + 1, by omega, by go_num, HTE, HKE⟩
        case measure => simp [intOf]; omega
      · have hxy : x ≠ y := by have := HBQ.out; simpa using this
        have hf : bb = false := by
          rw [← HE.out]
          refine decide_eq_false fun e => hxy ?_
          have h1 := HXE.out
          rw [e, HYE.out] at h1
          exact (Option.some.inj h1).symm
        subst hf
        clear hxy
        go_wp2_with fail
        go_ret
        exact ⟨rfl, HKE.out⟩
    · obtain rfl : k = n := by omega
      have hf : bb = true := by
        rw [← HE.out]
        have := HT.out
        rw [List.take_of_length_le (by rw [HN.out]; exact Nat.le_refl _), List.take_of_length_le (by rw [HM.out]; exact Nat.le_refl _)] at this
        exact decide_eq_true this
      subst hf
      go_wp2_with fail
      go_ret
      exact ⟨rfl, HK.out⟩
  · have hf : bb = false := by
      rw [← HE.out]
      refine decide_eq_false fun e => hnm ?_
      rw [← HN.out, ← HM.out, e]
    subst hf
    have hni : ¬ (n : Int) = (m : Int) := by omega
    go_enter Tryz.func66, Tryz.ntmps66
    go_wp2_with fail
    go_ret
    exact ⟨rfl, Keep.refl _ _⟩
set_option maxHeartbeats 8000000 in
theorem samePt_any (w : World) (v u : Value) (p q : Pt) (h0 : PtV w v p) (h1 : PtV w u q) : Calls Tryz.prog 41 #[.agg (ptCs v p).toArray, .agg (ptCs u q).toArray] w (TherePost w (p.eqB q)) := by
  obtain ⟨oa, ca, hv, -, -⟩ := h0.rd.form
  subst hv
  obtain ⟨ob, cb, hv, -, -⟩ := h1.rd.form
  subst hv
  obtain ⟨n, hn⟩ : ∃ x, p.addrs.length = x := ⟨_, rfl⟩
  obtain ⟨m, hm⟩ : ∃ x, q.addrs.length = x := ⟨_, rfl⟩
  have HN := Lib.hid hn; have HM := Lib.hid hm
  rw [hn] at h0 ⊢
  rw [hm] at h1 ⊢
  obtain ⟨w1, hw1⟩ : ∃ w1, (w.alloc (.cells (ptCs (.slice oa n ca) p).toArray 34)).alloc (.cells (ptCs (.slice ob m cb) q).toArray 34) = w1 := ⟨_, rfl⟩
  have hb_0 : w1.heap[w.heap.size]? = some (.cells (ptCs (.slice oa n ca) p).toArray 34 (0, 0)) := by rw [← hw1]; exact heap_alloc2_old _ _ _
  have hb_1 : w1.heap[w.heap.size + 1]? = some (.cells (ptCs (.slice ob m cb) q).toArray 34 (0, 0)) := by rw [← hw1]; exact heap_alloc2_new _ _ _
  have hk1 : Keep noBlk w w1 := by rw [← hw1]; exact ((Keep.refl _ _).alloc _).alloc _
  obtain ⟨a0, b0, c0, d0⟩ := pt_mem (rangeAt_whole hb_0)
  have HP0 := Lib.hid d0; have HB0 := Lib.hid hb_0
  have hl0 : (ptCs (.slice oa n ca) p).length = 35 := ptCs_len h0.sum
  simp only [Nat.zero_add] at a0 b0 c0
  obtain ⟨a1, b1, c1, d1⟩ := pt_mem (rangeAt_whole hb_1)
  have HP1 := Lib.hid d1; have HB1 := Lib.hid hb_1
  have hl1 : (ptCs (.slice ob m cb) q).length = 35 := ptCs_len h1.sum
  simp only [Nat.zero_add] at a1 b1 c1
  have HK := Lib.hid hk1
  have HR0 := Lib.hid (rangeAt_whole HB0.out)
  have HR1 := Lib.hid (rangeAt_whole HB1.out)
  have HL := Lib.hid (like_any w1 _ _ p q (h0.keep hk1 fun _ _ => id) (h1.keep hk1 fun _ _ => id))
  have HE := Lib.hid (fun wx (k : Keep noBlk w wx) => equalAd_any wx _ _ p.addrs q.addrs (h0.rd.keep k fun _ _ => id) (h1.rd.keep k fun _ _ => id) _ rfl)
  obtain ⟨pc, hpc⟩ : ∃ x, ptCs (.slice oa n ca) p = x := ⟨_, rfl⟩
  have Hpc := Lib.hid hpc
  obtain ⟨qc, hqc⟩ : ∃ x, ptCs (.slice ob m cb) q = x := ⟨_, rfl⟩
  have Hqc := Lib.hid hqc
  obtain ⟨t1, ht1⟩ : ∃ t : Bool, p.like q = t := ⟨_, rfl⟩
  obtain ⟨t2, ht2⟩ : ∃ t : Bool, decide (p.addrs = q.addrs) = t := ⟨_, rfl⟩
  have HS := Lib.hid (show p.eqB q = (t1 && t2) by rw [← same_like, ht1, ht2])
  rw [ht1] at HL
  rw [ht2] at HE
  rw [hpc] at hw1 HL hl0 HR0 ⊢
  rw [hqc] at hw1 HL hl1 HR1 ⊢
  clear ht1 ht2 hb_0 hb_1 d0 d1 hk1 hpc hqc h0 h1 HB0 HB1 HP0 HP1 hn hm
  cases t1
  · go_enter Tryz.func41, Tryz.ntmps41
    go_wp2_with (first
      | ((with_reducible show wpList _ _ _ (⟨_, .load 34 (.tmp 2), _, _, _, _⟩ :: _) _ _); refine wpList_load_g (by rfl) 34 (.tmp 2) rfl (w.heap.size) 0 rfl pc _ HR0.out ptUnder rfl (sizePtL hl0) ?_)
      | ((with_reducible show wpList _ _ _ (⟨_, .load 34 (.tmp 3), _, _, _, _⟩ :: _) _ _); refine wpList_load_g (by rfl) 34 (.tmp 3) rfl (w.heap.size + 1) 0 rfl qc _ HR1.out ptUnder rfl (sizePtL hl1) ?_))
    refine HL.out.mono ?_
    rintro e w2 ⟨rfl, hk⟩
    have HR0 := Lib.hid (hk.rangeAt HR0.out); have HR1 := Lib.hid (hk.rangeAt HR1.out); have HK := Lib.hid (HK.out.trans hk)
    obtain ⟨a0, b0, c0, d0⟩ := pt_mem (p := p) (v := .slice oa n ca) (by rw [Hpc.out]; exact HR0.out)
    obtain ⟨a1, b1, c1, d1⟩ := pt_mem (p := q) (v := .slice ob m cb) (by rw [Hqc.out]; exact HR1.out)
    simp only [Nat.zero_add] at a0 b0 c0 a1 b1 c1
    have HP0 := Lib.hid d0; have HP1 := Lib.hid d1
    clear hk d0 d1
    go_wp2_with fail
    go_ret
    exact ⟨by rw [HS.out]; rfl, HK.out⟩
  · go_enter Tryz.func41, Tryz.ntmps41
    go_wp2_with (first
      | ((with_reducible show wpList _ _ _ (⟨_, .load 34 (.tmp 2), _, _, _, _⟩ :: _) _ _); refine wpList_load_g (by rfl) 34 (.tmp 2) rfl (w.heap.size) 0 rfl pc _ HR0.out ptUnder rfl (sizePtL hl0) ?_)
      | ((with_reducible show wpList _ _ _ (⟨_, .load 34 (.tmp 3), _, _, _, _⟩ :: _) _ _); refine wpList_load_g (by rfl) 34 (.tmp 3) rfl (w.heap.size + 1) 0 rfl qc _ HR1.out ptUnder rfl (sizePtL hl1) ?_))
    refine HL.out.mono ?_
    rintro e w2 ⟨rfl, hk⟩
    have HR0 := Lib.hid (hk.rangeAt HR0.out); have HR1 := Lib.hid (hk.rangeAt HR1.out); have HK := Lib.hid (HK.out.trans hk)
    obtain ⟨a0, b0, c0, d0⟩ := pt_mem (p := p) (v := .slice oa n ca) (by rw [Hpc.out]; exact HR0.out)
    obtain ⟨a1, b1, c1, d1⟩ := pt_mem (p := q) (v := .slice ob m cb) (by rw [Hqc.out]; exact HR1.out)
    simp only [Nat.zero_add] at a0 b0 c0 a1 b1 c1
    have HP0 := Lib.hid d0; have HP1 := Lib.hid d1
    clear hk d0 d1
    go_wp2_with fail
    refine (HE.out _ HK.out).mono ?_
    rintro e w3 ⟨rfl, hk⟩
    have HK := Lib.hid (HK.out.trans hk)
    clear hk
    cases t2 <;> (
      go_wp2_with fail
      go_ret
      exact ⟨by rw [HS.out]; rfl, HK.out⟩)

set_option maxHeartbeats 8000000 in
theorem kitPt_any (w : World) (v u : Value) (p q : Pt) (h0 : PtV w v p) (h1 : PtV w u q) : Calls Tryz.prog 62 #[.agg (ptCs v p).toArray, .agg (ptCs u q).toArray] w (TherePost w (p.eqB q)) := by
  obtain ⟨oa, ca, hv, -, -⟩ := h0.rd.form
  subst hv
  obtain ⟨ob, cb, hv, -, -⟩ := h1.rd.form
  subst hv
  obtain ⟨n, hn⟩ : ∃ x, p.addrs.length = x := ⟨_, rfl⟩
  obtain ⟨m, hm⟩ : ∃ x, q.addrs.length = x := ⟨_, rfl⟩
  have HN := Lib.hid hn; have HM := Lib.hid hm
  rw [hn] at h0 ⊢
  rw [hm] at h1 ⊢
  obtain ⟨w1, hw1⟩ : ∃ w1, (w.alloc (.cells (ptCs (.slice oa n ca) p).toArray 34)).alloc (.cells (ptCs (.slice ob m cb) q).toArray 34) = w1 := ⟨_, rfl⟩
  have hb_0 : w1.heap[w.heap.size]? = some (.cells (ptCs (.slice oa n ca) p).toArray 34 (0, 0)) := by rw [← hw1]; exact heap_alloc2_old _ _ _
  have hb_1 : w1.heap[w.heap.size + 1]? = some (.cells (ptCs (.slice ob m cb) q).toArray 34 (0, 0)) := by rw [← hw1]; exact heap_alloc2_new _ _ _
  have hk1 : Keep noBlk w w1 := by rw [← hw1]; exact ((Keep.refl _ _).alloc _).alloc _
  obtain ⟨a0, b0, c0, d0⟩ := pt_mem (rangeAt_whole hb_0)
  have HP0 := Lib.hid d0; have HB0 := Lib.hid hb_0
  have hl0 : (ptCs (.slice oa n ca) p).length = 35 := ptCs_len h0.sum
  simp only [Nat.zero_add] at a0 b0 c0
  obtain ⟨a1, b1, c1, d1⟩ := pt_mem (rangeAt_whole hb_1)
  have HP1 := Lib.hid d1; have HB1 := Lib.hid hb_1
  have hl1 : (ptCs (.slice ob m cb) q).length = 35 := ptCs_len h1.sum
  simp only [Nat.zero_add] at a1 b1 c1
  have HK := Lib.hid hk1
  have HR0 := Lib.hid (rangeAt_whole HB0.out)
  have HR1 := Lib.hid (rangeAt_whole HB1.out)
  have HE := Lib.hid (fun wx (k : Keep noBlk w wx) => sameAd_any wx _ _ p.addrs q.addrs (h0.rd.keep k fun _ _ => id) (h1.rd.keep k fun _ _ => id) _ rfl)
  obtain ⟨pc, hpc⟩ : ∃ x, ptCs (.slice oa n ca) p = x := ⟨_, rfl⟩
  have Hpc := Lib.hid hpc
  obtain ⟨qc, hqc⟩ : ∃ x, ptCs (.slice ob m cb) q = x := ⟨_, rfl⟩
  have Hqc := Lib.hid hqc
  have heq := eqID p.sum q.sum h0.sum h1.sum
  have hsl : (p.sum.map vb).length = 32 := by rw [List.length_map]; exact h0.sum
  have hql : (q.sum.map vb).length = 32 := by rw [List.length_map]; exact h1.sum
  obtain ⟨t1, ht1⟩ : ∃ t : Bool, decide (p.addrs = q.addrs) = t := ⟨_, rfl⟩
  obtain ⟨t2, ht2⟩ : ∃ t : Bool, (p.birth == q.birth) = t := ⟨_, rfl⟩
  obtain ⟨t3, ht3⟩ : ∃ t : Bool, (p.level == q.level) = t := ⟨_, rfl⟩
  obtain ⟨t4, ht4⟩ : ∃ t : Bool, decide (p.sum = q.sum) = t := ⟨_, rfl⟩
  have HS := Lib.hid (show p.eqB q = (t1 && t2 && t3 && t4) by unfold Pt.eqB; rw [ht1, ht2, ht3, ht4])
  rw [ht1] at HE
  rw [ht4] at heq
  rw [hpc] at hw1 hl0 HR0 ⊢
  rw [hqc] at hw1 hl1 HR1 ⊢
  have HEQ := Lib.hid heq
  clear ht1 ht4 hb_0 hb_1 d0 d1 hk1 hpc hqc h0 h1 HB0 HB1 hn hm heq
  go_enter Tryz.func62, Tryz.ntmps62
  go_wp2_with fail
  refine (HE.out _ HK.out).mono ?_
  rintro e w2 ⟨rfl, hk⟩
  have HR0 := Lib.hid (hk.rangeAt HR0.out); have HR1 := Lib.hid (hk.rangeAt HR1.out); have HK := Lib.hid (HK.out.trans hk)
  obtain ⟨a0, b0, c0, d0⟩ := pt_mem (p := p) (v := .slice oa n ca) (by rw [Hpc.out]; exact HR0.out)
  obtain ⟨a1, b1, c1, d1⟩ := pt_mem (p := q) (v := .slice ob m cb) (by rw [Hqc.out]; exact HR1.out)
  simp only [Nat.zero_add] at a0 b0 c0 a1 b1 c1
  have HP0 := Lib.hid d0; have HP1 := Lib.hid d1
  clear hk d0 d1
  clear a0 a1
  obtain ⟨ss, hss⟩ : ∃ x, p.sum.map vb = x := ⟨_, rfl⟩
  obtain ⟨zz, hzz⟩ : ∃ x, q.sum.map vb = x := ⟨_, rfl⟩
  have heq := HEQ.out
  rw [hss] at HP0 hsl heq
  rw [hzz] at HP1 hql heq
  clear hss hzz
  cases t1 <;> cases t2 <;> cases t3 <;> cases t4 <;> (
    go_wp2_with (first
      | ((with_reducible show wpList _ _ _ (⟨_, .load 32 (.tmp 25), _, _, _, _⟩ :: _) _ _); refine wpList_load_g (by rfl) 32 (.tmp 25) rfl (w.heap.size) 3 rfl ss _ HP0.out Tryz.underlying32 rfl (sizeIDL hsl) ?_)
      | ((with_reducible show wpList _ _ _ (⟨_, .load 32 (.tmp 27), _, _, _, _⟩ :: _) _ _); refine wpList_load_g (by rfl) 32 (.tmp 27) rfl (w.heap.size + 1) 3 rfl zz _ HP1.out Tryz.underlying32 rfl (sizeIDL hql) ?_))
    go_ret
    exact ⟨by rw [HS.out]; rfl, HK.out⟩)

set_option maxHeartbeats 8000000 in
theorem rsamePt_any (w : World) (v u : Value) (p q : Pt) (h0 : PtV w v p) (h1 : PtV w u q) : Calls Tryz.prog 61 #[.agg (ptCs v p).toArray, .agg (ptCs u q).toArray] w (TherePost w (p.eqB q)) := by
  obtain ⟨oa, ca, hv, -, -⟩ := h0.rd.form
  subst hv
  obtain ⟨ob, cb, hv, -, -⟩ := h1.rd.form
  subst hv
  obtain ⟨n, hn⟩ : ∃ x, p.addrs.length = x := ⟨_, rfl⟩
  obtain ⟨m, hm⟩ : ∃ x, q.addrs.length = x := ⟨_, rfl⟩
  have HN := Lib.hid hn; have HM := Lib.hid hm
  rw [hn] at h0 ⊢
  rw [hm] at h1 ⊢
  obtain ⟨w1, hw1⟩ : ∃ w1, (w.alloc (.cells (ptCs (.slice oa n ca) p).toArray 34)).alloc (.cells (ptCs (.slice ob m cb) q).toArray 34) = w1 := ⟨_, rfl⟩
  have hb_0 : w1.heap[w.heap.size]? = some (.cells (ptCs (.slice oa n ca) p).toArray 34 (0, 0)) := by rw [← hw1]; exact heap_alloc2_old _ _ _
  have hb_1 : w1.heap[w.heap.size + 1]? = some (.cells (ptCs (.slice ob m cb) q).toArray 34 (0, 0)) := by rw [← hw1]; exact heap_alloc2_new _ _ _
  have hk1 : Keep noBlk w w1 := by rw [← hw1]; exact ((Keep.refl _ _).alloc _).alloc _
  obtain ⟨a0, b0, c0, d0⟩ := pt_mem (rangeAt_whole hb_0)
  have HP0 := Lib.hid d0; have HB0 := Lib.hid hb_0
  have hl0 : (ptCs (.slice oa n ca) p).length = 35 := ptCs_len h0.sum
  simp only [Nat.zero_add] at a0 b0 c0
  obtain ⟨a1, b1, c1, d1⟩ := pt_mem (rangeAt_whole hb_1)
  have HP1 := Lib.hid d1; have HB1 := Lib.hid hb_1
  have hl1 : (ptCs (.slice ob m cb) q).length = 35 := ptCs_len h1.sum
  simp only [Nat.zero_add] at a1 b1 c1
  have HK := Lib.hid hk1
  have HR0 := Lib.hid (rangeAt_whole HB0.out)
  have HR1 := Lib.hid (rangeAt_whole HB1.out)
  have HL := Lib.hid (rlike_any w1 _ _ p q (h0.keep hk1 fun _ _ => id) (h1.keep hk1 fun _ _ => id))
  obtain ⟨pc, hpc⟩ : ∃ x, ptCs (.slice oa n ca) p = x := ⟨_, rfl⟩
  have Hpc := Lib.hid hpc
  obtain ⟨qc, hqc⟩ : ∃ x, ptCs (.slice ob m cb) q = x := ⟨_, rfl⟩
  have Hqc := Lib.hid hqc
  have hmx : n ≤ maxLen := by rw [← HN.out]; obtain ⟨_, a', c', i1, i2, i3, -⟩ := h0.rd; omega
  unfold maxLen at hmx
  have HRX := Lib.hid h0.rd; have HRY := Lib.hid h1.rd
  obtain ⟨bb, hbb⟩ : ∃ b, p.eqB q = b := ⟨_, rfl⟩
  have HBB := Lib.hid ((same_like p q).trans hbb)
  rw [hbb]
  obtain ⟨t1, ht1⟩ : ∃ t : Bool, p.like q = t := ⟨_, rfl⟩
  rw [ht1] at HL HBB
  rw [hpc] at hw1 HL hl0 HR0 ⊢
  rw [hqc] at hw1 HL hl1 HR1 ⊢
  clear ht1 hb_0 hb_1 d0 d1 hk1 hpc hqc h0 h1 HB0 HB1 HP0 HP1 hbb hn hm
  cases t1
  · have hf : bb = false := by rw [← HBB.out]; rfl
    subst hf
    go_enter Tryz.func61, Tryz.ntmps61
    go_wp2_with (first
      | ((with_reducible show wpList _ _ _ (⟨_, .load 34 (.tmp 2), _, _, _, _⟩ :: _) _ _); refine wpList_load_g (by rfl) 34 (.tmp 2) rfl (w.heap.size) 0 rfl pc _ HR0.out ptUnder rfl (sizePtL hl0) ?_)
      | ((with_reducible show wpList _ _ _ (⟨_, .load 34 (.tmp 3), _, _, _, _⟩ :: _) _ _); refine wpList_load_g (by rfl) 34 (.tmp 3) rfl (w.heap.size + 1) 0 rfl qc _ HR1.out ptUnder rfl (sizePtL hl1) ?_))
    refine HL.out.mono ?_
    rintro e w2 ⟨rfl, hk⟩
    have HR0 := Lib.hid (hk.rangeAt HR0.out); have HR1 := Lib.hid (hk.rangeAt HR1.out); have HK := Lib.hid (HK.out.trans hk)
    obtain ⟨a0, b0, c0, d0⟩ := pt_mem (p := p) (v := .slice oa n ca) (by rw [Hpc.out]; exact HR0.out)
    obtain ⟨a1, b1, c1, d1⟩ := pt_mem (p := q) (v := .slice ob m cb) (by rw [Hqc.out]; exact HR1.out)
    simp only [Nat.zero_add] at a0 b0 c0 a1 b1 c1
    have HP0 := Lib.hid d0; have HP1 := Lib.hid d1
    clear hk d0 d1
    clear HL HP0 HP1
    go_wp2_with fail
    go_ret
    exact ⟨rfl, HK.out⟩
  · go_enter Tryz.func61, Tryz.ntmps61
    go_wp2_with (first
      | ((with_reducible show wpList _ _ _ (⟨_, .load 34 (.tmp 2), _, _, _, _⟩ :: _) _ _); refine wpList_load_g (by rfl) 34 (.tmp 2) rfl (w.heap.size) 0 rfl pc _ HR0.out ptUnder rfl (sizePtL hl0) ?_)
      | ((with_reducible show wpList _ _ _ (⟨_, .load 34 (.tmp 3), _, _, _, _⟩ :: _) _ _); refine wpList_load_g (by rfl) 34 (.tmp 3) rfl (w.heap.size + 1) 0 rfl qc _ HR1.out ptUnder rfl (sizePtL hl1) ?_))
    refine HL.out.mono ?_
    rintro e w2 ⟨rfl, hk⟩
    have HR0 := Lib.hid (hk.rangeAt HR0.out); have HR1 := Lib.hid (hk.rangeAt HR1.out); have HK := Lib.hid (HK.out.trans hk)
    obtain ⟨a0, b0, c0, d0⟩ := pt_mem (p := p) (v := .slice oa n ca) (by rw [Hpc.out]; exact HR0.out)
    obtain ⟨a1, b1, c1, d1⟩ := pt_mem (p := q) (v := .slice ob m cb) (by rw [Hqc.out]; exact HR1.out)
    simp only [Nat.zero_add] at a0 b0 c0 a1 b1 c1
    have HP0 := Lib.hid d0; have HP1 := Lib.hid d1
    clear hk d0 d1
    clear HL HP0 HP1
    by_cases hnm : n = m
    · subst hnm
      have HK2 := HK
      go_wp2_with fail
      have HA0 := Lib.hid a0; have HA1 := Lib.hid a1
      clear b0 c0 b1 c1 a0 a1
      go_loopw [5] (fun i wr => ∃ k : Nat, k ≤ n ∧ i = .int .i64 k ∧ Hid (p.addrs.take k = q.addrs.take k) ∧ Hid (Keep noBlk w2 wr)) (fun i _ => n - (intOf i).toNat)
      case atStart => exact ⟨0, Nat.zero_le _, rfl, Lib.hid rfl, Lib.hid (Keep.refl _ _)⟩
      case round =>
      obtain ⟨k, hk, rfl, HT, HKR⟩ := hrel
      have a0 := HKR.out.cell HA0.out id
      by_cases hlt : k < n
      · obtain ⟨x, hx⟩ : ∃ x, p.addrs[k]? = some x := ⟨p.addrs[k]'(by rw [HN.out]; exact hlt), List.getElem?_eq_getElem _⟩
        obtain ⟨y, hy⟩ : ∃ y, q.addrs[k]? = some y := ⟨q.addrs[k]'(by rw [HM.out]; exact hlt), List.getElem?_eq_getElem _⟩
        obtain ⟨S, hS0⟩ : ∃ S : World → Prop, S = fun w' => Keep noBlk w2 w' := ⟨_, rfl⟩
        have hra := HRX.out.keep HK2.out fun _ _ => id
        have hrb := HRY.out.keep HK2.out fun _ _ => id
        rw [← HN.out] at hra
        rw [← HM.out] at hrb
        obtain ⟨g, o, cap, hv, -⟩ := rd_ad hra hx
        obtain ⟨g2, o2, cap2, hv2, -⟩ := rd_ad hrb hy
        have e1 : oa = some ⟨g, o, none⟩ := by cases hv; rfl
        have e2 : ob = some ⟨g2, o2, none⟩ := by cases hv2; rfl
        subst e1 e2
        obtain ⟨xc, hxc⟩ : ∃ xc, adCs x = xc := ⟨_, rfl⟩
        obtain ⟨yc, hyc⟩ : ∃ yc, adCs y = yc := ⟨_, rfl⟩
        have HSX := Lib.hid (show ∀ w', S w' → w'.rangeAt g (o + k * 2) xc from fun w' h => by
          rw [hS0] at h
          obtain ⟨g', o', c', hv', hr'⟩ := rd_ad (hra.keep h fun _ _ => id) hx
          cases hv'
          rw [← hxc]; exact hr')
        have HSY := Lib.hid (show ∀ w', S w' → w'.rangeAt g2 (o2 + k * 2) yc from fun w' h => by
          rw [hS0] at h
          obtain ⟨g', o', c', hv', hr'⟩ := rd_ad (hrb.keep h fun _ _ => id) hy
          cases hv'
          rw [← hyc]; exact hr')
        have HC0 := Lib.hid (show ∀ w', S w' → w'.cell? ⟨w.heap.size, 0, none⟩ = some (.slice (some ⟨g, o, none⟩) n ca) from fun w' h => by rw [hS0] at h; exact h.cell HA0.out id)
        have HC1 := Lib.hid (show ∀ w', S w' → w'.cell? ⟨w.heap.size + 1, 0, none⟩ = some (.slice (some ⟨g2, o2, none⟩) n cb) from fun w' h => by rw [hS0] at h; exact h.cell HA1.out id)
        have HX : Hid ((Tryz.prog.info? 70).map (·.size) = some xc.length) := Lib.hid (by rw [← hxc]; exact sizeAd)
        have HY : Hid ((Tryz.prog.info? 70).map (·.size) = some yc.length) := Lib.hid (by rw [← hyc]; exact sizeAd)
        obtain ⟨bq, hbq⟩ : ∃ bq, (!decide (x = y)) = bq := ⟨_, rfl⟩
        have HNE : Hid (∀ w', Sem.run Tryz.prog (binOp .neq 70 (.agg xc.toArray) (.agg yc.toArray)) w' = .ok (.bool bq) w') := Lib.hid (fun w' => by rw [← hxc, ← hyc, ← hbq]; exact neqAd x y w')
        have HBQ := Lib.hid hbq
        have HSE := Lib.hid (show ∀ w', S w' → Keep noBlk w2 w' from fun w' h => by rw [hS0] at h; exact h)
        have hS : S wr.drew := by rw [hS0]; exact HKR.out.drew
        have HTX : Hid (p.addrs.take (k + 1) = p.addrs.take k ++ [x]) := Lib.hid (by rw [List.take_add_one, hx]; rfl)
        have HTY : Hid (q.addrs.take (k + 1) = q.addrs.take k ++ [y]) := Lib.hid (by rw [List.take_add_one, hy]; rfl)
        have HXE := Lib.hid hx; have HYE := Lib.hid hy
        have hki : (k : Int) < (n : Int) := by omega
        have hk0 : (0 : Int) ≤ (k : Int) := by omega
        clear hx hy hS0 hra hrb hv hv2 hxc hyc hbq
        go_wp2_with fail
        refine wp_region_held (S := S) (by kernel_rfl) ?_
        change wpAnyH _ _ _ _ _ _ _ _ wr.drew
        generalize wr.drew = w6 at hS ⊢
        refine tkb 0 (.pointer (some ⟨w.heap.size, 0, none⟩)) rfl hS ?_
        simp only [Act.put, List.setIfInBounds_toArray, List.set_cons_zero, List.set_cons_succ, List.getElem_toArray, List.getElem_cons_zero]
        refine tkd 1 (.slice (some ⟨g, o, none⟩) n ca) rfl (.inl ⟨by rfl, fun w' hw' => by have c := HC0.out w' hw'; go_simp⟩) hS ?_
        simp only [Act.put, List.setIfInBounds_toArray, List.set_cons_zero, List.set_cons_succ, List.getElem_toArray, List.getElem_cons_succ, List.getElem_cons_zero]
        refine tka 2 (.int .i64 k) rfl hS ?_
        simp only [Act.put, List.setIfInBounds_toArray, List.set_cons_zero, List.set_cons_succ, List.getElem_toArray, List.getElem_cons_succ, List.getElem_cons_zero]
        refine tkb 3 (.pointer (some ⟨g, o + k * 2, none⟩)) rfl hS ?_
        simp only [Act.put, List.setIfInBounds_toArray, List.set_cons_zero, List.set_cons_succ, List.getElem_toArray, List.getElem_cons_succ, List.getElem_cons_zero]
        refine tkd 4 (.agg xc.toArray) rfl (yieldsIf_load_mid (by rfl) 70 (.tmp 29) rfl g (o + k * 2) rfl xc _ HSX.out adUnder rfl HX.out) hS ?_
        simp only [Act.put, List.setIfInBounds_toArray, List.set_cons_zero, List.set_cons_succ, List.getElem_toArray, List.getElem_cons_succ, List.getElem_cons_zero]
        refine tkb 5 (.pointer (some ⟨w.heap.size + 1, 0, none⟩)) rfl hS ?_
        simp only [Act.put, List.setIfInBounds_toArray, List.set_cons_zero, List.set_cons_succ, List.getElem_toArray, List.getElem_cons_succ, List.getElem_cons_zero]
        refine tkd 6 (.slice (some ⟨g2, o2, none⟩) n cb) rfl (.inl ⟨by rfl, fun w' hw' => by have c := HC1.out w' hw'; go_simp⟩) hS ?_
        simp only [Act.put, List.setIfInBounds_toArray, List.set_cons_zero, List.set_cons_succ, List.getElem_toArray, List.getElem_cons_succ, List.getElem_cons_zero]
        refine tka 7 (.int .i64 k) rfl hS ?_
        simp only [Act.put, List.setIfInBounds_toArray, List.set_cons_zero, List.set_cons_succ, List.getElem_toArray, List.getElem_cons_succ, List.getElem_cons_zero]
        refine tkb 8 (.pointer (some ⟨g2, o2 + k * 2, none⟩)) rfl hS ?_
        simp only [Act.put, List.setIfInBounds_toArray, List.set_cons_zero, List.set_cons_succ, List.getElem_toArray, List.getElem_cons_succ, List.getElem_cons_zero]
        refine tkd 9 (.agg yc.toArray) rfl (yieldsIf_load_mid (by rfl) 70 (.tmp 34) rfl g2 (o2 + k * 2) rfl yc _ HSY.out adUnder rfl HY.out) hS ?_
        simp only [Act.put, List.setIfInBounds_toArray, List.set_cons_zero, List.set_cons_succ, List.getElem_toArray, List.getElem_cons_succ, List.getElem_cons_zero]
        refine tkd 10 (.bool bq) rfl (yieldsIf_neq_agg (by rfl) 70 (.tmp 30) (.tmp 35) 70 rfl xc.toArray yc.toArray rfl rfl adGuard HNE.out) hS ?_
        simp only [Act.put, List.setIfInBounds_toArray, List.set_cons_zero, List.set_cons_succ, List.getElem_toArray, List.getElem_cons_succ, List.getElem_cons_zero]
        refine wpAnyH_done (by kernel_rfl) ?_ _
        have HKE := Lib.hid (HSE.out _ hS)
        clear hS
        cases bq
        · have hxy : x = y := by have := HBQ.out; simpa using this
          have HTE : Hid (p.addrs.take (k + 1) = q.addrs.take (k + 1)) := Lib.hid (by rw [HTX.out, HTY.out, HT.out, hxy])
          clear hxy
          go_wp2_with fail
          go_roundw
          case rel => exact ⟨k + 1, by omega, by go_num, HTE, HKE⟩
          case measure => simp [intOf]; omega
        · have hxy : x ≠ y := by have := HBQ.out; simpa using this
          have hf : bb = false := by
            rw [← HBB.out, decide_eq_false (fun e => hxy (by
              have h1 := HXE.out
              rw [e, HYE.out] at h1
              exact (Option.some.inj h1).symm))]
            rfl
          subst hf
          clear hxy
          go_wp2_with fail
          go_ret
          exact ⟨rfl, HK2.out.trans HKE.out⟩
      · obtain rfl : k = n := by omega
        have hf : bb = true := by
          rw [← HBB.out]
          have e : p.addrs = q.addrs := by
            have := HT.out
            rwa [List.take_of_length_le (by rw [HN.out]; exact Nat.le_refl _), List.take_of_length_le (by rw [HM.out]; exact Nat.le_refl _)] at this
          rw [decide_eq_true e]; rfl
        subst hf
        go_wp2_with fail
        go_ret
        exact ⟨rfl, HK2.out.trans HKR.out⟩
    · have hf : bb = false := by
        rw [← HBB.out, decide_eq_false (fun e => hnm (by rw [← HN.out, ← HM.out, e]))]; rfl
      subst hf
      have hnmi : ((n : Int) != (m : Int)) = true := by simp; omega
      go_wp2_with fail
      go_ret
      exact ⟨rfl, HK.out⟩

set_option maxHeartbeats 8000000 in
theorem sameU_any (w : World) (v u : Value) (p q : Ub) (h0 : UbV w v p) (h1 : UbV w u q) : Calls Tryz.prog 17 #[.agg (ubCs v p).toArray, .agg (ubCs u q).toArray] w (TherePost w (p.eqB q)) := by
  obtain ⟨oa, ca, hv, -, -⟩ := h0.root.rd.form
  subst hv
  obtain ⟨ob, cb, hv, -, -⟩ := h1.root.rd.form
  subst hv
  obtain ⟨n, hn⟩ : ∃ x, p.root.addrs.length = x := ⟨_, rfl⟩
  obtain ⟨m, hm⟩ : ∃ x, q.root.addrs.length = x := ⟨_, rfl⟩
  rw [hn] at h0 ⊢
  rw [hm] at h1 ⊢
  obtain ⟨w1, hw1⟩ : ∃ w1, (w.alloc (.cells (ubCs (.slice oa n ca) p).toArray 36)).alloc (.cells (ubCs (.slice ob m cb) q).toArray 36) = w1 := ⟨_, rfl⟩
  have hb_0 : w1.heap[w.heap.size]? = some (.cells (ubCs (.slice oa n ca) p).toArray 36 (0, 0)) := by rw [← hw1]; exact heap_alloc2_old _ _ _
  have hb_1 : w1.heap[w.heap.size + 1]? = some (.cells (ubCs (.slice ob m cb) q).toArray 36 (0, 0)) := by rw [← hw1]; exact heap_alloc2_new _ _ _
  have hk1 : Keep noBlk w w1 := by rw [← hw1]; exact ((Keep.refl _ _).alloc _).alloc _
  obtain ⟨a0, r0, b0, d0⟩ := ub_mem h0.root.sum (rangeAt_whole hb_0)
  obtain ⟨e0, f0, g0, -⟩ := pt_mem r0
  have HP0 := Lib.hid d0; have HR0 := Lib.hid r0; have HB0 := Lib.hid hb_0
  have hl0 : (ptCs (.slice oa n ca) p.root).length = 35 := ptCs_len h0.root.sum
  have hm0 : (p.pool.map vb).length = 32 := by rw [List.length_map]; exact h0.pool
  simp only [Nat.zero_add] at a0 b0 e0 f0 g0
  obtain ⟨a1, r1, b1, d1⟩ := ub_mem h1.root.sum (rangeAt_whole hb_1)
  obtain ⟨e1, f1, g1, -⟩ := pt_mem r1
  have HP1 := Lib.hid d1; have HR1 := Lib.hid r1; have HB1 := Lib.hid hb_1
  have hl1 : (ptCs (.slice ob m cb) q.root).length = 35 := ptCs_len h1.root.sum
  have hm1 : (q.pool.map vb).length = 32 := by rw [List.length_map]; exact h1.pool
  simp only [Nat.zero_add] at a1 b1 e1 f1 g1
  have HK := Lib.hid hk1
  have HL := Lib.hid (samePt_any w1 _ _ p.root q.root (h0.root.keep hk1 fun _ _ => id) (h1.root.keep hk1 fun _ _ => id))
  have heq := eqID p.pool q.pool h0.pool h1.pool
  obtain ⟨t1, ht1⟩ : ∃ t : Bool, (p.txg == q.txg) = t := ⟨_, rfl⟩
  obtain ⟨t2, ht2⟩ : ∃ t : Bool, (p.len == q.len) = t := ⟨_, rfl⟩
  obtain ⟨t3, ht3⟩ : ∃ t : Bool, decide (p.pool = q.pool) = t := ⟨_, rfl⟩
  obtain ⟨t4, ht4⟩ : ∃ t : Bool, p.root.eqB q.root = t := ⟨_, rfl⟩
  have HS := Lib.hid (show p.eqB q = (t1 && t2 && t3 && t4) by unfold Ub.eqB; rw [ht1, ht2, ht3, ht4])
  rw [ht4] at HL
  rw [ht3] at heq
  obtain ⟨pc, hpc⟩ : ∃ x, ptCs (.slice oa n ca) p.root = x := ⟨_, rfl⟩
  have Hpc := Lib.hid hpc
  obtain ⟨qc, hqc⟩ : ∃ x, ptCs (.slice ob m cb) q.root = x := ⟨_, rfl⟩
  have Hqc := Lib.hid hqc
  obtain ⟨uc, huc⟩ : ∃ x, ubCs (.slice oa n ca) p = x := ⟨_, rfl⟩
  have Huc := Lib.hid huc
  obtain ⟨vc, hvc⟩ : ∃ x, ubCs (.slice ob m cb) q = x := ⟨_, rfl⟩
  have Hvc := Lib.hid hvc
  obtain ⟨ss, hss⟩ : ∃ x, p.pool.map vb = x := ⟨_, rfl⟩
  have Hss := Lib.hid hss
  obtain ⟨zz, hzz⟩ : ∃ x, q.pool.map vb = x := ⟨_, rfl⟩
  have Hzz := Lib.hid hzz
  rw [hpc] at HL hl0 HR0
  rw [hqc] at HL hl1 HR1
  rw [huc, hvc] at hw1 ⊢
  rw [hss] at HP0 hm0 heq
  rw [hzz] at HP1 hm1 heq
  clear ht3 ht4 hb_0 hb_1 d0 d1 r0 r1 hk1 hpc hqc huc hvc hss hzz h0 h1 HB0 HB1 hn hm
  cases t1
  · skip
    go_enter Tryz.func17, Tryz.ntmps17
    go_wp2_with (first
      | ((with_reducible show wpList _ _ _ (⟨_, .load 32 (.tmp 18), _, _, _, _⟩ :: _) _ _); refine wpList_load_g (by rfl) 32 (.tmp 18) rfl (w.heap.size) 37 rfl ss _ HP0.out Tryz.underlying32 rfl (sizeIDL hm0) ?_)
      | ((with_reducible show wpList _ _ _ (⟨_, .load 32 (.tmp 20), _, _, _, _⟩ :: _) _ _); refine wpList_load_g (by rfl) 32 (.tmp 20) rfl (w.heap.size + 1) 37 rfl zz _ HP1.out Tryz.underlying32 rfl (sizeIDL hm1) ?_)
      | ((with_reducible show wpList _ _ _ (⟨_, .load 34 (.tmp 25), _, _, _, _⟩ :: _) _ _); refine wpList_load_g (by rfl) 34 (.tmp 25) rfl (w.heap.size) 1 rfl pc _ HR0.out ptUnder rfl (sizePtL hl0) ?_)
      | ((with_reducible show wpList _ _ _ (⟨_, .load 34 (.tmp 27), _, _, _, _⟩ :: _) _ _); refine wpList_load_g (by rfl) 34 (.tmp 27) rfl (w.heap.size + 1) 1 rfl qc _ HR1.out ptUnder rfl (sizePtL hl1) ?_))
    go_ret
    exact ⟨by rw [HS.out]; rfl, HK.out⟩
  · skip
    cases t2
    · skip
      go_enter Tryz.func17, Tryz.ntmps17
      go_wp2_with (first
        | ((with_reducible show wpList _ _ _ (⟨_, .load 32 (.tmp 18), _, _, _, _⟩ :: _) _ _); refine wpList_load_g (by rfl) 32 (.tmp 18) rfl (w.heap.size) 37 rfl ss _ HP0.out Tryz.underlying32 rfl (sizeIDL hm0) ?_)
        | ((with_reducible show wpList _ _ _ (⟨_, .load 32 (.tmp 20), _, _, _, _⟩ :: _) _ _); refine wpList_load_g (by rfl) 32 (.tmp 20) rfl (w.heap.size + 1) 37 rfl zz _ HP1.out Tryz.underlying32 rfl (sizeIDL hm1) ?_)
        | ((with_reducible show wpList _ _ _ (⟨_, .load 34 (.tmp 25), _, _, _, _⟩ :: _) _ _); refine wpList_load_g (by rfl) 34 (.tmp 25) rfl (w.heap.size) 1 rfl pc _ HR0.out ptUnder rfl (sizePtL hl0) ?_)
        | ((with_reducible show wpList _ _ _ (⟨_, .load 34 (.tmp 27), _, _, _, _⟩ :: _) _ _); refine wpList_load_g (by rfl) 34 (.tmp 27) rfl (w.heap.size + 1) 1 rfl qc _ HR1.out ptUnder rfl (sizePtL hl1) ?_))
      go_ret
      exact ⟨by rw [HS.out]; rfl, HK.out⟩
    · skip
      cases t3
      · skip
        go_enter Tryz.func17, Tryz.ntmps17
        go_wp2_with (first
          | ((with_reducible show wpList _ _ _ (⟨_, .load 32 (.tmp 18), _, _, _, _⟩ :: _) _ _); refine wpList_load_g (by rfl) 32 (.tmp 18) rfl (w.heap.size) 37 rfl ss _ HP0.out Tryz.underlying32 rfl (sizeIDL hm0) ?_)
          | ((with_reducible show wpList _ _ _ (⟨_, .load 32 (.tmp 20), _, _, _, _⟩ :: _) _ _); refine wpList_load_g (by rfl) 32 (.tmp 20) rfl (w.heap.size + 1) 37 rfl zz _ HP1.out Tryz.underlying32 rfl (sizeIDL hm1) ?_)
          | ((with_reducible show wpList _ _ _ (⟨_, .load 34 (.tmp 25), _, _, _, _⟩ :: _) _ _); refine wpList_load_g (by rfl) 34 (.tmp 25) rfl (w.heap.size) 1 rfl pc _ HR0.out ptUnder rfl (sizePtL hl0) ?_)
          | ((with_reducible show wpList _ _ _ (⟨_, .load 34 (.tmp 27), _, _, _, _⟩ :: _) _ _); refine wpList_load_g (by rfl) 34 (.tmp 27) rfl (w.heap.size + 1) 1 rfl qc _ HR1.out ptUnder rfl (sizePtL hl1) ?_))
        go_ret
        exact ⟨by rw [HS.out]; rfl, HK.out⟩
      · skip
        go_enter Tryz.func17, Tryz.ntmps17
        go_wp2_with (first
          | ((with_reducible show wpList _ _ _ (⟨_, .load 32 (.tmp 18), _, _, _, _⟩ :: _) _ _); refine wpList_load_g (by rfl) 32 (.tmp 18) rfl (w.heap.size) 37 rfl ss _ HP0.out Tryz.underlying32 rfl (sizeIDL hm0) ?_)
          | ((with_reducible show wpList _ _ _ (⟨_, .load 32 (.tmp 20), _, _, _, _⟩ :: _) _ _); refine wpList_load_g (by rfl) 32 (.tmp 20) rfl (w.heap.size + 1) 37 rfl zz _ HP1.out Tryz.underlying32 rfl (sizeIDL hm1) ?_)
          | ((with_reducible show wpList _ _ _ (⟨_, .load 34 (.tmp 25), _, _, _, _⟩ :: _) _ _); refine wpList_load_g (by rfl) 34 (.tmp 25) rfl (w.heap.size) 1 rfl pc _ HR0.out ptUnder rfl (sizePtL hl0) ?_)
          | ((with_reducible show wpList _ _ _ (⟨_, .load 34 (.tmp 27), _, _, _, _⟩ :: _) _ _); refine wpList_load_g (by rfl) 34 (.tmp 27) rfl (w.heap.size + 1) 1 rfl qc _ HR1.out ptUnder rfl (sizePtL hl1) ?_))
        refine HL.out.mono ?_
        rintro e w2 ⟨rfl, hk⟩
        have HK := Lib.hid (HK.out.trans hk)
        clear hk HL
        cases t4 <;> (
          go_wp2_with fail
          go_ret
          exact ⟨by rw [HS.out]; rfl, HK.out⟩)

set_option maxHeartbeats 8000000 in
theorem rsameU_any (w : World) (v u : Value) (p q : Ub) (h0 : UbV w v p) (h1 : UbV w u q) : Calls Tryz.prog 36 #[.agg (ubCs v p).toArray, .agg (ubCs u q).toArray] w (TherePost w (p.eqB q)) := by
  obtain ⟨oa, ca, hv, -, -⟩ := h0.root.rd.form
  subst hv
  obtain ⟨ob, cb, hv, -, -⟩ := h1.root.rd.form
  subst hv
  obtain ⟨n, hn⟩ : ∃ x, p.root.addrs.length = x := ⟨_, rfl⟩
  obtain ⟨m, hm⟩ : ∃ x, q.root.addrs.length = x := ⟨_, rfl⟩
  rw [hn] at h0 ⊢
  rw [hm] at h1 ⊢
  obtain ⟨w1, hw1⟩ : ∃ w1, (w.alloc (.cells (ubCs (.slice oa n ca) p).toArray 36)).alloc (.cells (ubCs (.slice ob m cb) q).toArray 36) = w1 := ⟨_, rfl⟩
  have hb_0 : w1.heap[w.heap.size]? = some (.cells (ubCs (.slice oa n ca) p).toArray 36 (0, 0)) := by rw [← hw1]; exact heap_alloc2_old _ _ _
  have hb_1 : w1.heap[w.heap.size + 1]? = some (.cells (ubCs (.slice ob m cb) q).toArray 36 (0, 0)) := by rw [← hw1]; exact heap_alloc2_new _ _ _
  have hk1 : Keep noBlk w w1 := by rw [← hw1]; exact ((Keep.refl _ _).alloc _).alloc _
  obtain ⟨a0, r0, b0, d0⟩ := ub_mem h0.root.sum (rangeAt_whole hb_0)
  obtain ⟨e0, f0, g0, -⟩ := pt_mem r0
  have HP0 := Lib.hid d0; have HR0 := Lib.hid r0; have HB0 := Lib.hid hb_0
  have hl0 : (ptCs (.slice oa n ca) p.root).length = 35 := ptCs_len h0.root.sum
  have hm0 : (p.pool.map vb).length = 32 := by rw [List.length_map]; exact h0.pool
  simp only [Nat.zero_add] at a0 b0 e0 f0 g0
  obtain ⟨a1, r1, b1, d1⟩ := ub_mem h1.root.sum (rangeAt_whole hb_1)
  obtain ⟨e1, f1, g1, -⟩ := pt_mem r1
  have HP1 := Lib.hid d1; have HR1 := Lib.hid r1; have HB1 := Lib.hid hb_1
  have hl1 : (ptCs (.slice ob m cb) q.root).length = 35 := ptCs_len h1.root.sum
  have hm1 : (q.pool.map vb).length = 32 := by rw [List.length_map]; exact h1.pool
  simp only [Nat.zero_add] at a1 b1 e1 f1 g1
  have HK := Lib.hid hk1
  have HL := Lib.hid (rsamePt_any w1 _ _ p.root q.root (h0.root.keep hk1 fun _ _ => id) (h1.root.keep hk1 fun _ _ => id))
  have heq := eqID p.pool q.pool h0.pool h1.pool
  obtain ⟨t1, ht1⟩ : ∃ t : Bool, (p.txg == q.txg) = t := ⟨_, rfl⟩
  obtain ⟨t2, ht2⟩ : ∃ t : Bool, (p.len == q.len) = t := ⟨_, rfl⟩
  obtain ⟨t3, ht3⟩ : ∃ t : Bool, decide (p.pool = q.pool) = t := ⟨_, rfl⟩
  obtain ⟨t4, ht4⟩ : ∃ t : Bool, p.root.eqB q.root = t := ⟨_, rfl⟩
  have HS := Lib.hid (show p.eqB q = (t1 && t2 && t3 && t4) by unfold Ub.eqB; rw [ht1, ht2, ht3, ht4])
  rw [ht4] at HL
  rw [ht3] at heq
  obtain ⟨pc, hpc⟩ : ∃ x, ptCs (.slice oa n ca) p.root = x := ⟨_, rfl⟩
  have Hpc := Lib.hid hpc
  obtain ⟨qc, hqc⟩ : ∃ x, ptCs (.slice ob m cb) q.root = x := ⟨_, rfl⟩
  have Hqc := Lib.hid hqc
  obtain ⟨uc, huc⟩ : ∃ x, ubCs (.slice oa n ca) p = x := ⟨_, rfl⟩
  have Huc := Lib.hid huc
  obtain ⟨vc, hvc⟩ : ∃ x, ubCs (.slice ob m cb) q = x := ⟨_, rfl⟩
  have Hvc := Lib.hid hvc
  obtain ⟨ss, hss⟩ : ∃ x, p.pool.map vb = x := ⟨_, rfl⟩
  have Hss := Lib.hid hss
  obtain ⟨zz, hzz⟩ : ∃ x, q.pool.map vb = x := ⟨_, rfl⟩
  have Hzz := Lib.hid hzz
  rw [hpc] at HL hl0 HR0
  rw [hqc] at HL hl1 HR1
  rw [huc, hvc] at hw1 ⊢
  rw [hss] at HP0 hm0 heq
  rw [hzz] at HP1 hm1 heq
  clear ht3 ht4 hb_0 hb_1 d0 d1 r0 r1 hk1 hpc hqc huc hvc hss hzz h0 h1 HB0 HB1 hn hm
  cases t1
  · skip
    go_enter Tryz.func36, Tryz.ntmps36
    go_wp2_with (first
      | ((with_reducible show wpList _ _ _ (⟨_, .load 32 (.tmp 18), _, _, _, _⟩ :: _) _ _); refine wpList_load_g (by rfl) 32 (.tmp 18) rfl (w.heap.size) 37 rfl ss _ HP0.out Tryz.underlying32 rfl (sizeIDL hm0) ?_)
      | ((with_reducible show wpList _ _ _ (⟨_, .load 32 (.tmp 20), _, _, _, _⟩ :: _) _ _); refine wpList_load_g (by rfl) 32 (.tmp 20) rfl (w.heap.size + 1) 37 rfl zz _ HP1.out Tryz.underlying32 rfl (sizeIDL hm1) ?_)
      | ((with_reducible show wpList _ _ _ (⟨_, .load 34 (.tmp 25), _, _, _, _⟩ :: _) _ _); refine wpList_load_g (by rfl) 34 (.tmp 25) rfl (w.heap.size) 1 rfl pc _ HR0.out ptUnder rfl (sizePtL hl0) ?_)
      | ((with_reducible show wpList _ _ _ (⟨_, .load 34 (.tmp 27), _, _, _, _⟩ :: _) _ _); refine wpList_load_g (by rfl) 34 (.tmp 27) rfl (w.heap.size + 1) 1 rfl qc _ HR1.out ptUnder rfl (sizePtL hl1) ?_))
    go_ret
    exact ⟨by rw [HS.out]; rfl, HK.out⟩
  · skip
    cases t2
    · skip
      go_enter Tryz.func36, Tryz.ntmps36
      go_wp2_with (first
        | ((with_reducible show wpList _ _ _ (⟨_, .load 32 (.tmp 18), _, _, _, _⟩ :: _) _ _); refine wpList_load_g (by rfl) 32 (.tmp 18) rfl (w.heap.size) 37 rfl ss _ HP0.out Tryz.underlying32 rfl (sizeIDL hm0) ?_)
        | ((with_reducible show wpList _ _ _ (⟨_, .load 32 (.tmp 20), _, _, _, _⟩ :: _) _ _); refine wpList_load_g (by rfl) 32 (.tmp 20) rfl (w.heap.size + 1) 37 rfl zz _ HP1.out Tryz.underlying32 rfl (sizeIDL hm1) ?_)
        | ((with_reducible show wpList _ _ _ (⟨_, .load 34 (.tmp 25), _, _, _, _⟩ :: _) _ _); refine wpList_load_g (by rfl) 34 (.tmp 25) rfl (w.heap.size) 1 rfl pc _ HR0.out ptUnder rfl (sizePtL hl0) ?_)
        | ((with_reducible show wpList _ _ _ (⟨_, .load 34 (.tmp 27), _, _, _, _⟩ :: _) _ _); refine wpList_load_g (by rfl) 34 (.tmp 27) rfl (w.heap.size + 1) 1 rfl qc _ HR1.out ptUnder rfl (sizePtL hl1) ?_))
      go_ret
      exact ⟨by rw [HS.out]; rfl, HK.out⟩
    · skip
      cases t3
      · skip
        go_enter Tryz.func36, Tryz.ntmps36
        go_wp2_with (first
          | ((with_reducible show wpList _ _ _ (⟨_, .load 32 (.tmp 18), _, _, _, _⟩ :: _) _ _); refine wpList_load_g (by rfl) 32 (.tmp 18) rfl (w.heap.size) 37 rfl ss _ HP0.out Tryz.underlying32 rfl (sizeIDL hm0) ?_)
          | ((with_reducible show wpList _ _ _ (⟨_, .load 32 (.tmp 20), _, _, _, _⟩ :: _) _ _); refine wpList_load_g (by rfl) 32 (.tmp 20) rfl (w.heap.size + 1) 37 rfl zz _ HP1.out Tryz.underlying32 rfl (sizeIDL hm1) ?_)
          | ((with_reducible show wpList _ _ _ (⟨_, .load 34 (.tmp 25), _, _, _, _⟩ :: _) _ _); refine wpList_load_g (by rfl) 34 (.tmp 25) rfl (w.heap.size) 1 rfl pc _ HR0.out ptUnder rfl (sizePtL hl0) ?_)
          | ((with_reducible show wpList _ _ _ (⟨_, .load 34 (.tmp 27), _, _, _, _⟩ :: _) _ _); refine wpList_load_g (by rfl) 34 (.tmp 27) rfl (w.heap.size + 1) 1 rfl qc _ HR1.out ptUnder rfl (sizePtL hl1) ?_))
        go_ret
        exact ⟨by rw [HS.out]; rfl, HK.out⟩
      · skip
        go_enter Tryz.func36, Tryz.ntmps36
        go_wp2_with (first
          | ((with_reducible show wpList _ _ _ (⟨_, .load 32 (.tmp 18), _, _, _, _⟩ :: _) _ _); refine wpList_load_g (by rfl) 32 (.tmp 18) rfl (w.heap.size) 37 rfl ss _ HP0.out Tryz.underlying32 rfl (sizeIDL hm0) ?_)
          | ((with_reducible show wpList _ _ _ (⟨_, .load 32 (.tmp 20), _, _, _, _⟩ :: _) _ _); refine wpList_load_g (by rfl) 32 (.tmp 20) rfl (w.heap.size + 1) 37 rfl zz _ HP1.out Tryz.underlying32 rfl (sizeIDL hm1) ?_)
          | ((with_reducible show wpList _ _ _ (⟨_, .load 34 (.tmp 25), _, _, _, _⟩ :: _) _ _); refine wpList_load_g (by rfl) 34 (.tmp 25) rfl (w.heap.size) 1 rfl pc _ HR0.out ptUnder rfl (sizePtL hl0) ?_)
          | ((with_reducible show wpList _ _ _ (⟨_, .load 34 (.tmp 27), _, _, _, _⟩ :: _) _ _); refine wpList_load_g (by rfl) 34 (.tmp 27) rfl (w.heap.size + 1) 1 rfl qc _ HR1.out ptUnder rfl (sizePtL hl1) ?_))
        refine HL.out.mono ?_
        rintro e w2 ⟨rfl, hk⟩
        have HK := Lib.hid (HK.out.trans hk)
        clear hk HL
        cases t4 <;> (
          go_wp2_with fail
          go_ret
          exact ⟨by rw [HS.out]; rfl, HK.out⟩)

set_option maxHeartbeats 8000000 in
theorem kitU_any (w : World) (v u : Value) (p q : Ub) (h0 : UbV w v p) (h1 : UbV w u q) : Calls Tryz.prog 37 #[.agg (ubCs v p).toArray, .agg (ubCs u q).toArray] w (TherePost w (p.eqB q)) := by
  obtain ⟨oa, ca, hv, -, -⟩ := h0.root.rd.form
  subst hv
  obtain ⟨ob, cb, hv, -, -⟩ := h1.root.rd.form
  subst hv
  obtain ⟨n, hn⟩ : ∃ x, p.root.addrs.length = x := ⟨_, rfl⟩
  obtain ⟨m, hm⟩ : ∃ x, q.root.addrs.length = x := ⟨_, rfl⟩
  rw [hn] at h0 ⊢
  rw [hm] at h1 ⊢
  obtain ⟨w1, hw1⟩ : ∃ w1, (w.alloc (.cells (ubCs (.slice oa n ca) p).toArray 36)).alloc (.cells (ubCs (.slice ob m cb) q).toArray 36) = w1 := ⟨_, rfl⟩
  have hb_0 : w1.heap[w.heap.size]? = some (.cells (ubCs (.slice oa n ca) p).toArray 36 (0, 0)) := by rw [← hw1]; exact heap_alloc2_old _ _ _
  have hb_1 : w1.heap[w.heap.size + 1]? = some (.cells (ubCs (.slice ob m cb) q).toArray 36 (0, 0)) := by rw [← hw1]; exact heap_alloc2_new _ _ _
  have hk1 : Keep noBlk w w1 := by rw [← hw1]; exact ((Keep.refl _ _).alloc _).alloc _
  obtain ⟨a0, r0, b0, d0⟩ := ub_mem h0.root.sum (rangeAt_whole hb_0)
  obtain ⟨e0, f0, g0, -⟩ := pt_mem r0
  have HP0 := Lib.hid d0; have HR0 := Lib.hid r0; have HB0 := Lib.hid hb_0
  have hl0 : (ptCs (.slice oa n ca) p.root).length = 35 := ptCs_len h0.root.sum
  have hm0 : (p.pool.map vb).length = 32 := by rw [List.length_map]; exact h0.pool
  simp only [Nat.zero_add] at a0 b0 e0 f0 g0
  obtain ⟨a1, r1, b1, d1⟩ := ub_mem h1.root.sum (rangeAt_whole hb_1)
  obtain ⟨e1, f1, g1, -⟩ := pt_mem r1
  have HP1 := Lib.hid d1; have HR1 := Lib.hid r1; have HB1 := Lib.hid hb_1
  have hl1 : (ptCs (.slice ob m cb) q.root).length = 35 := ptCs_len h1.root.sum
  have hm1 : (q.pool.map vb).length = 32 := by rw [List.length_map]; exact h1.pool
  simp only [Nat.zero_add] at a1 b1 e1 f1 g1
  have HK := Lib.hid hk1
  have HL := Lib.hid (kitPt_any w1 _ _ p.root q.root (h0.root.keep hk1 fun _ _ => id) (h1.root.keep hk1 fun _ _ => id))
  have heq := eqID p.pool q.pool h0.pool h1.pool
  obtain ⟨t1, ht1⟩ : ∃ t : Bool, (p.txg == q.txg) = t := ⟨_, rfl⟩
  obtain ⟨t2, ht2⟩ : ∃ t : Bool, (p.len == q.len) = t := ⟨_, rfl⟩
  obtain ⟨t3, ht3⟩ : ∃ t : Bool, decide (p.pool = q.pool) = t := ⟨_, rfl⟩
  obtain ⟨t4, ht4⟩ : ∃ t : Bool, p.root.eqB q.root = t := ⟨_, rfl⟩
  have HS := Lib.hid (show p.eqB q = (t1 && t2 && t3 && t4) by unfold Ub.eqB; rw [ht1, ht2, ht3, ht4])
  rw [ht4] at HL
  rw [ht3] at heq
  obtain ⟨pc, hpc⟩ : ∃ x, ptCs (.slice oa n ca) p.root = x := ⟨_, rfl⟩
  have Hpc := Lib.hid hpc
  obtain ⟨qc, hqc⟩ : ∃ x, ptCs (.slice ob m cb) q.root = x := ⟨_, rfl⟩
  have Hqc := Lib.hid hqc
  obtain ⟨uc, huc⟩ : ∃ x, ubCs (.slice oa n ca) p = x := ⟨_, rfl⟩
  have Huc := Lib.hid huc
  obtain ⟨vc, hvc⟩ : ∃ x, ubCs (.slice ob m cb) q = x := ⟨_, rfl⟩
  have Hvc := Lib.hid hvc
  obtain ⟨ss, hss⟩ : ∃ x, p.pool.map vb = x := ⟨_, rfl⟩
  have Hss := Lib.hid hss
  obtain ⟨zz, hzz⟩ : ∃ x, q.pool.map vb = x := ⟨_, rfl⟩
  have Hzz := Lib.hid hzz
  rw [hpc] at HL hl0 HR0
  rw [hqc] at HL hl1 HR1
  rw [huc, hvc] at hw1 ⊢
  rw [hss] at HP0 hm0 heq
  rw [hzz] at HP1 hm1 heq
  clear ht3 ht4 hb_0 hb_1 d0 d1 r0 r1 hk1 hpc hqc huc hvc hss hzz h0 h1 HB0 HB1 hn hm
  cases t1
  · skip
    go_enter Tryz.func37, Tryz.ntmps37
    go_wp2_with (first
      | ((with_reducible show wpList _ _ _ (⟨_, .load 32 (.tmp 18), _, _, _, _⟩ :: _) _ _); refine wpList_load_g (by rfl) 32 (.tmp 18) rfl (w.heap.size) 37 rfl ss _ HP0.out Tryz.underlying32 rfl (sizeIDL hm0) ?_)
      | ((with_reducible show wpList _ _ _ (⟨_, .load 32 (.tmp 20), _, _, _, _⟩ :: _) _ _); refine wpList_load_g (by rfl) 32 (.tmp 20) rfl (w.heap.size + 1) 37 rfl zz _ HP1.out Tryz.underlying32 rfl (sizeIDL hm1) ?_)
      | ((with_reducible show wpList _ _ _ (⟨_, .load 34 (.tmp 25), _, _, _, _⟩ :: _) _ _); refine wpList_load_g (by rfl) 34 (.tmp 25) rfl (w.heap.size) 1 rfl pc _ HR0.out ptUnder rfl (sizePtL hl0) ?_)
      | ((with_reducible show wpList _ _ _ (⟨_, .load 34 (.tmp 27), _, _, _, _⟩ :: _) _ _); refine wpList_load_g (by rfl) 34 (.tmp 27) rfl (w.heap.size + 1) 1 rfl qc _ HR1.out ptUnder rfl (sizePtL hl1) ?_))
    go_ret
    exact ⟨by rw [HS.out]; rfl, HK.out⟩
  · skip
    cases t2
    · skip
      go_enter Tryz.func37, Tryz.ntmps37
      go_wp2_with (first
        | ((with_reducible show wpList _ _ _ (⟨_, .load 32 (.tmp 18), _, _, _, _⟩ :: _) _ _); refine wpList_load_g (by rfl) 32 (.tmp 18) rfl (w.heap.size) 37 rfl ss _ HP0.out Tryz.underlying32 rfl (sizeIDL hm0) ?_)
        | ((with_reducible show wpList _ _ _ (⟨_, .load 32 (.tmp 20), _, _, _, _⟩ :: _) _ _); refine wpList_load_g (by rfl) 32 (.tmp 20) rfl (w.heap.size + 1) 37 rfl zz _ HP1.out Tryz.underlying32 rfl (sizeIDL hm1) ?_)
        | ((with_reducible show wpList _ _ _ (⟨_, .load 34 (.tmp 25), _, _, _, _⟩ :: _) _ _); refine wpList_load_g (by rfl) 34 (.tmp 25) rfl (w.heap.size) 1 rfl pc _ HR0.out ptUnder rfl (sizePtL hl0) ?_)
        | ((with_reducible show wpList _ _ _ (⟨_, .load 34 (.tmp 27), _, _, _, _⟩ :: _) _ _); refine wpList_load_g (by rfl) 34 (.tmp 27) rfl (w.heap.size + 1) 1 rfl qc _ HR1.out ptUnder rfl (sizePtL hl1) ?_))
      go_ret
      exact ⟨by rw [HS.out]; rfl, HK.out⟩
    · skip
      cases t3
      · skip
        go_enter Tryz.func37, Tryz.ntmps37
        go_wp2_with (first
          | ((with_reducible show wpList _ _ _ (⟨_, .load 32 (.tmp 18), _, _, _, _⟩ :: _) _ _); refine wpList_load_g (by rfl) 32 (.tmp 18) rfl (w.heap.size) 37 rfl ss _ HP0.out Tryz.underlying32 rfl (sizeIDL hm0) ?_)
          | ((with_reducible show wpList _ _ _ (⟨_, .load 32 (.tmp 20), _, _, _, _⟩ :: _) _ _); refine wpList_load_g (by rfl) 32 (.tmp 20) rfl (w.heap.size + 1) 37 rfl zz _ HP1.out Tryz.underlying32 rfl (sizeIDL hm1) ?_)
          | ((with_reducible show wpList _ _ _ (⟨_, .load 34 (.tmp 25), _, _, _, _⟩ :: _) _ _); refine wpList_load_g (by rfl) 34 (.tmp 25) rfl (w.heap.size) 1 rfl pc _ HR0.out ptUnder rfl (sizePtL hl0) ?_)
          | ((with_reducible show wpList _ _ _ (⟨_, .load 34 (.tmp 27), _, _, _, _⟩ :: _) _ _); refine wpList_load_g (by rfl) 34 (.tmp 27) rfl (w.heap.size + 1) 1 rfl qc _ HR1.out ptUnder rfl (sizePtL hl1) ?_))
        go_ret
        exact ⟨by rw [HS.out]; rfl, HK.out⟩
      · skip
        go_enter Tryz.func37, Tryz.ntmps37
        go_wp2_with (first
          | ((with_reducible show wpList _ _ _ (⟨_, .load 32 (.tmp 18), _, _, _, _⟩ :: _) _ _); refine wpList_load_g (by rfl) 32 (.tmp 18) rfl (w.heap.size) 37 rfl ss _ HP0.out Tryz.underlying32 rfl (sizeIDL hm0) ?_)
          | ((with_reducible show wpList _ _ _ (⟨_, .load 32 (.tmp 20), _, _, _, _⟩ :: _) _ _); refine wpList_load_g (by rfl) 32 (.tmp 20) rfl (w.heap.size + 1) 37 rfl zz _ HP1.out Tryz.underlying32 rfl (sizeIDL hm1) ?_)
          | ((with_reducible show wpList _ _ _ (⟨_, .load 34 (.tmp 25), _, _, _, _⟩ :: _) _ _); refine wpList_load_g (by rfl) 34 (.tmp 25) rfl (w.heap.size) 1 rfl pc _ HR0.out ptUnder rfl (sizePtL hl0) ?_)
          | ((with_reducible show wpList _ _ _ (⟨_, .load 34 (.tmp 27), _, _, _, _⟩ :: _) _ _); refine wpList_load_g (by rfl) 34 (.tmp 27) rfl (w.heap.size + 1) 1 rfl qc _ HR1.out ptUnder rfl (sizePtL hl1) ?_))
        refine HL.out.mono ?_
        rintro e w2 ⟨rfl, hk⟩
        have HK := Lib.hid (HK.out.trans hk)
        clear hk HL
        cases t4 <;> (
          go_wp2_with fail
          go_ret
          exact ⟨by rw [HS.out]; rfl, HK.out⟩)

end Go.Proofs.YtaiicjhnhbkgmaaGreatDoor
