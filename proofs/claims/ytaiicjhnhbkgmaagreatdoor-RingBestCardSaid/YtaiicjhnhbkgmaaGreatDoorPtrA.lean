/-
  Block pointers: holes, likeness.
  Conditions: those told.
-/
import Derived.Test.YtaiicjhnhbkgmaaGreatDoorPtrL
import Derived.Test.YtaiicjhnhbkgmaaGreatDoorCopy
namespace Go.Proofs.YtaiicjhnhbkgmaaGreatDoor
open Go.RowKit Go.Maps Go.ChangeMaps
set_option maxRecDepth 100000
set_option linter.unusedVariables false
set_option maxHeartbeats 4000000 in
theorem noth_any (w : World) (v : Value) (p : Pt) (h0 : PtV w v p) : Calls Tryz.prog 63 #[.agg (ptCs v p).toArray] w (TherePost w p.noth) := by
  obtain ⟨w1, hw1, hk1, hb_0, hs1⟩ := alloc_facts w (ptCs v p).toArray 34
  obtain ⟨a0, b0, c0, d0⟩ := pt_mem (rangeAt_whole hb_0)
  have HP0 := Lib.hid d0; have HB0 := Lib.hid hb_0
  have hl0 : (ptCs v p).length = 35 := ptCs_len h0.sum
  simp only [Nat.zero_add] at a0 b0 c0
  have HK := Lib.hid hk1
  have heq := eqID p.sum zeros32 h0.sum rfl
  have hsl : (p.sum.map vb).length = 32 := by rw [List.length_map]; exact h0.sum
  obtain ⟨t1, ht1⟩ : ∃ t : Bool, (p.birth == 0) = t := ⟨_, rfl⟩
  obtain ⟨t2, ht2⟩ : ∃ t : Bool, (p.level == 0) = t := ⟨_, rfl⟩
  obtain ⟨t3, ht3⟩ : ∃ t : Bool, decide (p.sum = zeros32) = t := ⟨_, rfl⟩
  have hs : p.noth = (t1 && t2 && t3) := by unfold Pt.noth; rw [ht1, ht2, ht3]
  rw [hs]
  rw [ht3] at heq
  obtain ⟨ss, hss⟩ : ∃ x, p.sum.map vb = x := ⟨_, rfl⟩
  have Hss := Lib.hid hss
  obtain ⟨pc, hpc⟩ : ∃ x, ptCs v p = x := ⟨_, rfl⟩
  have Hpc := Lib.hid hpc
  rw [hss] at heq hsl HP0
  rw [hpc] at hw1 ⊢
  have heqz : ∀ w, Sem.run Tryz.prog (binOp .eql 32 (.agg ss.toArray) (.agg #[.int .u8 0, .int .u8 0, .int .u8 0, .int .u8 0, .int .u8 0, .int .u8 0, .int .u8 0, .int .u8 0, .int .u8 0, .int .u8 0, .int .u8 0, .int .u8 0, .int .u8 0, .int .u8 0, .int .u8 0, .int .u8 0, .int .u8 0, .int .u8 0, .int .u8 0, .int .u8 0, .int .u8 0, .int .u8 0, .int .u8 0, .int .u8 0, .int .u8 0, .int .u8 0, .int .u8 0, .int .u8 0, .int .u8 0, .int .u8 0, .int .u8 0, .int .u8 0])) w = .ok (.bool t3) w := heq
  clear heq
  clear hs ht3 hb_0 d0 hk1 hs1 hss hpc h0 HB0
  cases t1 <;> cases t2 <;> cases t3 <;> (
    go_enter Tryz.func63, Tryz.ntmps63
    go_wp2_with (first
      | ((with_reducible show wpList _ _ _ (⟨_, .load 32 (.tmp 12), _, _, _, _⟩ :: _) _ _); refine wpList_load_g (by rfl) 32 (.tmp 12) rfl (w.heap.size) 3 rfl ss _ HP0.out Tryz.underlying32 rfl (sizeIDL hsl) ?_))
    go_ret
    exact ⟨rfl, HK.out⟩)

set_option maxHeartbeats 4000000 in
theorem hole_any (w : World) (v : Value) (p : Pt) (h0 : PtV w v p) : Calls Tryz.prog 39 #[.agg (ptCs v p).toArray] w (TherePost w p.hole) := by
  obtain ⟨oa, ca, hv, -, -⟩ := h0.rd.form
  subst hv
  obtain ⟨w1, hw1, hk1, hb_0, hs1⟩ := alloc_facts w (ptCs (.slice oa p.addrs.length ca) p).toArray 34
  obtain ⟨a0, b0, c0, d0⟩ := pt_mem (rangeAt_whole hb_0)
  have HP0 := Lib.hid d0; have HB0 := Lib.hid hb_0
  have hl0 : (ptCs (.slice oa p.addrs.length ca) p).length = 35 := ptCs_len h0.sum
  simp only [Nat.zero_add] at a0 b0 c0
  have HC := Lib.hid (noth_any w1 _ p (h0.keep hk1 fun _ _ => id))
  have HK := Lib.hid hk1
  obtain ⟨t1, ht1⟩ : ∃ t : Bool, ((p.addrs.length : Int) == 0) = t := ⟨_, rfl⟩
  obtain ⟨t2, ht2⟩ : ∃ t : Bool, p.noth = t := ⟨_, rfl⟩
  have hs : p.hole = (t1 && t2) := by unfold Pt.hole; rw [ht1, ht2]
  rw [hs]
  rw [ht2] at HC
  have HR0 := Lib.hid (rangeAt_whole HB0.out)
  obtain ⟨pc, hpc⟩ : ∃ x, ptCs (.slice oa p.addrs.length ca) p = x := ⟨_, rfl⟩
  have Hpc := Lib.hid hpc
  rw [hpc] at hw1 HC hl0 HR0 ⊢
  obtain ⟨n, hn⟩ : ∃ x, p.addrs.length = x := ⟨_, rfl⟩
  have Hn := Lib.hid hn
  rw [hn] at a0 ht1
  have ht1n : decide (n = 0) = t1 := by rw [← ht1, len_zero]
  clear hs ht2 hb_0 d0 hk1 hs1 hpc h0 HB0 HP0 hn
  cases t1
  · go_enter Tryz.func39, Tryz.ntmps39
    go_wp2_with fail
    go_ret
    exact ⟨rfl, HK.out⟩
  · go_enter Tryz.func39, Tryz.ntmps39
    go_wp2_with (first
      | ((with_reducible show wpList _ _ _ (⟨_, .load 34 (.tmp 1), _, _, _, _⟩ :: _) _ _); refine wpList_load_g (by rfl) 34 (.tmp 1) rfl (w.heap.size) 0 rfl pc _ HR0.out ptUnder rfl (sizePtL hl0) ?_))
    refine HC.out.mono ?_
    rintro e w2 ⟨rfl, hk⟩
    have HK2 := Lib.hid (HK.out.trans hk)
    clear hk HC
    cases t2 <;> (
      go_wp2_with fail
      go_ret
      exact ⟨rfl, HK2.out⟩)

set_option maxHeartbeats 4000000 in
theorem rhole_any (w : World) (v : Value) (p : Pt) (h0 : PtV w v p) : Calls Tryz.prog 59 #[.agg (ptCs v p).toArray] w (TherePost w p.hole) := by
  obtain ⟨oa, ca, hv, -, -⟩ := h0.rd.form
  subst hv
  obtain ⟨w1, hw1, hk1, hb_0, hs1⟩ := alloc_facts w (ptCs (.slice oa p.addrs.length ca) p).toArray 34
  obtain ⟨a0, b0, c0, d0⟩ := pt_mem (rangeAt_whole hb_0)
  have HP0 := Lib.hid d0; have HB0 := Lib.hid hb_0
  have hl0 : (ptCs (.slice oa p.addrs.length ca) p).length = 35 := ptCs_len h0.sum
  simp only [Nat.zero_add] at a0 b0 c0
  have HK := Lib.hid hk1
  have heq := eqID p.sum zeros32 h0.sum rfl
  have hsl : (p.sum.map vb).length = 32 := by rw [List.length_map]; exact h0.sum
  obtain ⟨t1, ht1⟩ : ∃ t : Bool, ((p.addrs.length : Int) == 0) = t := ⟨_, rfl⟩
  obtain ⟨t2, ht2⟩ : ∃ t : Bool, (p.birth == 0) = t := ⟨_, rfl⟩
  obtain ⟨t3, ht3⟩ : ∃ t : Bool, (p.level == 0) = t := ⟨_, rfl⟩
  obtain ⟨t4, ht4⟩ : ∃ t : Bool, decide (p.sum = zeros32) = t := ⟨_, rfl⟩
  have hs : p.hole = (t1 && (t2 && t3 && t4)) := by unfold Pt.hole Pt.noth; rw [ht1, ht2, ht3, ht4]
  rw [hs]
  rw [ht4] at heq
  obtain ⟨ss, hss⟩ : ∃ x, p.sum.map vb = x := ⟨_, rfl⟩
  have Hss := Lib.hid hss
  obtain ⟨pc, hpc⟩ : ∃ x, ptCs (.slice oa p.addrs.length ca) p = x := ⟨_, rfl⟩
  have Hpc := Lib.hid hpc
  rw [hss] at heq hsl HP0
  rw [hpc] at hw1 ⊢
  have heqz : ∀ w, Sem.run Tryz.prog (binOp .eql 32 (.agg ss.toArray) (.agg #[.int .u8 0, .int .u8 0, .int .u8 0, .int .u8 0, .int .u8 0, .int .u8 0, .int .u8 0, .int .u8 0, .int .u8 0, .int .u8 0, .int .u8 0, .int .u8 0, .int .u8 0, .int .u8 0, .int .u8 0, .int .u8 0, .int .u8 0, .int .u8 0, .int .u8 0, .int .u8 0, .int .u8 0, .int .u8 0, .int .u8 0, .int .u8 0, .int .u8 0, .int .u8 0, .int .u8 0, .int .u8 0, .int .u8 0, .int .u8 0, .int .u8 0, .int .u8 0])) w = .ok (.bool t4) w := heq
  clear heq
  obtain ⟨n, hn⟩ : ∃ x, p.addrs.length = x := ⟨_, rfl⟩
  have Hn := Lib.hid hn
  rw [hn] at a0 ht1
  have ht1n : decide (n = 0) = t1 := by rw [← ht1, len_zero]
  clear hs ht4 hb_0 d0 hk1 hs1 hss hpc h0 HB0 hn
  cases t1 <;> cases t2 <;> cases t3 <;> cases t4 <;> (
    go_enter Tryz.func59, Tryz.ntmps59
    go_wp2_with (first
      | ((with_reducible show wpList _ _ _ (⟨_, .load 32 (.tmp 18), _, _, _, _⟩ :: _) _ _); refine wpList_load_g (by rfl) 32 (.tmp 18) rfl (w.heap.size) 3 rfl ss _ HP0.out Tryz.underlying32 rfl (sizeIDL hsl) ?_))
    go_ret
    exact ⟨rfl, HK.out⟩)

set_option maxHeartbeats 8000000 in
theorem like_any (w : World) (v u : Value) (p q : Pt) (h0 : PtV w v p) (h1 : PtV w u q) : Calls Tryz.prog 65 #[.agg (ptCs v p).toArray, .agg (ptCs u q).toArray] w (TherePost w (p.like q)) := by
  obtain ⟨oa, ca, hv, -, -⟩ := h0.rd.form
  subst hv
  obtain ⟨ob, cb, hv, -, -⟩ := h1.rd.form
  subst hv
  obtain ⟨w1, hw1⟩ : ∃ w1, (w.alloc (.cells (ptCs (.slice oa p.addrs.length ca) p).toArray 34)).alloc (.cells (ptCs (.slice ob q.addrs.length cb) q).toArray 34) = w1 := ⟨_, rfl⟩
  have hb_0 : w1.heap[w.heap.size]? = some (.cells (ptCs (.slice oa p.addrs.length ca) p).toArray 34 (0, 0)) := by rw [← hw1]; exact heap_alloc2_old _ _ _
  have hb_1 : w1.heap[w.heap.size + 1]? = some (.cells (ptCs (.slice ob q.addrs.length cb) q).toArray 34 (0, 0)) := by rw [← hw1]; exact heap_alloc2_new _ _ _
  have hk1 : Keep noBlk w w1 := by rw [← hw1]; exact ((Keep.refl _ _).alloc _).alloc _
  obtain ⟨a0, b0, c0, d0⟩ := pt_mem (rangeAt_whole hb_0)
  have HP0 := Lib.hid d0; have HB0 := Lib.hid hb_0
  have hl0 : (ptCs (.slice oa p.addrs.length ca) p).length = 35 := ptCs_len h0.sum
  simp only [Nat.zero_add] at a0 b0 c0
  obtain ⟨a1, b1, c1, d1⟩ := pt_mem (rangeAt_whole hb_1)
  have HP1 := Lib.hid d1; have HB1 := Lib.hid hb_1
  have hl1 : (ptCs (.slice ob q.addrs.length cb) q).length = 35 := ptCs_len h1.sum
  simp only [Nat.zero_add] at a1 b1 c1
  have HK := Lib.hid hk1
  have heq := eqID p.sum q.sum h0.sum h1.sum
  have hsl : (p.sum.map vb).length = 32 := by rw [List.length_map]; exact h0.sum
  have hql : (q.sum.map vb).length = 32 := by rw [List.length_map]; exact h1.sum
  obtain ⟨t1, ht1⟩ : ∃ t : Bool, (p.birth == q.birth) = t := ⟨_, rfl⟩
  obtain ⟨t2, ht2⟩ : ∃ t : Bool, (p.level == q.level) = t := ⟨_, rfl⟩
  obtain ⟨t3, ht3⟩ : ∃ t : Bool, decide (p.sum = q.sum) = t := ⟨_, rfl⟩
  obtain ⟨t4, ht4⟩ : ∃ t : Bool, decide (0 < p.addrs.length) = t := ⟨_, rfl⟩
  obtain ⟨t5, ht5⟩ : ∃ t : Bool, decide (0 < q.addrs.length) = t := ⟨_, rfl⟩
  have hs : p.like q = (t1 && t2 && t3 && (t4 == t5)) := by unfold Pt.like; rw [ht1, ht2, ht3, ht4, ht5]
  rw [hs]
  rw [ht3] at heq
  obtain ⟨ss, hss⟩ : ∃ x, p.sum.map vb = x := ⟨_, rfl⟩
  have Hss := Lib.hid hss
  obtain ⟨zz, hzz⟩ : ∃ x, q.sum.map vb = x := ⟨_, rfl⟩
  have Hzz := Lib.hid hzz
  obtain ⟨pc, hpc⟩ : ∃ x, ptCs (.slice oa p.addrs.length ca) p = x := ⟨_, rfl⟩
  have Hpc := Lib.hid hpc
  obtain ⟨qc, hqc⟩ : ∃ x, ptCs (.slice ob q.addrs.length cb) q = x := ⟨_, rfl⟩
  have Hqc := Lib.hid hqc
  rw [hss] at heq hsl HP0
  rw [hzz] at heq hql HP1
  rw [hpc, hqc] at hw1 ⊢
  obtain ⟨n, hn⟩ : ∃ x, p.addrs.length = x := ⟨_, rfl⟩
  have Hn := Lib.hid hn
  obtain ⟨m, hm⟩ : ∃ x, q.addrs.length = x := ⟨_, rfl⟩
  have Hm := Lib.hid hm
  rw [hn] at a0 ht4
  rw [hm] at a1 ht5
  have ht4n : decide ((0 : Int) < (n : Int)) = t4 := by rw [← ht4]; exact decide_eq_decide.2 (by omega)
  have ht5n : decide ((0 : Int) < (m : Int)) = t5 := by rw [← ht5]; exact decide_eq_decide.2 (by omega)
  clear hs ht3 hb_0 hb_1 d0 d1 hk1 hss hzz hpc hqc h0 h1 HB0 HB1 hn hm
  cases t1 <;> cases t2 <;> cases t3 <;> cases t4 <;> cases t5 <;> (
    go_enter Tryz.func65, Tryz.ntmps65
    go_wp2_with (first
      | ((with_reducible show wpList _ _ _ (⟨_, .load 32 (.tmp 18), _, _, _, _⟩ :: _) _ _); refine wpList_load_g (by rfl) 32 (.tmp 18) rfl (w.heap.size) 3 rfl ss _ HP0.out Tryz.underlying32 rfl (sizeIDL hsl) ?_)
      | ((with_reducible show wpList _ _ _ (⟨_, .load 32 (.tmp 20), _, _, _, _⟩ :: _) _ _); refine wpList_load_g (by rfl) 32 (.tmp 20) rfl (w.heap.size + 1) 3 rfl zz _ HP1.out Tryz.underlying32 rfl (sizeIDL hql) ?_))
    go_ret
    exact ⟨rfl, HK.out⟩)

set_option maxHeartbeats 8000000 in
theorem rlike_any (w : World) (v u : Value) (p q : Pt) (h0 : PtV w v p) (h1 : PtV w u q) : Calls Tryz.prog 99 #[.agg (ptCs v p).toArray, .agg (ptCs u q).toArray] w (TherePost w (p.like q)) := by
  obtain ⟨oa, ca, hv, -, -⟩ := h0.rd.form
  subst hv
  obtain ⟨ob, cb, hv, -, -⟩ := h1.rd.form
  subst hv
  obtain ⟨w1, hw1⟩ : ∃ w1, (w.alloc (.cells (ptCs (.slice oa p.addrs.length ca) p).toArray 34)).alloc (.cells (ptCs (.slice ob q.addrs.length cb) q).toArray 34) = w1 := ⟨_, rfl⟩
  have hb_0 : w1.heap[w.heap.size]? = some (.cells (ptCs (.slice oa p.addrs.length ca) p).toArray 34 (0, 0)) := by rw [← hw1]; exact heap_alloc2_old _ _ _
  have hb_1 : w1.heap[w.heap.size + 1]? = some (.cells (ptCs (.slice ob q.addrs.length cb) q).toArray 34 (0, 0)) := by rw [← hw1]; exact heap_alloc2_new _ _ _
  have hk1 : Keep noBlk w w1 := by rw [← hw1]; exact ((Keep.refl _ _).alloc _).alloc _
  obtain ⟨a0, b0, c0, d0⟩ := pt_mem (rangeAt_whole hb_0)
  have HP0 := Lib.hid d0; have HB0 := Lib.hid hb_0
  have hl0 : (ptCs (.slice oa p.addrs.length ca) p).length = 35 := ptCs_len h0.sum
  simp only [Nat.zero_add] at a0 b0 c0
  obtain ⟨a1, b1, c1, d1⟩ := pt_mem (rangeAt_whole hb_1)
  have HP1 := Lib.hid d1; have HB1 := Lib.hid hb_1
  have hl1 : (ptCs (.slice ob q.addrs.length cb) q).length = 35 := ptCs_len h1.sum
  simp only [Nat.zero_add] at a1 b1 c1
  have HK := Lib.hid hk1
  have heq := eqID p.sum q.sum h0.sum h1.sum
  have hsl : (p.sum.map vb).length = 32 := by rw [List.length_map]; exact h0.sum
  have hql : (q.sum.map vb).length = 32 := by rw [List.length_map]; exact h1.sum
  obtain ⟨t1, ht1⟩ : ∃ t : Bool, (p.birth == q.birth) = t := ⟨_, rfl⟩
  obtain ⟨t2, ht2⟩ : ∃ t : Bool, (p.level == q.level) = t := ⟨_, rfl⟩
  obtain ⟨t3, ht3⟩ : ∃ t : Bool, decide (p.sum = q.sum) = t := ⟨_, rfl⟩
  obtain ⟨t4, ht4⟩ : ∃ t : Bool, decide (0 < p.addrs.length) = t := ⟨_, rfl⟩
  obtain ⟨t5, ht5⟩ : ∃ t : Bool, decide (0 < q.addrs.length) = t := ⟨_, rfl⟩
  have hs : p.like q = (t1 && t2 && t3 && (t4 == t5)) := by unfold Pt.like; rw [ht1, ht2, ht3, ht4, ht5]
  rw [hs]
  rw [ht3] at heq
  obtain ⟨ss, hss⟩ : ∃ x, p.sum.map vb = x := ⟨_, rfl⟩
  have Hss := Lib.hid hss
  obtain ⟨zz, hzz⟩ : ∃ x, q.sum.map vb = x := ⟨_, rfl⟩
  have Hzz := Lib.hid hzz
  obtain ⟨pc, hpc⟩ : ∃ x, ptCs (.slice oa p.addrs.length ca) p = x := ⟨_, rfl⟩
  have Hpc := Lib.hid hpc
  obtain ⟨qc, hqc⟩ : ∃ x, ptCs (.slice ob q.addrs.length cb) q = x := ⟨_, rfl⟩
  have Hqc := Lib.hid hqc
  rw [hss] at heq hsl HP0
  rw [hzz] at heq hql HP1
  rw [hpc, hqc] at hw1 ⊢
  obtain ⟨n, hn⟩ : ∃ x, p.addrs.length = x := ⟨_, rfl⟩
  have Hn := Lib.hid hn
  obtain ⟨m, hm⟩ : ∃ x, q.addrs.length = x := ⟨_, rfl⟩
  have Hm := Lib.hid hm
  rw [hn] at a0 ht4
  rw [hm] at a1 ht5
  have ht4n : decide ((0 : Int) < (n : Int)) = t4 := by rw [← ht4]; exact decide_eq_decide.2 (by omega)
  have ht5n : decide ((0 : Int) < (m : Int)) = t5 := by rw [← ht5]; exact decide_eq_decide.2 (by omega)
  clear hs ht3 hb_0 hb_1 d0 d1 hk1 hss hzz hpc hqc h0 h1 HB0 HB1 hn hm
  cases t1 <;> cases t2 <;> cases t3 <;> cases t4 <;> cases t5 <;> (
    go_enter Tryz.func99, Tryz.ntmps99
    go_wp2_with (first
      | ((with_reducible show wpList _ _ _ (⟨_, .load 32 (.tmp 18), _, _, _, _⟩ :: _) _ _); refine wpList_load_g (by rfl) 32 (.tmp 18) rfl (w.heap.size) 3 rfl ss _ HP0.out Tryz.underlying32 rfl (sizeIDL hsl) ?_)
      | ((with_reducible show wpList _ _ _ (⟨_, .load 32 (.tmp 20), _, _, _, _⟩ :: _) _ _); refine wpList_load_g (by rfl) 32 (.tmp 20) rfl (w.heap.size + 1) 3 rfl zz _ HP1.out Tryz.underlying32 rfl (sizeIDL hql) ?_))
    go_ret
    exact ⟨rfl, HK.out⟩)

end Go.Proofs.YtaiicjhnhbkgmaaGreatDoor

/-
  Block pointers: which may be.
  Conditions: those told.
-/
namespace Go.Proofs.YtaiicjhnhbkgmaaGreatDoor
open Go.RowKit Go.Maps Go.ChangeMaps
set_option maxRecDepth 100000
set_option linter.unusedVariables false

theorem infoB8 (w : World) : (zeroValue 134).run Tryz.prog w = .ok (.agg (Array.replicate 8 (.bool false))) w := by kernel_rfl
/-- Which devices were seen. -/
def seenL (l : List Ad) : List Value := (List.range 8).map fun (d : Nat) => Value.bool (decide ((d : Int) ∈ l.map (·.dev)))
theorem seen_nil : (seenL []).toArray = Array.replicate 8 (.bool false) := rfl
theorem seen_get {l : List Ad} {d : Nat} (h : d < 8) : (seenL l).toArray[d]? = some (.bool (decide ((d : Int) ∈ l.map (·.dev)))) := by
  unfold seenL
  rw [List.getElem?_toArray, List.getElem?_map, List.getElem?_range h]
  rfl
theorem seen_set {l : List Ad} {d : Nat} {s : Int} (h : d < 8) : (seenL l).toArray.setIfInBounds d (.bool true) = (seenL (l ++ [⟨(d : Int), s⟩])).toArray := by
  rw [List.setIfInBounds_toArray]
  congr 1
  refine List.ext_getElem? fun i => ?_
  unfold seenL
  rw [List.getElem?_set, List.getElem?_map, List.getElem?_map, List.length_map, List.length_range]
  by_cases hi : i < 8
  · rw [List.getElem?_range hi, List.map_append]
    by_cases e : d = i
    · subst e
      rw [if_pos rfl, if_pos hi]
      simp
    · rw [if_neg e]
      have : ¬ (i : Int) = (d : Int) := by omega
      simp [this]
  · rw [if_neg (by omega)]
    rw [List.getElem?_eq_none (by rw [List.length_range]; omega)]
    rfl
theorem ads_no {l : List Ad} {k : Nat} {x : Ad} (hx : l[k]? = some x) (h : adIn x = false ∨ x.dev ∈ (l.take k).map (·.dev)) : adsB l = false := by
  unfold adsB
  rcases h with h | h
  · have h1 : l.all adIn = false := by
      rw [List.all_eq_false]
      exact ⟨x, List.mem_of_getElem? hx, by rw [h]; simp⟩
    rw [h1]; simp
  · have h1 : ¬ (l.map (·.dev)).Nodup := by
      intro hn
      have hk := (List.getElem?_eq_some_iff.1 hx).1
      have e : l = l.take k ++ x :: l.drop (k + 1) := by
        conv => lhs; rw [← List.take_append_drop k l]
        rw [List.drop_eq_getElem_cons hk]
        congr 2
        rw [List.getElem?_eq_getElem hk] at hx
        exact Option.some.inj hx
      rw [e, List.map_append, List.map_cons] at hn
      exact (List.nodup_append.1 hn).2.2 _ h _ (List.mem_cons_self ..) rfl
    rw [decide_eq_false h1]; simp
theorem ads_yes {l : List Ad} (h1 : l.all adIn = true) (h2 : (l.map (·.dev)).Nodup) : adsB l = (decide (1 ≤ l.length) && decide (l.length ≤ 3)) := by
  unfold adsB
  rw [h1, decide_eq_true h2]; simp
set_option maxHeartbeats 8000000 in
theorem may_any (w : World) (v : Value) (l : List Ad) (ho : AdsOk l) (hr : Rd w 2 v l.length (adCells l)) : Calls Tryz.prog 64 #[v] w (TherePost w (adsB l)) := by
  obtain ⟨oa, ca, rfl, -, hmm⟩ := hr.form
  have hmx : l.length ≤ maxLen := by have h := hr.2; obtain ⟨a', cap', h1, h2, h3, -⟩ := h; omega
  unfold maxLen at hmx
  obtain ⟨bb, hbb⟩ : ∃ b, adsB l = b := ⟨_, rfl⟩
  have HBB := Lib.hid hbb
  rw [hbb]
  obtain ⟨n, hn⟩ : ∃ n, l.length = n := ⟨_, rfl⟩
  have HN := Lib.hid hn; have HR := Lib.hid hr; have HO := Lib.hid ho
  rw [hn] at HR hmx ⊢
  clear hmm hr hn hbb ho
  obtain ⟨w1, hw1, hk1, hb1, hs1⟩ := alloc_facts w (Array.replicate 8 (.bool false)) 134
  have HB1 : Hid (w1.heap[w.heap.size]? = some (.cells (seenL []).toArray 134 (0, 0))) := Lib.hid hb1
  have HK1 := Lib.hid hk1
  obtain ⟨sb, hsb⟩ : ∃ s, w.heap.size = s := ⟨_, rfl⟩
  have hsw : sb < w1.heap.size := by omega
  have HSB := Lib.hid hsb
  rw [hsb] at HB1
  clear hk1 hb1 hs1
  go_enter Tryz.func64, Tryz.ntmps64
  go_wp2_with (first
    | ((with_reducible show wpList _ _ _ (⟨some 3, .alloc 134, _, _, _, _⟩ :: _) _ _); refine wpList_alloc_at rfl 134 rfl _ infoB8 (Array.replicate 8 (.bool false)) rfl ?_; rw [hw1, hsb]))
  clear hw1 hsb
  go_loopw [8] (fun i wr => ∃ k : Nat, k ≤ n ∧ i = .int .i64 k ∧ Hid (wr.heap[sb]? = some (.cells (seenL (l.take k)).toArray 134 (0, 0))) ∧ Hid ((l.take k).all adIn = true ∧ ((l.take k).map (·.dev)).Nodup) ∧ Hid (Keep (fun i => i = sb) w1 wr)) (fun i _ => n - (intOf i).toNat)
  case atStart => exact ⟨0, Nat.zero_le _, rfl, Lib.hid HB1.out, Lib.hid ⟨rfl, List.nodup_nil⟩, Lib.hid (Keep.refl _ _)⟩
  case round =>
  clear HB1
  obtain ⟨k, hk, rfl, HS, HI, HKR⟩ := hrel
  have HK := Lib.hid (HK1.out.trans' HKR.out (U := noBlk) (fun _ _ h => h) (fun i hi e => by have := HSB.out; omega))
  by_cases hlt : k < n
  · have hki : (k : Int) < (n : Int) := by omega
    have hk0 : (0 : Int) ≤ (k : Int) := by omega
    obtain ⟨⟨xd, xs⟩, h_x⟩ : ∃ x, l[k]? = some x := ⟨l[k]'(by rw [HN.out]; exact hlt), List.getElem?_eq_getElem _⟩
    have h_r := HR.out.keep HK.out fun _ _ => id
    rw [← HN.out] at h_r
    obtain ⟨g, o, cap', h_v, h_at⟩ := rd_ad h_r h_x
    have e1 : oa = some ⟨g, o, none⟩ := by cases h_v; rfl
    subst e1
    have HX := Lib.hid h_at; have HE := Lib.hid h_x
    have hTK : l.take (k + 1) = l.take k ++ [⟨xd, xs⟩] := by rw [List.take_add_one, h_x]; rfl
    have HTK := Lib.hid hTK
    clear h_x h_r h_v h_at hTK
    have hin := HO.out _ (List.mem_of_getElem? HE.out)
    have HNO : Hid (adIn ⟨xd, xs⟩ = false ∨ xd ∈ (l.take k).map (·.dev) → bb = false) := Lib.hid (fun h => by rw [← HBB.out]; exact ads_no HE.out h)
    by_cases h1 : xd < 0
    · have hbf : bb = false := HNO.out (.inl (by unfold adIn; simp; omega))
      have d1 : decide (xd < 0) = true := decide_eq_true h1
      subst hbf
      go_wp2_with (first
        | ((with_reducible show wpList _ _ _ (⟨_, .load 70 (.tmp 10), _, _, _, _⟩ :: _) _ _); refine wpList_load_mid rfl 70 (.tmp 10) rfl g (o + k * 2) rfl (adCs ⟨xd, xs⟩) _ HX.out adUnder rfl sizeAd ?_)
        | ((with_reducible show wpList _ _ _ (⟨some 5, .alloc 70, _, _, _, _⟩ :: _) _ _); refine wpList_alloc_at rfl 70 rfl zeroAd zeroAddr #[.int .i64 0, .int .i64 0] rfl ?_)
        | ((with_reducible show wpList _ _ _ (⟨none, .store 70 (.tmp 5) (.tmp 11), _, _, _, _⟩ :: _) _ _); refine wpList_store_agg rfl 70 (.tmp 5) (.tmp 11) rfl wr.heap.size 0 (adCs ⟨xd, xs⟩) rfl rfl #[.int .i64 0, .int .i64 0] 70 (heap_alloc_new _ _) (Nat.le_refl _) sizeAd (oneCell_ad _) ?_
           intro w3 hb3 hk3
           rw [spl_whole _ _ (by rfl)] at hb3
           have hk4 : Keep noBlk wr w3 := ((Keep.refl noBlk wr).alloc _).trans' hk3 (fun _ _ h => h) (fun i hi e => by omega)
           have HK4 := Lib.hid hk4
           have hc0 : w3.cell? ⟨wr.heap.size, 0, none⟩ = some (.int .i64 xd) := blk_cell hb3 rfl
           have hc1 : w3.cell? ⟨wr.heap.size, 1, none⟩ = some (.int .i64 xs) := blk_cell hb3 rfl
           have HS3 := Lib.hid (hk4.blk HS.out id)
           skip
           clear hb3 hk3 hk4))
      go_ret
      exact ⟨rfl, HK.out.trans HK4.out⟩
    by_cases h2 : 8 ≤ xd
    · have hbf : bb = false := HNO.out (.inl (by unfold adIn; simp; omega))
      have d2 : decide (8 ≤ xd) = true := decide_eq_true h2
      subst hbf
      go_wp2_with (first
        | ((with_reducible show wpList _ _ _ (⟨_, .load 70 (.tmp 10), _, _, _, _⟩ :: _) _ _); refine wpList_load_mid rfl 70 (.tmp 10) rfl g (o + k * 2) rfl (adCs ⟨xd, xs⟩) _ HX.out adUnder rfl sizeAd ?_)
        | ((with_reducible show wpList _ _ _ (⟨some 5, .alloc 70, _, _, _, _⟩ :: _) _ _); refine wpList_alloc_at rfl 70 rfl zeroAd zeroAddr #[.int .i64 0, .int .i64 0] rfl ?_)
        | ((with_reducible show wpList _ _ _ (⟨none, .store 70 (.tmp 5) (.tmp 11), _, _, _, _⟩ :: _) _ _); refine wpList_store_agg rfl 70 (.tmp 5) (.tmp 11) rfl wr.heap.size 0 (adCs ⟨xd, xs⟩) rfl rfl #[.int .i64 0, .int .i64 0] 70 (heap_alloc_new _ _) (Nat.le_refl _) sizeAd (oneCell_ad _) ?_
           intro w3 hb3 hk3
           rw [spl_whole _ _ (by rfl)] at hb3
           have hk4 : Keep noBlk wr w3 := ((Keep.refl noBlk wr).alloc _).trans' hk3 (fun _ _ h => h) (fun i hi e => by omega)
           have HK4 := Lib.hid hk4
           have hc0 : w3.cell? ⟨wr.heap.size, 0, none⟩ = some (.int .i64 xd) := blk_cell hb3 rfl
           have hc1 : w3.cell? ⟨wr.heap.size, 1, none⟩ = some (.int .i64 xs) := blk_cell hb3 rfl
           have HS3 := Lib.hid (hk4.blk HS.out id)
           skip
           clear hb3 hk3 hk4))
      go_ret
      exact ⟨rfl, HK.out.trans HK4.out⟩
    obtain ⟨d, rfl⟩ : ∃ d : Nat, xd = (d : Int) := ⟨xd.toNat, by omega⟩
    have hd8 : d < 8 := by omega
    have hdi : (d : Int) < 8 := by omega
    have hd0 : (0 : Int) ≤ (d : Int) := by omega
    obtain ⟨s, hse⟩ : ∃ s, decide ((d : Int) ∈ (l.take k).map (·.dev)) = s := ⟨_, rfl⟩
    have HSE := Lib.hid hse
    clear h1 h2
    cases s
    · have hnd : (d : Int) ∉ (l.take k).map (·.dev) := of_decide_eq_false HSE.out
      have HND := Lib.hid hnd
      clear hnd
      by_cases h3 : xs < 5
      · have hbf : bb = false := HNO.out (.inl (by unfold adIn; simp; omega))
        have d3 : decide (xs < 5) = true := decide_eq_true h3
        subst hbf
        go_wp2_with (first
          | ((with_reducible show wpList _ _ _ (⟨_, .load 70 (.tmp 10), _, _, _, _⟩ :: _) _ _); refine wpList_load_mid rfl 70 (.tmp 10) rfl g (o + k * 2) rfl (adCs ⟨(d : Int), xs⟩) _ HX.out adUnder rfl sizeAd ?_)
          | ((with_reducible show wpList _ _ _ (⟨some 5, .alloc 70, _, _, _, _⟩ :: _) _ _); refine wpList_alloc_at rfl 70 rfl zeroAd zeroAddr #[.int .i64 0, .int .i64 0] rfl ?_)
          | ((with_reducible show wpList _ _ _ (⟨none, .store 70 (.tmp 5) (.tmp 11), _, _, _, _⟩ :: _) _ _); refine wpList_store_agg rfl 70 (.tmp 5) (.tmp 11) rfl wr.heap.size 0 (adCs ⟨(d : Int), xs⟩) rfl rfl #[.int .i64 0, .int .i64 0] 70 (heap_alloc_new _ _) (Nat.le_refl _) sizeAd (oneCell_ad _) ?_
             intro w3 hb3 hk3
             rw [spl_whole _ _ (by rfl)] at hb3
             have hk4 : Keep noBlk wr w3 := ((Keep.refl noBlk wr).alloc _).trans' hk3 (fun _ _ h => h) (fun i hi e => by omega)
             have HK4 := Lib.hid hk4
             have hc0 : w3.cell? ⟨wr.heap.size, 0, none⟩ = some (.int .i64 (d : Int)) := blk_cell hb3 rfl
             have hc1 : w3.cell? ⟨wr.heap.size, 1, none⟩ = some (.int .i64 xs) := blk_cell hb3 rfl
             have HS3 := Lib.hid (hk4.blk HS.out id)
             have hcs := blk_cell HS3.out (seen_get (l := l.take k) hd8)
             rw [hse] at hcs
             clear hb3 hk3 hk4))
        go_ret
        exact ⟨rfl, HK.out.trans HK4.out⟩
      by_cases h4 : 4096 ≤ xs
      · have hbf : bb = false := HNO.out (.inl (by unfold adIn; simp; omega))
        have d4 : decide (4096 ≤ xs) = true := decide_eq_true h4
        subst hbf
        go_wp2_with (first
          | ((with_reducible show wpList _ _ _ (⟨_, .load 70 (.tmp 10), _, _, _, _⟩ :: _) _ _); refine wpList_load_mid rfl 70 (.tmp 10) rfl g (o + k * 2) rfl (adCs ⟨(d : Int), xs⟩) _ HX.out adUnder rfl sizeAd ?_)
          | ((with_reducible show wpList _ _ _ (⟨some 5, .alloc 70, _, _, _, _⟩ :: _) _ _); refine wpList_alloc_at rfl 70 rfl zeroAd zeroAddr #[.int .i64 0, .int .i64 0] rfl ?_)
          | ((with_reducible show wpList _ _ _ (⟨none, .store 70 (.tmp 5) (.tmp 11), _, _, _, _⟩ :: _) _ _); refine wpList_store_agg rfl 70 (.tmp 5) (.tmp 11) rfl wr.heap.size 0 (adCs ⟨(d : Int), xs⟩) rfl rfl #[.int .i64 0, .int .i64 0] 70 (heap_alloc_new _ _) (Nat.le_refl _) sizeAd (oneCell_ad _) ?_
             intro w3 hb3 hk3
             rw [spl_whole _ _ (by rfl)] at hb3
             have hk4 : Keep noBlk wr w3 := ((Keep.refl noBlk wr).alloc _).trans' hk3 (fun _ _ h => h) (fun i hi e => by omega)
             have HK4 := Lib.hid hk4
             have hc0 : w3.cell? ⟨wr.heap.size, 0, none⟩ = some (.int .i64 (d : Int)) := blk_cell hb3 rfl
             have hc1 : w3.cell? ⟨wr.heap.size, 1, none⟩ = some (.int .i64 xs) := blk_cell hb3 rfl
             have HS3 := Lib.hid (hk4.blk HS.out id)
             have hcs := blk_cell HS3.out (seen_get (l := l.take k) hd8)
             rw [hse] at hcs
             clear hb3 hk3 hk4))
        go_ret
        exact ⟨rfl, HK.out.trans HK4.out⟩
      go_wp2_with (first
        | ((with_reducible show wpList _ _ _ (⟨_, .load 70 (.tmp 10), _, _, _, _⟩ :: _) _ _); refine wpList_load_mid rfl 70 (.tmp 10) rfl g (o + k * 2) rfl (adCs ⟨(d : Int), xs⟩) _ HX.out adUnder rfl sizeAd ?_)
        | ((with_reducible show wpList _ _ _ (⟨some 5, .alloc 70, _, _, _, _⟩ :: _) _ _); refine wpList_alloc_at rfl 70 rfl zeroAd zeroAddr #[.int .i64 0, .int .i64 0] rfl ?_)
        | ((with_reducible show wpList _ _ _ (⟨none, .store 70 (.tmp 5) (.tmp 11), _, _, _, _⟩ :: _) _ _); refine wpList_store_agg rfl 70 (.tmp 5) (.tmp 11) rfl wr.heap.size 0 (adCs ⟨(d : Int), xs⟩) rfl rfl #[.int .i64 0, .int .i64 0] 70 (heap_alloc_new _ _) (Nat.le_refl _) sizeAd (oneCell_ad _) ?_
           intro w3 hb3 hk3
           rw [spl_whole _ _ (by rfl)] at hb3
           have hk4 : Keep noBlk wr w3 := ((Keep.refl noBlk wr).alloc _).trans' hk3 (fun _ _ h => h) (fun i hi e => by omega)
           have HK4 := Lib.hid hk4
           have hc0 : w3.cell? ⟨wr.heap.size, 0, none⟩ = some (.int .i64 (d : Int)) := blk_cell hb3 rfl
           have hc1 : w3.cell? ⟨wr.heap.size, 1, none⟩ = some (.int .i64 xs) := blk_cell hb3 rfl
           have HS3 := Lib.hid (hk4.blk HS.out id)
           have hcs := blk_cell HS3.out (seen_get (l := l.take k) hd8)
           have hfz := blk_free HS3.out d
           rw [hse] at hcs
           clear hb3 hk3 hk4))
      have HK5 : Hid (Keep (fun i => i = sb) w1 (w3.setCell ⟨sb, d, none⟩ (.bool true))) := Lib.hid ((HKR.out.trans' HK4.out (U := fun i => i = sb) (fun _ _ h => h) (fun _ _ h => h.elim)).setCell (p := ⟨sb, d, none⟩) (fun _ => rfl) _)
      have HS5 : Hid ((w3.setCell ⟨sb, d, none⟩ (.bool true)).heap[sb]? = some (.cells (seenL (l.take (k + 1))).toArray 134 (0, 0))) := Lib.hid (by rw [set_blk HS3.out, seen_set (s := xs) hd8, ← HTK.out])
      have HI5 : Hid ((l.take (k + 1)).all adIn = true ∧ ((l.take (k + 1)).map (·.dev)).Nodup) := Lib.hid (by
        rw [HTK.out]
        refine ⟨?_, ?_⟩
        · rw [List.all_append, HI.out.1]
          unfold adIn
          simp
          omega
        · rw [List.map_append, List.nodup_append]
          refine ⟨HI.out.2, by simp, fun x hx y hy e => ?_⟩
          subst e
          have e2 : x = (d : Int) := by simpa using hy
          rw [e2] at hx
          exact HND.out hx)
      go_roundw
      case rel => exact ⟨k + 1, by omega, by go_num, HS5, HI5, HK5⟩
      case measure => simp [intOf]; omega
    · have hbf : bb = false := HNO.out (.inr (of_decide_eq_true HSE.out))
      subst hbf
      go_wp2_with (first
        | ((with_reducible show wpList _ _ _ (⟨_, .load 70 (.tmp 10), _, _, _, _⟩ :: _) _ _); refine wpList_load_mid rfl 70 (.tmp 10) rfl g (o + k * 2) rfl (adCs ⟨(d : Int), xs⟩) _ HX.out adUnder rfl sizeAd ?_)
        | ((with_reducible show wpList _ _ _ (⟨some 5, .alloc 70, _, _, _, _⟩ :: _) _ _); refine wpList_alloc_at rfl 70 rfl zeroAd zeroAddr #[.int .i64 0, .int .i64 0] rfl ?_)
        | ((with_reducible show wpList _ _ _ (⟨none, .store 70 (.tmp 5) (.tmp 11), _, _, _, _⟩ :: _) _ _); refine wpList_store_agg rfl 70 (.tmp 5) (.tmp 11) rfl wr.heap.size 0 (adCs ⟨(d : Int), xs⟩) rfl rfl #[.int .i64 0, .int .i64 0] 70 (heap_alloc_new _ _) (Nat.le_refl _) sizeAd (oneCell_ad _) ?_
           intro w3 hb3 hk3
           rw [spl_whole _ _ (by rfl)] at hb3
           have hk4 : Keep noBlk wr w3 := ((Keep.refl noBlk wr).alloc _).trans' hk3 (fun _ _ h => h) (fun i hi e => by omega)
           have HK4 := Lib.hid hk4
           have hc0 : w3.cell? ⟨wr.heap.size, 0, none⟩ = some (.int .i64 (d : Int)) := blk_cell hb3 rfl
           have hc1 : w3.cell? ⟨wr.heap.size, 1, none⟩ = some (.int .i64 xs) := blk_cell hb3 rfl
           have HS3 := Lib.hid (hk4.blk HS.out id)
           have hcs := blk_cell HS3.out (seen_get (l := l.take k) hd8)
           rw [hse] at hcs
           clear hb3 hk3 hk4))
      go_ret
      exact ⟨rfl, HK.out.trans HK4.out⟩
  · obtain rfl : n = k := by omega
    have hbf : bb = (decide (1 ≤ n) && decide (n ≤ 3)) := by
      rw [← HBB.out, ← HN.out]
      have h1 := HI.out
      rw [List.take_of_length_le (by rw [HN.out]; exact Nat.le_refl _)] at h1
      exact ads_yes h1.1 h1.2
    have HBF := Lib.hid hbf
    obtain ⟨t1, ht1⟩ : ∃ t, decide (1 ≤ n) = t := ⟨_, rfl⟩
    obtain ⟨t2, ht2⟩ : ∃ t, decide (n ≤ 3) = t := ⟨_, rfl⟩
    have hi1 : decide ((1 : Int) ≤ (n : Int)) = t1 := by rw [← ht1]; exact decide_eq_decide.2 (by omega)
    have hi2 : decide ((n : Int) ≤ 3) = t2 := by rw [← ht2]; exact decide_eq_decide.2 (by omega)
    rw [ht1, ht2] at HBF
    clear hbf
    cases t1 <;> cases t2 <;> (
      go_wp2_with fail
      go_ret
      exact ⟨by rw [HBF.out]; rfl, HK.out⟩)

set_option maxHeartbeats 8000000 in
theorem addrs_any (w : World) (v : Value) (l : List Ad) (hr : Rd w 2 v l.length (adCells l)) : Calls Tryz.prog 92 #[v] w (TherePost w (adsB l)) := by
  obtain ⟨oa, ca, rfl, -, hmm⟩ := hr.form
  have hmx : l.length ≤ maxLen := by have h := hr.2; obtain ⟨a', cap', h1, h2, h3, -⟩ := h; omega
  unfold maxLen at hmx
  obtain ⟨bb, hbb⟩ : ∃ b, adsB l = b := ⟨_, rfl⟩
  have HBB := Lib.hid hbb
  rw [hbb]
  obtain ⟨n, hn⟩ : ∃ n, l.length = n := ⟨_, rfl⟩
  have HN := Lib.hid hn; have HR := Lib.hid hr
  rw [hn] at HR hmx ⊢
  clear hmm hr hn hbb
  go_enter Tryz.func92, Tryz.ntmps92
  go_wp2_with fail
  go_loopw [3] (fun i wr => ∃ k : Nat, k ≤ n ∧ i = .int .i64 k ∧ Hid ((l.take k).all adIn = true ∧ ((l.take k).map (·.dev)).Nodup) ∧ Hid (Keep noBlk w wr)) (fun i _ => n - (intOf i).toNat)
  case atStart => exact ⟨0, Nat.zero_le _, rfl, Lib.hid ⟨rfl, List.nodup_nil⟩, Lib.hid (Keep.refl _ _)⟩
  case round =>
  obtain ⟨k, hk, rfl, HI, HK⟩ := hrel
  by_cases hlt : k < n
  · have hki : (k : Int) < (n : Int) := by omega
    have hk0 : (0 : Int) ≤ (k : Int) := by omega
    obtain ⟨⟨xd, xs⟩, h_x⟩ : ∃ x, l[k]? = some x := ⟨l[k]'(by rw [HN.out]; exact hlt), List.getElem?_eq_getElem _⟩
    have h_r := HR.out.keep HK.out fun _ _ => id
    rw [← HN.out] at h_r
    obtain ⟨g, o, cap', h_v, h_at⟩ := rd_ad h_r h_x
    have e1 : oa = some ⟨g, o, none⟩ := by cases h_v; rfl
    subst e1
    have HX := Lib.hid h_at; have HE := Lib.hid h_x
    have hTK : l.take (k + 1) = l.take k ++ [⟨xd, xs⟩] := by rw [List.take_add_one, h_x]; rfl
    have HTK := Lib.hid hTK
    have hc0 : wr.cell? ⟨g, o + k * 2, none⟩ = some (.int .i64 xd) := h_at 0 _ rfl
    have hc1 : wr.cell? ⟨g, o + k * 2 + 1, none⟩ = some (.int .i64 xs) := h_at 1 _ rfl
    clear h_x h_r h_v h_at hTK
    have HNO : Hid (adIn ⟨xd, xs⟩ = false ∨ xd ∈ (l.take k).map (·.dev) → bb = false) := Lib.hid (fun h => by rw [← HBB.out]; exact ads_no HE.out h)
    by_cases h0 : xd < 0
    · have hbf : bb = false := HNO.out (.inl (by unfold adIn; simp; omega))
      have d0 : decide (xd < 0) = true := decide_eq_true h0
      subst hbf
      go_wp2_with fail
      go_ret
      exact ⟨rfl, HK.out⟩
    by_cases h1 : 8 ≤ xd
    · have hbf : bb = false := HNO.out (.inl (by unfold adIn; simp; omega))
      have d1 : decide (8 ≤ xd) = true := decide_eq_true h1
      subst hbf
      go_wp2_with fail
      go_ret
      exact ⟨rfl, HK.out⟩
    by_cases h2 : xs < 5
    · have hbf : bb = false := HNO.out (.inl (by unfold adIn; simp; omega))
      have d2 : decide (xs < 5) = true := decide_eq_true h2
      subst hbf
      go_wp2_with fail
      go_ret
      exact ⟨rfl, HK.out⟩
    by_cases h3 : 4096 ≤ xs
    · have hbf : bb = false := HNO.out (.inl (by unfold adIn; simp; omega))
      have d3 : decide (4096 ≤ xs) = true := decide_eq_true h3
      subst hbf
      go_wp2_with fail
      go_ret
      exact ⟨rfl, HK.out⟩
    have HIN : Hid (adIn ⟨xd, xs⟩ = true) := Lib.hid (by unfold adIn; simp; omega)
    obtain ⟨wo, rfl⟩ : ∃ wo : World, wo = wr := ⟨_, rfl⟩
    go_wp2_with fail
    go_loopw [4] (fun i wr => ∃ j : Nat, j ≤ k ∧ i = .int .i64 j ∧ Hid (xd ∉ (l.take j).map (·.dev)) ∧ Hid (Keep noBlk wo wr)) (fun i _ => k - (intOf i).toNat)
    case atStart => exact ⟨0, Nat.zero_le _, rfl, Lib.hid (by simp), Lib.hid (Keep.refl _ _)⟩
    case round =>
    clear h0 h1 h2 h3 hc0 hc1
    obtain ⟨j, hj, rfl, HU, HKI⟩ := hrel
    have hc0 : wr.cell? ⟨g, o + k * 2, none⟩ = some (.int .i64 xd) := HKI.out.cell (HX.out 0 _ rfl) id
    by_cases hlt2 : j < k
    · obtain ⟨⟨yd, ys⟩, h_x⟩ : ∃ x, l[j]? = some x := ⟨l[j]'(by rw [HN.out]; exact (Nat.lt_trans hlt2 hlt)), List.getElem?_eq_getElem _⟩
      have h_r := HR.out.keep (HK.out.trans HKI.out) fun _ _ => id
      rw [← HN.out] at h_r
      have hcy : wr.cell? ⟨g, o + j * 2, none⟩ = some (.int .i64 yd) := by
        obtain ⟨g', o', cap', h_v, h_at⟩ := rd_ad h_r h_x
        cases h_v
        exact h_at 0 _ rfl
      have HYE := Lib.hid h_x
      have HTY : Hid (l.take (j + 1) = l.take j ++ [⟨yd, ys⟩]) := Lib.hid (by rw [List.take_add_one, h_x]; rfl)
      have hji : (j : Int) < (n : Int) := by omega
      have hj0 : (0 : Int) ≤ (j : Int) := by omega
      have hjk : (j : Int) < (k : Int) := by omega
      clear h_x h_r
      obtain ⟨tt, htt⟩ : ∃ t, (yd == xd) = t := ⟨_, rfl⟩
      have HTT := Lib.hid htt
      cases tt
      · go_wp2_with fail
        go_quiet (fail)
        go_wp2_with fail
        have HU2 : Hid (xd ∉ (l.take (j + 1)).map (·.dev)) := Lib.hid (by
          rw [HTY.out, List.map_append, List.mem_append]
          rintro (h | h)
          · exact HU.out h
          · have e : xd = yd := by simpa using h
            have := HTT.out
            rw [e] at this
            simp at this)
        have HK2 := Lib.hid (HKI.out.drewN nq)
        go_roundw
        case rel => exact ⟨j + 1, by omega, by go_num, HU2, HK2⟩
        case measure => simp [intOf]; omega
      · have hbf : bb = false := HNO.out (.inr (by
          have e : yd = xd := by simpa using HTT.out
          rw [← e]
          refine List.mem_map.2 ⟨⟨yd, ys⟩, ?_, rfl⟩
          refine List.mem_of_getElem? (i := j) ?_
          rw [List.getElem?_take, if_pos hlt2]
          exact HYE.out))
        subst hbf
        go_wp2_with fail
        go_quiet (fail)
        go_wp2_with fail
        go_ret
        exact ⟨rfl, HK.out.trans (HKI.out.drewN nq)⟩
    · obtain rfl : k = j := by omega
      have HI5 : Hid ((l.take (k + 1)).all adIn = true ∧ ((l.take (k + 1)).map (·.dev)).Nodup) := Lib.hid (by
        rw [HTK.out]
        refine ⟨by rw [List.all_append, HI.out.1]; simp [HIN.out], ?_⟩
        rw [List.map_append, List.nodup_append]
        refine ⟨HI.out.2, by simp, fun x hx y hy e => ?_⟩
        subst e
        have e2 : x = xd := by simpa using hy
        rw [e2] at hx
        exact HU.out hx)
      have HK2 := Lib.hid (HK.out.trans HKI.out)
      go_wp2_with fail
      go_roundw
      case rel => exact ⟨k + 1, by omega, by go_num, HI5, HK2⟩
      case measure => simp [intOf]; omega
  · obtain rfl : n = k := by omega
    have hbf : bb = (decide (1 ≤ n) && decide (n ≤ 3)) := by
      rw [← HBB.out, ← HN.out]
      have h1 := HI.out
      rw [List.take_of_length_le (by rw [HN.out]; exact Nat.le_refl _)] at h1
      exact ads_yes h1.1 h1.2
    have HBF := Lib.hid hbf
    obtain ⟨t1, ht1⟩ : ∃ t, decide (1 ≤ n) = t := ⟨_, rfl⟩
    obtain ⟨t2, ht2⟩ : ∃ t, decide (n ≤ 3) = t := ⟨_, rfl⟩
    have hi1 : decide ((1 : Int) ≤ (n : Int)) = t1 := by rw [← ht1]; exact decide_eq_decide.2 (by omega)
    have hi2 : decide ((n : Int) ≤ 3) = t2 := by rw [← ht2]; exact decide_eq_decide.2 (by omega)
    rw [ht1, ht2] at HBF
    clear hbf
    cases t1 <;> cases t2 <;> (
      go_wp2_with fail
      go_ret
      exact ⟨by rw [HBF.out]; rfl, HK.out⟩)

end Go.Proofs.YtaiicjhnhbkgmaaGreatDoor
