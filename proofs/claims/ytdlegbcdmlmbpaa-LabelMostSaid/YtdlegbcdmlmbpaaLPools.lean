/-
  LabelPools: of which pool labels are, and whether one is a device's, is the same for the program and the document.
  Conditions: none but those of the given statement.
-/
import Derived.Test.YtdlegbcdmlmbpaaRPool
namespace Go.Proofs.Ytdlegbcdmlmbpaa
open Go.RowKit
set_option maxRecDepth 100000
set_option linter.unusedVariables false

set_option maxHeartbeats 1000000 in
theorem rthere_any (w : World) (L : Lab) (pool : List UInt8) (dev life : Int) (hL : L.pool.length = 32) (hp : pool.length = 32) :
    Calls Try.prog 26 #[.agg L.cells.toArray, .agg (pool.map vb).toArray, .int .i64 dev, .int .i64 life] w (TherePost w (thereB L pool dev life)) := by
  obtain ⟨w1, hw1⟩ : ∃ w1, (w.alloc (.cells L.cells.toArray 25)).alloc (.cells (pool.map vb).toArray 23) = w1 := ⟨_, rfl⟩
  have b0 : w1.heap[w.heap.size]? = some (.cells L.cells.toArray 25 (0, 0)) := by rw [← hw1]; exact heap_alloc2_old _ _ _
  have b1 : w1.heap[w.heap.size + 1]? = some (.cells (pool.map vb).toArray 23 (0, 0)) := by rw [← hw1]; exact heap_alloc2_new _ _ _
  have hk1 : Keep noBlk w w1 := by rw [← hw1]; exact ((Keep.refl _ _).alloc _).alloc _
  have C := Lib.hid (rcheck_any L hL w1)
  have he := eqID L.pool pool hL hp
  obtain ⟨d0, d1, d2, d3, d4⟩ := L.at hL
  obtain ⟨lc, hlc⟩ : ∃ lc, L.cells = lc := ⟨_, rfl⟩
  have hlcl : lc.length = 37 := by rw [← hlc]; exact L.cells_length hL
  have hpl : ∀ i, i < 32 → lc[i]? = (L.pool.map vb)[i]? := by rw [← hlc]; exact L.cells_pool hL
  rw [hlc] at C b0 hw1 d0 d1 d2 d3 d4 ⊢
  obtain ⟨ps, hps⟩ : ∃ ps, pool.map vb = ps := ⟨_, rfl⟩
  obtain ⟨qs, hqs⟩ : ∃ qs, L.pool.map vb = qs := ⟨_, rfl⟩
  have hpsl : ps.length = 32 := by rw [← hps]; simp [hp]
  have hqsl : qs.length = 32 := by rw [← hqs]; simp [hL]
  rw [hps] at hw1 b1 he ⊢
  rw [hqs] at he hpl
  have HB0 := Lib.hid b0; have HB1 := Lib.hid b1; have HK1 := Lib.hid hk1; have HPL := Lib.hid hpl
  have HLC := Lib.hid hlc; have HPS := Lib.hid hps; have HQS := Lib.hid hqs
  obtain ⟨bt, hbt⟩ : ∃ bt, thereB L pool dev life = bt := ⟨_, rfl⟩
  have HBT := Lib.hid hbt
  rw [hbt]
  clear b0 b1 hk1 hlc hps hqs hpl hbt
  have hsz : w.heap.size + 2 = w1.heap.size := by rw [← hw1]; simp
  have HSZ := Lib.hid hsz; clear hsz
  go_enter Try.func26, Try.ntmps26
  go_wp2_with (first
    | ((with_reducible show wpList _ _ _ (⟨some 9, .load 25 (.tmp 4), _, _, _, _⟩ :: _) _ _); refine wpList_load_mid rfl 25 (.tmp 4) rfl w.heap.size 0 rfl lc _ (rangeAt_whole HB0.out) Try.underlying25 rfl (by rw [hlcl]; exact sizeLab) ?_))
  refine C.out.mono ?_
  rintro e w2 ⟨rfl, hw2⟩
  have K2 : Keep noBlk w1 w2 := by rw [← hw2]; exact (Keep.refl _ _).alloc _
  have b0 := K2.blk HB0.out id
  have b1 := K2.blk HB1.out id
  have c0 := blk_cell b0 d0
  have c4 := blk_cell b0 d4
  have HB0' := Lib.hid b0; have HB1' := Lib.hid b1
  have HKE := Lib.hid (HK1.out.trans K2)
  clear hw1 hw2 K2 b0 b1 C
  rcases hm : L.may with _ | _
  · have hbt : bt = false := by rw [← HBT.out]; unfold thereB; rw [hm]; simp
    subst hbt
    clear hm
    go_wp2_with fail
    go_ret
    exact ⟨rfl, HKE.out⟩
  · have HM := Lib.hid hm; clear hm
    have hra : w2.rangeAt w.heap.size 0 qs := by
      intro j u hj
      have hj32 : j < 32 := by rw [← hqsl]; exact (List.getElem?_eq_some_iff.1 hj).1
      rw [Nat.zero_add]
      exact blk_cell HB0'.out (by rw [List.getElem?_toArray, HPL.out j hj32]; exact hj)
    have HRA := Lib.hid hra; clear hra
    obtain ⟨t1, ht1⟩ : ∃ t, decide (L.pool = pool) = t := ⟨_, rfl⟩
    obtain ⟨t2, ht2⟩ : ∃ t, (L.dev == dev) = t := ⟨_, rfl⟩
    obtain ⟨t3, ht3⟩ : ∃ t, (L.life == life) = t := ⟨_, rfl⟩
    have hbt : bt = (t1 && t2 && t3) := by
      rw [← HBT.out, ← ht1, ← ht2, ← ht3]
      unfold thereB
      rw [HM.out]
      have hd : ∀ x y : Int, decide (x = y) = (x == y) := fun x y => by rw [Bool.eq_iff_iff]; simp
      simp [hd]
    have HBT2 := Lib.hid hbt
    rw [ht1] at he
    clear hbt ht1
    cases t1 <;> cases t2 <;> cases t3 <;> (
      go_wp2_with (first
        | ((with_reducible show wpList _ _ _ (⟨some 14, .load 23 (.tmp 13), _, _, _, _⟩ :: _) _ _); refine wpList_load_g (by rfl) 23 (.tmp 13) rfl w.heap.size 0 rfl qs _ HRA.out Try.underlying23 rfl (by rw [hqsl]; exact sizeID) ?_)
        | ((with_reducible show wpList _ _ _ (⟨some 15, .load 23 (.tmp 5), _, _, _, _⟩ :: _) _ _); refine wpList_load_g (by rfl) 23 (.tmp 5) rfl (w.heap.size + 1) 0 rfl ps _ (rangeAt_whole HB1'.out) Try.underlying23 rfl (by rw [hpsl]; exact sizeID) ?_))
      go_ret
      rw [HBT2.out]
      exact ⟨rfl, HKE.out⟩)
theorem infoLab : (Try.prog.info? 25).map (fun i => (i.zero, i.size, i.bytes)) = some (some (.agg zeroLab.cells.toArray), 37, 72) := by kernel_rfl
theorem oneCell_labs (l : List Lab) : ∀ u ∈ labCells l, u.oneCell' = true := by
  intro u hu
  obtain ⟨x, _, hx⟩ := List.mem_flatMap.1 hu
  exact oneCell_labC x u hx

set_option maxHeartbeats 4000000 in
theorem labelPools_long (w : World) (v : Value) (l : List Lab) (ho : LabsOk l) (hr : Rd w 37 v l.length (labCells l)) (p : List UInt8) (hp : p.length = 32) (dev life : Int) (hl : 20 < l.length) :
    Calls Try.prog 6 #[v, .agg (p.map vb).toArray, .int .i64 dev, .int .i64 life] w (TherePost w true) := by
  obtain ⟨a, c, rfl, -, -⟩ := hr.form
  have ht : decide ((20 : Int) < (l.length : Int)) = true := decide_eq_true (by omega)
  obtain ⟨n, hn⟩ : ∃ n, l.length = n := ⟨_, rfl⟩
  rw [hn] at ht ⊢
  obtain ⟨pc, hpc⟩ : ∃ pc, (p.map vb).toArray = pc := ⟨_, rfl⟩
  rw [hpc]
  clear hr hn hpc hl
  go_enter Try.func6, Try.ntmps6
  go_wp2_with fail
  refine (awake_any _).mono ?_
  rintro e w8 ⟨rfl, hk8⟩
  have HK8 := Lib.hid (((Keep.refl noBlk w).alloc (.cells pc 23)).trans hk8); clear hk8
  go_wp2_with fail
  go_ret
  exact ⟨rfl, HK8.out⟩

set_option maxHeartbeats 8000000 in
theorem labelPools_short (w : World) (v : Value) (l : List Lab) (ho : LabsOk l) (hr : Rd w 37 v l.length (labCells l)) (p : List UInt8) (hp : p.length = 32) (dev life : Int) (hl : ¬ 20 < l.length) :
    Calls Try.prog 6 #[v, .agg (p.map vb).toArray, .int .i64 dev, .int .i64 life] w (TherePost w true) := by
  obtain ⟨a, c, rfl, -, -⟩ := hr.form
  have ht : decide ((20 : Int) < (l.length : Int)) = false := decide_eq_false (by omega)
  have hl2 : l.length ≤ 20 := by omega
  obtain ⟨w0, hw0, hk0, hb0, hs0⟩ := alloc_facts w (p.map vb).toArray 23
  have HSZP : Hid ((Try.prog.info? 23).map (·.size) = some (p.map vb).length) := Lib.hid (by rw [List.length_map, hp]; exact sizeID)
  have HR0 := Lib.hid (hr.keep hk0 fun _ _ => id)
  have HB0 := Lib.hid hb0; have HK0 := Lib.hid hk0; have HP := Lib.hid hp
  have HPE := Lib.hid (pool_eq l)
  obtain ⟨q, hq, hqb, hql⟩ : ∃ q, (poolA l).1 = q ∧ (poolB l).1 = q ∧ q.length = 32 := ⟨_, rfl, by rw [pool_eq], by
    have := poolR_ok ho (poolKeys l).length
    unfold PoolR at this
    rw [List.take_length] at this
    exact this⟩
  obtain ⟨qb, hqb1, hqb2⟩ : ∃ qb, decide (0 < (poolA l).2) = qb ∧ decide (0 < (poolB l).2) = qb := ⟨_, rfl, by rw [pool_eq]⟩
  have C1 := fun w v (h : Rd w 37 v l.length (labCells l)) => pool1 w v l ho h (by omega)
  have C2 := fun w v (h : Rd w 37 v l.length (labCells l)) => rpool_any w v l ho h (by omega)
  unfold PoolPost at C1
  unfold RPoolPost at C2
  rw [hq, hqb1] at C1
  rw [hqb, hqb2] at C2
  have HC1 := Lib.hid C1; have HC2 := Lib.hid C2
  have HQL : Hid ((q.map vb).length = 32) := Lib.hid (by rw [List.length_map]; exact hql)
  have HSQ : Hid ((Try.prog.info? 23).map (·.size) = some (q.map vb).length) := Lib.hid (by rw [List.length_map, hql]; exact sizeID)
  have hnq := fun w => neq_of_eql (eqID q q hql hql w)
  simp only [decide_true, Bool.not_true] at hnq
  have hnb : ∀ w, (binOp .neq 4 (.bool qb) (.bool qb)).run Try.prog w = .ok (.bool false) w := fun w => by cases qb <;> kernel_rfl
  have HOM : Hid ((w0.alloc (.cells #[] 25)).ownsRow (w.heap.size + 1) 25 37 (.slice (some ⟨w.heap.size + 1, 0, none⟩) 0 0) 0 []) := Lib.hid (by rw [← hs0]; exact World.ownsRow_made w0 #[] 0 (Nat.le_refl _) (by unfold maxLen; omega) rfl)
  clear hr hp hk0 hb0 hq hqb hql hqb1 hqb2 C1 C2
  go_enter Try.func6, Try.ntmps6
  go_wp2_with (first
    | (at_builtin; refine wpList_append_rd rfl (.tmp 19) (.tmp 20) 42 rfl (w.heap.size + 1) 25 (.agg zeroLab.cells.toArray) 37 72 Try.underlying42 infoLab rfl (by decide) (.slice (some ⟨w.heap.size + 1, 0, none⟩) 0 0) 0 [] rfl HOM.out (.slice a l.length c) l.length (labCells l) rfl (HR0.out.keep ((Keep.refl noBlk w0).alloc _) fun _ _ => id) (oneCell_labs l) (by unfold maxLen; omega) (by omega) (by rw [World.size_alloc, hs0]; omega) ?_
       intro v1 w1 ho1 hk1 hn1 hb1
       have HO1 := Lib.hid ho1
       have HK1 := Lib.hid (((Keep.refl noBlk w0).alloc (.cells #[] 25)).trans' hk1 (U := noBlk) (fun _ _ h => h) (fun i hi h => by have h' : w.heap.size + 1 = i := Option.some.inj h; omega))
       clear ho1 hk1 hn1 hb1))
  have hr1 := Rd.of_owns HO1.out
  rw [Nat.zero_add, List.nil_append] at hr1
  obtain ⟨a1, c1, rfl, -, -⟩ := hr1.form
  have hgn : ∀ b, (Value.slice a1 l.length c1).ownBlock = some b → w.heap.size + 1 ≤ b := fun b hb => by
    have := owns_base HO1.out hb
    omega
  have HR1 := Lib.hid hr1; have HGN := Lib.hid hgn
  have HRK1 := Lib.hid (HR0.out.keep HK1.out fun _ _ => id)
  have HB1 := Lib.hid (HK1.out.blk HB0.out id)
  have HKA := Lib.hid (HK0.out.trans HK1.out)
  clear hr1 hgn hw0 HO1 HOM
  refine (HC1.out w1 _ HR1.out).mono ?_
  rintro e w2 ⟨rfl, hk2⟩
  have HK2 := Lib.hid hk2
  clear hk2
  go_wp2_with (first
    | ((with_reducible show wpList _ _ _ (⟨some 10, .alloc 23, _, _, _, _⟩ :: _) _ _); refine wpList_alloc_at rfl 23 rfl zero32 zeroID (Array.replicate 32 (.int .u8 0)) rfl ?_)
    | ((with_reducible show wpList _ _ _ (⟨none, .store 23 (.tmp 10) (.tmp 25), _, _, _, _⟩ :: _) _ _); refine wpList_store_agg rfl 23 (.tmp 10) (.tmp 25) rfl w2.heap.size 0 (q.map vb) rfl rfl (Array.replicate 32 (.int .u8 0)) _ (heap_alloc_new _ _) (by rw [HQL.out, Array.size_replicate]; exact Nat.le_refl _) HSQ.out (oneCell_vb _) ?_
       intro w3 hb3 hk3
       rw [spl_whole _ _ (by rw [HQL.out, Array.size_replicate])] at hb3
       have HB3 := Lib.hid hb3
       have HK3 := Lib.hid (HK2.out.trans (((Keep.refl noBlk w2).alloc _).trans' hk3 (fun _ _ h => h) (fun i hi e => by omega)))
       clear hb3 hk3))
  refine (HC2.out w3 _ (HRK1.out.keep HK3.out fun _ _ => id)).mono ?_
  rintro e w4 ⟨rfl, hk4⟩
  have HK4 := Lib.hid (HK3.out.trans hk4); have HB4 := Lib.hid (hk4.blk HB3.out id)
  clear hk4
  go_wp2_with (first
    | ((with_reducible show wpList _ _ _ (⟨some 12, .alloc 23, _, _, _, _⟩ :: _) _ _); refine wpList_alloc_at rfl 23 rfl zero32 zeroID (Array.replicate 32 (.int .u8 0)) rfl ?_)
    | ((with_reducible show wpList _ _ _ (⟨none, .store 23 (.tmp 12) (.tmp 30), _, _, _, _⟩ :: _) _ _); refine wpList_store_agg rfl 23 (.tmp 12) (.tmp 30) rfl w4.heap.size 0 (q.map vb) rfl rfl (Array.replicate 32 (.int .u8 0)) _ (heap_alloc_new _ _) (by rw [HQL.out, Array.size_replicate]; exact Nat.le_refl _) HSQ.out (oneCell_vb _) ?_
       intro w5 hb5 hk5
       rw [spl_whole _ _ (by rw [HQL.out, Array.size_replicate])] at hb5
       have hk45 : Keep noBlk w4 w5 := ((Keep.refl noBlk w4).alloc _).trans' hk5 (fun _ _ h => h) (fun i hi e => by omega)
       have HB5 := Lib.hid hb5; have HB45 := Lib.hid (hk45.blk HB4.out id)
       have HK5 := Lib.hid (HK4.out.trans hk45)
       clear hb5 hk5 hk45)
    | ((with_reducible show wpList _ _ _ (⟨some 32, .load 23 (.tmp 10), _, _, _, _⟩ :: _) _ _); refine wpList_load_mid rfl 23 (.tmp 10) rfl w2.heap.size 0 rfl (q.map vb) _ (rangeAt_whole HB45.out) Try.underlying23 rfl HSQ.out ?_)
    | ((with_reducible show wpList _ _ _ (⟨some 33, .load 23 (.tmp 12), _, _, _, _⟩ :: _) _ _); refine wpList_load_mid rfl 23 (.tmp 12) rfl w4.heap.size 0 rfl (q.map vb) _ (rangeAt_whole HB5.out) Try.underlying23 rfl HSQ.out ?_))
  clear hnq hnb
  have HKW := Lib.hid (HKA.out.trans HK5.out)
  have HR15 := Lib.hid (HR1.out.keep HK5.out fun _ _ => id)
  have HR05 := Lib.hid (HRK1.out.keep HK5.out fun _ _ => id)
  have HP5 := Lib.hid (HK5.out.blk HB1.out id)
  go_loopw [14] (fun i wr => ∃ k : Nat, k ≤ l.length ∧ i = .int .i64 k ∧ Hid (Keep noBlk w5 wr)) (fun i _ => l.length - (intOf i).toNat)
  case atStart => exact ⟨0, by omega, rfl, Lib.hid (Keep.refl _ _)⟩
  case round =>
    obtain ⟨k, hk, rfl, HKR⟩ := hrel
    by_cases hlt : k < l.length
    · obtain ⟨x, hx⟩ : ∃ x, l[k]? = some x := ⟨l[k], by simp [hlt]⟩
      have hxo : x.pool.length = 32 := ho x (List.mem_of_getElem? hx)
      obtain ⟨g2, o2, c2', hv2, -⟩ := rd_lab ho HR15.out hx
      obtain ⟨g, o, c', hv, -⟩ := rd_lab ho HR05.out hx
      cases hv2; cases hv
      have HVX := Lib.hid (x.cells_length hxo)
      have hnq := fun w => neq_of_eql (eqSame x hxo rfl w)
      simp only [Bool.not_true] at hnq
      have CT := Lib.hid fun w => there_any w x p dev life hxo HP.out
      have CR := Lib.hid fun w => rthere_any w x p dev life hxo HP.out
      obtain ⟨tb, htb⟩ : ∃ tb, thereB x p dev life = tb := ⟨_, rfl⟩
      rw [htb] at CT CR
      have hnt : ∀ w, (binOp .neq 4 (.bool tb) (.bool tb)).run Try.prog w = .ok (.bool false) w := fun w => by cases tb <;> kernel_rfl
      obtain ⟨S, hS0⟩ : ∃ S : World → Prop, S = fun w' => Keep noBlk wr w' := ⟨_, rfl⟩
      have hSe : ∀ w', S w' → Keep noBlk w5 w' := fun w' h => by rw [hS0] at h; exact HKR.out.trans h
      have HSK := Lib.hid (show ∀ w' w'', S w' → Keep noBlk w' w'' → S w'' from fun w' w'' h k => by rw [hS0] at h ⊢; exact h.trans k)
      have hS : S wr.drew := by rw [hS0]; exact (Keep.refl _ _).drew
      have HS2 := Lib.hid (show ∀ w', S w' → w'.rangeAt g2 (o2 + k * 37) x.cells from fun w' h => rdLab_range ho (HR15.out.keep (hSe w' h) fun _ _ => id) hx)
      have HS1 := Lib.hid (show ∀ w', S w' → w'.rangeAt g (o + k * 37) x.cells from fun w' h => rdLab_range ho (HR05.out.keep (hSe w' h) fun _ _ => id) hx)
      have HSP := Lib.hid (show ∀ w', S w' → w'.rangeAt w.heap.size 0 (p.map vb) from fun w' h => rangeAt_whole ((hSe w' h).blk HP5.out id))
      have HSE := Lib.hid hSe
      have hki : (k : Int) < (l.length : Int) := by omega
      have hk0 : (0 : Int) ≤ (k : Int) := by omega
      clear hx hxo htb hS0 hSe
      go_wp2_with fail
      refine wp_region_held (S := S) (by kernel_rfl) ?_
      change wpAnyH _ _ _ _ _ _ _ _ wr.drew
      generalize wr.drew = w6 at *
      refine wpAnyH_take (i := 0) (v := .slice (some ⟨g2, o2, none⟩) l.length c1) rfl (by kernel_rfl) (by kernel_rfl) (by kernel_rfl) (fun _ _ _ h => h) (.inl ⟨by rfl, fun _ _ => rfl⟩) hS ?_
      simp only [Act.put, List.setIfInBounds_toArray, List.set_cons_zero, List.set_cons_succ, List.getElem_toArray, List.getElem_cons_zero]
      refine wpAnyH_take (i := 1) (v := .int .i64 k) rfl (by kernel_rfl) (by kernel_rfl) (by kernel_rfl) (fun _ _ _ h => h) (.inl ⟨by rfl, fun _ _ => rfl⟩) hS ?_
      simp only [Act.put, List.setIfInBounds_toArray, List.set_cons_zero, List.set_cons_succ, List.getElem_toArray, List.getElem_cons_succ, List.getElem_cons_zero]
      refine wpAnyH_take (i := 2) (v := .pointer (some ⟨g2, o2 + k * 37, none⟩)) rfl (by kernel_rfl) (by kernel_rfl) (by kernel_rfl) (fun _ _ _ h => h) (.inl ⟨by rfl, fun _ _ => ?_⟩) hS ?_
      · go_simp
      simp only [Act.put, List.setIfInBounds_toArray, List.set_cons_zero, List.set_cons_succ, List.getElem_toArray, List.getElem_cons_succ, List.getElem_cons_zero]
      refine wpAnyH_take (i := 3) (v := .agg x.cells.toArray) rfl (by kernel_rfl) (by kernel_rfl) (by kernel_rfl) (fun _ _ _ h => h) (yieldsIf_load_mid (by rfl) 25 (.tmp 48) rfl g2 (o2 + k * 37) rfl x.cells _ HS2.out Try.underlying25 rfl (by rw [HVX.out]; exact sizeLab)) hS ?_
      simp only [Act.put, List.setIfInBounds_toArray, List.set_cons_zero, List.set_cons_succ, List.getElem_toArray, List.getElem_cons_succ, List.getElem_cons_zero]
      refine wpAnyH_take (i := 4) (v := .slice (some ⟨g, o, none⟩) l.length c) rfl (by kernel_rfl) (by kernel_rfl) (by kernel_rfl) (fun _ _ _ h => h) (.inl ⟨by rfl, fun _ _ => rfl⟩) hS ?_
      simp only [Act.put, List.setIfInBounds_toArray, List.set_cons_zero, List.set_cons_succ, List.getElem_toArray, List.getElem_cons_succ, List.getElem_cons_zero]
      refine wpAnyH_take (i := 5) (v := .int .i64 k) rfl (by kernel_rfl) (by kernel_rfl) (by kernel_rfl) (fun _ _ _ h => h) (.inl ⟨by rfl, fun _ _ => rfl⟩) hS ?_
      simp only [Act.put, List.setIfInBounds_toArray, List.set_cons_zero, List.set_cons_succ, List.getElem_toArray, List.getElem_cons_succ, List.getElem_cons_zero]
      refine wpAnyH_take (i := 6) (v := .pointer (some ⟨g, o + k * 37, none⟩)) rfl (by kernel_rfl) (by kernel_rfl) (by kernel_rfl) (fun _ _ _ h => h) (.inl ⟨by rfl, fun _ _ => ?_⟩) hS ?_
      · go_simp
      simp only [Act.put, List.setIfInBounds_toArray, List.set_cons_zero, List.set_cons_succ, List.getElem_toArray, List.getElem_cons_succ, List.getElem_cons_zero]
      refine wpAnyH_take (i := 7) (v := .agg x.cells.toArray) rfl (by kernel_rfl) (by kernel_rfl) (by kernel_rfl) (fun _ _ _ h => h) (yieldsIf_load_mid (by rfl) 25 (.tmp 52) rfl g (o + k * 37) rfl x.cells _ HS1.out Try.underlying25 rfl (by rw [HVX.out]; exact sizeLab)) hS ?_
      simp only [Act.put, List.setIfInBounds_toArray, List.set_cons_zero, List.set_cons_succ, List.getElem_toArray, List.getElem_cons_succ, List.getElem_cons_zero]
      refine wpAnyH_take (i := 8) (v := .bool false) rfl (by kernel_rfl) (by kernel_rfl) (by kernel_rfl) (fun _ _ _ h => h) (.inl ⟨by rfl, fun _ _ => ?_⟩) hS ?_
      · go_simp
      simp only [Act.put, List.setIfInBounds_toArray, List.set_cons_zero, List.set_cons_succ, List.getElem_toArray, List.getElem_cons_succ, List.getElem_cons_zero]
      refine wpAnyH_take (i := 9) (v := .bool false) rfl (by kernel_rfl) (by kernel_rfl) (by kernel_rfl) (fun _ _ _ h => h) (.inl ⟨by rfl, fun _ _ => rfl⟩) hS ?_
      simp only [Act.put, List.setIfInBounds_toArray, List.set_cons_zero, List.set_cons_succ, List.getElem_toArray, List.getElem_cons_succ, List.getElem_cons_zero]
      refine wpAnyH_take (i := 10) (v := .slice (some ⟨g2, o2, none⟩) l.length c1) rfl (by kernel_rfl) (by kernel_rfl) (by kernel_rfl) (fun _ _ _ h => h) (.inl ⟨by rfl, fun _ _ => rfl⟩) hS ?_
      simp only [Act.put, List.setIfInBounds_toArray, List.set_cons_zero, List.set_cons_succ, List.getElem_toArray, List.getElem_cons_succ, List.getElem_cons_zero]
      refine wpAnyH_take (i := 11) (v := .int .i64 k) rfl (by kernel_rfl) (by kernel_rfl) (by kernel_rfl) (fun _ _ _ h => h) (.inl ⟨by rfl, fun _ _ => rfl⟩) hS ?_
      simp only [Act.put, List.setIfInBounds_toArray, List.set_cons_zero, List.set_cons_succ, List.getElem_toArray, List.getElem_cons_succ, List.getElem_cons_zero]
      refine wpAnyH_take (i := 12) (v := .pointer (some ⟨g2, o2 + k * 37, none⟩)) rfl (by kernel_rfl) (by kernel_rfl) (by kernel_rfl) (fun _ _ _ h => h) (.inl ⟨by rfl, fun _ _ => ?_⟩) hS ?_
      · go_simp
      simp only [Act.put, List.setIfInBounds_toArray, List.set_cons_zero, List.set_cons_succ, List.getElem_toArray, List.getElem_cons_succ, List.getElem_cons_zero]
      refine wpAnyH_take (i := 13) (v := .agg x.cells.toArray) rfl (by kernel_rfl) (by kernel_rfl) (by kernel_rfl) (fun _ _ _ h => h) (yieldsIf_load_mid (by rfl) 25 (.tmp 58) rfl g2 (o2 + k * 37) rfl x.cells _ HS2.out Try.underlying25 rfl (by rw [HVX.out]; exact sizeLab)) hS ?_
      simp only [Act.put, List.setIfInBounds_toArray, List.set_cons_zero, List.set_cons_succ, List.getElem_toArray, List.getElem_cons_succ, List.getElem_cons_zero]
      refine wpAnyH_take (i := 14) (v := .agg (p.map vb).toArray) rfl (by kernel_rfl) (by kernel_rfl) (by kernel_rfl) (fun _ _ _ h => h) (yieldsIf_load_mid (by rfl) 23 (.tmp 5) rfl w.heap.size 0 rfl (p.map vb) _ HSP.out Try.underlying23 rfl HSZP.out) hS ?_
      simp only [Act.put, List.setIfInBounds_toArray, List.set_cons_zero, List.set_cons_succ, List.getElem_toArray, List.getElem_cons_succ, List.getElem_cons_zero]
      refine wpAnyH_take (i := 15) (v := .int .i64 dev) rfl (by kernel_rfl) (by kernel_rfl) (by kernel_rfl) (fun _ _ _ h => h) (.inl ⟨by rfl, fun _ _ => rfl⟩) hS ?_
      simp only [Act.put, List.setIfInBounds_toArray, List.set_cons_zero, List.set_cons_succ, List.getElem_toArray, List.getElem_cons_succ, List.getElem_cons_zero]
      refine wpAnyH_take (i := 16) (v := .int .i64 life) rfl (by kernel_rfl) (by kernel_rfl) (by kernel_rfl) (fun _ _ _ h => h) (.inl ⟨by rfl, fun _ _ => rfl⟩) hS ?_
      simp only [Act.put, List.setIfInBounds_toArray, List.set_cons_zero, List.set_cons_succ, List.getElem_toArray, List.getElem_cons_succ, List.getElem_cons_zero]
      refine wpAnyH_take (i := 18) (v := .slice (some ⟨g, o, none⟩) l.length c) rfl (by kernel_rfl) (by kernel_rfl) (by kernel_rfl) (fun _ _ _ h => h) (.inl ⟨by rfl, fun _ _ => rfl⟩) hS ?_
      simp only [Act.put, List.setIfInBounds_toArray, List.set_cons_zero, List.set_cons_succ, List.getElem_toArray, List.getElem_cons_succ, List.getElem_cons_zero]
      refine wpAnyH_take (i := 19) (v := .int .i64 k) rfl (by kernel_rfl) (by kernel_rfl) (by kernel_rfl) (fun _ _ _ h => h) (.inl ⟨by rfl, fun _ _ => rfl⟩) hS ?_
      simp only [Act.put, List.setIfInBounds_toArray, List.set_cons_zero, List.set_cons_succ, List.getElem_toArray, List.getElem_cons_succ, List.getElem_cons_zero]
      refine wpAnyH_take (i := 20) (v := .pointer (some ⟨g, o + k * 37, none⟩)) rfl (by kernel_rfl) (by kernel_rfl) (by kernel_rfl) (fun _ _ _ h => h) (.inl ⟨by rfl, fun _ _ => ?_⟩) hS ?_
      · go_simp
      simp only [Act.put, List.setIfInBounds_toArray, List.set_cons_zero, List.set_cons_succ, List.getElem_toArray, List.getElem_cons_succ, List.getElem_cons_zero]
      refine wpAnyH_take (i := 21) (v := .agg x.cells.toArray) rfl (by kernel_rfl) (by kernel_rfl) (by kernel_rfl) (fun _ _ _ h => h) (yieldsIf_load_mid (by rfl) 25 (.tmp 66) rfl g (o + k * 37) rfl x.cells _ HS1.out Try.underlying25 rfl (by rw [HVX.out]; exact sizeLab)) hS ?_
      simp only [Act.put, List.setIfInBounds_toArray, List.set_cons_zero, List.set_cons_succ, List.getElem_toArray, List.getElem_cons_succ, List.getElem_cons_zero]
      refine wpAnyH_take (i := 22) (v := .agg (p.map vb).toArray) rfl (by kernel_rfl) (by kernel_rfl) (by kernel_rfl) (fun _ _ _ h => h) (yieldsIf_load_mid (by rfl) 23 (.tmp 5) rfl w.heap.size 0 rfl (p.map vb) _ HSP.out Try.underlying23 rfl HSZP.out) hS ?_
      simp only [Act.put, List.setIfInBounds_toArray, List.set_cons_zero, List.set_cons_succ, List.getElem_toArray, List.getElem_cons_succ, List.getElem_cons_zero]
      refine wpAnyH_take (i := 23) (v := .int .i64 dev) rfl (by kernel_rfl) (by kernel_rfl) (by kernel_rfl) (fun _ _ _ h => h) (.inl ⟨by rfl, fun _ _ => rfl⟩) hS ?_
      simp only [Act.put, List.setIfInBounds_toArray, List.set_cons_zero, List.set_cons_succ, List.getElem_toArray, List.getElem_cons_succ, List.getElem_cons_zero]
      refine wpAnyH_take (i := 24) (v := .int .i64 life) rfl (by kernel_rfl) (by kernel_rfl) (by kernel_rfl) (fun _ _ _ h => h) (.inl ⟨by rfl, fun _ _ => rfl⟩) hS ?_
      simp only [Act.put, List.setIfInBounds_toArray, List.set_cons_zero, List.set_cons_succ, List.getElem_toArray, List.getElem_cons_succ, List.getElem_cons_zero]
      refine wpAnyH_one (k := 17) rfl (by kernel_rfl) ?_
      go_wp2_with fail
      refine (CT.out _).mono ?_
      rintro e w7 ⟨rfl, hk7⟩
      have hS7 := HSK.out _ _ hS hk7
      clear hS hk7
      go_wp2_with fail
      refine ⟨hS7, ?_⟩
      refine wpAnyH_one (k := 25) rfl (by kernel_rfl) ?_
      go_wp2_with fail
      refine (CR.out _).mono ?_
      rintro e w8 ⟨rfl, hk8⟩
      have hS8 := HSK.out _ _ hS7 hk8
      clear hS7 hk8
      go_wp2_with fail
      refine ⟨hS8, ?_⟩
      refine wpAnyH_take (i := 26) (v := .bool false) rfl (by kernel_rfl) (by kernel_rfl) (by kernel_rfl) (fun _ _ _ h => h) (.inl ⟨by rfl, fun _ _ => ?_⟩) hS8 ?_
      · go_simp
      simp only [Act.put, List.setIfInBounds_toArray, List.set_cons_zero, List.set_cons_succ, List.getElem_toArray, List.getElem_cons_succ, List.getElem_cons_zero]
      refine wpAnyH_take (i := 27) (v := .bool false) rfl (by kernel_rfl) (by kernel_rfl) (by kernel_rfl) (fun _ _ _ h => h) (.inl ⟨by rfl, fun _ _ => rfl⟩) hS8 ?_
      simp only [Act.put, List.setIfInBounds_toArray, List.set_cons_zero, List.set_cons_succ, List.getElem_toArray, List.getElem_cons_succ, List.getElem_cons_zero]
      refine wpAnyH_done (by kernel_rfl) ?_ _
      have HKE := Lib.hid (HSE.out _ hS8)
      clear hS8 hnq hnt
      go_wp2_with fail
      go_roundw
      case rel => exact ⟨k + 1, by omega, by go_num, HKE⟩
      case measure => simp [intOf]; omega
    · obtain rfl : k = l.length := by omega
      go_wp2_with fail
      refine (awake_any _).mono ?_
      rintro e w8 ⟨rfl, hk8⟩
      have HK8 := Lib.hid ((HKW.out.trans HKR.out).trans hk8)
      clear hk8
      go_wp2_with fail
      go_ret
      exact ⟨rfl, HK8.out⟩

theorem labelPools_walk (w : World) (v : Value) (l : List Lab) (ho : LabsOk l) (hr : Rd w 37 v l.length (labCells l)) (p : List UInt8) (hp : p.length = 32) (dev life : Int) :
    Calls Try.prog 6 #[v, .agg (p.map vb).toArray, .int .i64 dev, .int .i64 life] w (TherePost w true) := by
  by_cases hl : 20 < l.length
  · exact labelPools_long w v l ho hr p hp dev life hl
  · exact labelPools_short w v l ho hr p hp dev life hl
end Go.Proofs.Ytdlegbcdmlmbpaa
