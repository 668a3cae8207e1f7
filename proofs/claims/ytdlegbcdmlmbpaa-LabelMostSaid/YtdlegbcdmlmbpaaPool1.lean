/-
  label.Pool: the pools counted in a map.
  Conditions: at most 65,536 labels.
-/
import Derived.Test.YtdlegbcdmlmbpaaSortID
import Derived.Test.YtdlegbcdmlmbpaaAwake
namespace Go.Proofs.Ytdlegbcdmlmbpaa
open Go.RowKit Go.Maps Go.ChangeMaps
set_option maxRecDepth 100000
set_option linter.unusedVariables false

theorem alloc_facts (w : World) (cs : Array Value) (t : TypeId) : ∃ w', w.alloc (.cells cs t) = w' ∧ Keep noBlk w w' ∧ w'.heap[w.heap.size]? = some (.cells cs t (0, 0)) ∧ w'.heap.size = w.heap.size + 1 :=
  ⟨_, rfl, (Keep.refl _ _).alloc _, heap_alloc_new _ _, World.size_alloc _ _⟩

def labCells (l : List Lab) : List Value := l.flatMap Lab.cells
def LabsOk (l : List Lab) : Prop := ∀ x ∈ l, x.pool.length = 32
theorem labCells_len : ∀ {l : List Lab}, LabsOk l → (labCells l).length = l.length * 37
  | [], _ => rfl
  | x :: l, h => by
    have h1 := x.cells_length (h x (by simp))
    have h2 := labCells_len (l := l) fun y hy => h y (by simp [hy])
    unfold labCells at h2 ⊢
    rw [List.flatMap_cons, List.length_append, h1, h2, List.length_cons]
    omega
theorem labCells_at : ∀ {l : List Lab}, LabsOk l → ∀ {k : Nat} {x : Lab}, l[k]? = some x → ∀ {j : Nat}, j < 37 → (labCells l)[k * 37 + j]? = x.cells[j]?
  | [], _, k, x, h, _, _ => by simp at h
  | y :: l, ho, 0, x, h, j, hj => by
    simp only [List.getElem?_cons_zero, Option.some.injEq] at h
    subst h
    unfold labCells
    rw [List.flatMap_cons, Nat.zero_mul, Nat.zero_add, List.getElem?_append_left (by rw [y.cells_length (ho y (by simp))]; exact hj)]
  | y :: l, ho, k + 1, x, h, j, hj => by
    have h1 := y.cells_length (ho y (by simp))
    have := labCells_at (l := l) (fun z hz => ho z (by simp [hz])) (k := k) (x := x) (by simpa using h) hj
    unfold labCells at this ⊢
    rw [List.flatMap_cons, List.getElem?_append_right (by rw [h1]; omega), h1, show (k + 1) * 37 + j - 37 = k * 37 + j by omega, this]
theorem rd_lab {w : World} {v : Value} {l : List Lab} (ho : LabsOk l) (h : Rd w 37 v l.length (labCells l)) {k : Nat} {x : Lab} (hk : l[k]? = some x) :
    ∃ g o cap, v = .slice (some ⟨g, o, none⟩) l.length cap ∧ w.rangeAt g (o + k * 37) x.cells := by
  obtain ⟨h0, a, cap, rfl, h1, h2, h3, h4⟩ := h
  have hlt := (List.getElem?_eq_some_iff.1 hk).1
  obtain ⟨g, o, rfl, hc⟩ := h4 (by rw [labCells_len ho]; omega)
  refine ⟨g, o, cap, rfl, fun j u hj => ?_⟩
  have hj37 : j < 37 := by have := (List.getElem?_eq_some_iff.1 hj).1; rw [x.cells_length (ho x (List.mem_of_getElem? hk))] at this; exact this
  have := hc (k * 37 + j) u (by rw [labCells_at ho hk hj37]; exact hj)
  rwa [← Nat.add_assoc] at this
theorem sizeLab' : (Try.prog.info? 25).map (·.size) = some 37 := by kernel_rfl
theorem oneCell_labC (x : Lab) : ∀ u ∈ x.cells, u.oneCell' = true := by
  intro u hu
  rcases List.mem_append.1 hu with h | h
  · exact oneCell_vb _ u h
  · simp [Lab.nums] at h
    rcases h with rfl | rfl | rfl | rfl | rfl <;> rfl
theorem zeroInt (w : World) : (zeroValue 3).run Try.prog w = .ok (intV 0) w := by kernel_rfl

/-- What label.Pool tells. -/
def PoolPost (w : World) (l : List Lab) (e : Ending) (w' : World) : Prop :=
  e = .returned (.tuple #[.agg ((poolA l).1.map vb).toArray, .bool (decide (0 < (poolA l).2))]) ∧ Keep noBlk w w'

/-- The state of the second loop behind j pools. -/
def PoolR (l : List Lab) (j : Nat) : List UInt8 × Nat := ((poolKeys l).take j).foldl (stepA l) (zeros, 0)
theorem poolR_succ (l : List Lab) {j : Nat} {p : List UInt8} (h : (poolKeys l)[j]? = some p) : PoolR l (j + 1) = stepA l (PoolR l j) p := by
  unfold PoolR
  have hlt := (List.getElem?_eq_some_iff.1 h).1
  rw [List.take_succ_eq_append_getElem hlt, List.foldl_append]
  rw [List.getElem?_eq_getElem hlt] at h
  cases h
  rfl
theorem poolR_le (l : List Lab) (j : Nat) : (PoolR l j).2 ≤ l.length := by
  induction j with
  | zero => simp [PoolR]
  | succ j ih =>
    rcases h : (poolKeys l)[j]? with _ | p
    · have : PoolR l (j + 1) = PoolR l j := by
        unfold PoolR
        rw [List.take_of_length_le (by have := List.getElem?_eq_none_iff.1 h; omega), List.take_of_length_le (List.getElem?_eq_none_iff.1 h)]
      rw [this]; exact ih
    · rw [poolR_succ l h]
      unfold stepA
      split
      · exact List.length_filter_le _ _
      · exact ih
theorem poolKeys_ok {l : List Lab} (ho : LabsOk l) {p : List UInt8} (h : p ∈ poolKeys l) : p.length = 32 := by
  rw [mem_poolKeys] at h
  obtain ⟨x, hx, -, rfl⟩ := cntP_pos h
  exact ho x hx
theorem poolR_ok {l : List Lab} (ho : LabsOk l) (j : Nat) : (PoolR l j).1.length = 32 := by
  induction j with
  | zero => simp [PoolR, zeros]
  | succ j ih =>
    rcases h : (poolKeys l)[j]? with _ | p
    · have : PoolR l (j + 1) = PoolR l j := by
        unfold PoolR
        rw [List.take_of_length_le (by have := List.getElem?_eq_none_iff.1 h; omega), List.take_of_length_le (List.getElem?_eq_none_iff.1 h)]
      rw [this]; exact ih
    · rw [poolR_succ l h]
      unfold stepA
      split
      · exact poolKeys_ok ho (List.mem_of_getElem? h)
      · exact ih
theorem idCells_len : ∀ {l : List (List UInt8)}, (∀ y ∈ l, y.length = 32) → (idCells l).length = l.length * 32
  | [], _ => rfl
  | x :: l, h => by
    have h2 := idCells_len (l := l) fun y hy => h y (by simp [hy])
    unfold idCells at h2 ⊢
    rw [List.flatMap_cons, List.length_append, List.length_map, h x (by simp), h2, List.length_cons]
    omega
theorem idCells_at : ∀ {l : List (List UInt8)}, (∀ y ∈ l, y.length = 32) → ∀ {k : Nat} {x : List UInt8}, l[k]? = some x → ∀ {j : Nat}, j < 32 → (idCells l)[k * 32 + j]? = (x.map vb)[j]?
  | [], _, k, x, h, _, _ => by simp at h
  | y :: l, ho, 0, x, h, j, hj => by
    simp only [List.getElem?_cons_zero, Option.some.injEq] at h
    subst h
    unfold idCells
    rw [List.flatMap_cons, Nat.zero_mul, Nat.zero_add, List.getElem?_append_left (by rw [List.length_map, ho y (by simp)]; exact hj)]
  | y :: l, ho, k + 1, x, h, j, hj => by
    have h1 := ho y (by simp)
    have := idCells_at (l := l) (fun z hz => ho z (by simp [hz])) (k := k) (x := x) (by simpa using h) hj
    unfold idCells at this ⊢
    rw [List.flatMap_cons, List.getElem?_append_right (by rw [List.length_map, h1]; omega), List.length_map, h1, show (k + 1) * 32 + j - 32 = k * 32 + j by omega, this]
theorem rd_id {w : World} {v : Value} {l : List (List UInt8)} (ho : ∀ y ∈ l, y.length = 32) (h : Rd w 32 v l.length (idCells l)) {k : Nat} {x : List UInt8} (hk : l[k]? = some x) :
    ∃ g o cap, v = .slice (some ⟨g, o, none⟩) l.length cap ∧ w.rangeAt g (o + k * 32) (x.map vb) := by
  obtain ⟨h0, a, cap, rfl, h1, h2, h3, h4⟩ := h
  have hlt := (List.getElem?_eq_some_iff.1 hk).1
  obtain ⟨g, o, rfl, hc⟩ := h4 (by rw [idCells_len ho]; omega)
  refine ⟨g, o, cap, rfl, fun j u hj => ?_⟩
  have hj32 : j < 32 := by have := (List.getElem?_eq_some_iff.1 hj).1; rw [List.length_map, ho x (List.mem_of_getElem? hk)] at this; exact this
  have := hc (k * 32 + j) u (by rw [idCells_at ho hk hj32]; exact hj)
  rwa [← Nat.add_assoc] at this
theorem yieldsIf_lookup {P : Program} {ops : Array Oper} {S : World → Prop} {o : Oper} {a : Act} {v : Value} (hw : Region.wanted o (yielded ops a.tmps) = true) (m x : Operand) (t : TypeId) (hop : o.op = Op.lookup t m x false)
    (h : ∀ w, S w → (Instr.lookup t (a.eval m) (a.eval x) false).run P w = .ok v w) : YieldsIf P ops S o v a :=
  .inl ⟨hw, fun w hS => by
    have := h w hS
    unfold execOp
    simp only [hop, Sem.run_bind, this, Result.andThen_ok, Sem.run_pure]⟩

set_option maxHeartbeats 2000000 in
theorem pool1 (w : World) (v : Value) (l : List Lab) (ho : LabsOk l) (hr : Rd w 37 v l.length (labCells l)) (hl : l.length ≤ 65536) : Calls Try.prog 23 #[v] w (PoolPost w l) := by
  have hmm := @run_makeMap Try.prog
  obtain ⟨av, cv, rfl, -, -⟩ := hr.form
  have HR := Lib.hid hr
  clear hr
  go_enter Try.func23, Try.ntmps23
  go_wp2_with (first
    | (refine wpList_alloc_at rfl 23 rfl zero32 zeroID (Array.replicate 32 (.int .u8 0)) rfl ?_))
  obtain ⟨w2, hw2⟩ : ∃ w2, (w.alloc (.cells (Array.replicate 32 (.int .u8 0)) 23)).alloc (.map #[] 0) = w2 := ⟨_, rfl⟩
  have hk2 : Keep noBlk w w2 := by rw [← hw2]; exact ((Keep.refl _ _).alloc _).alloc _
  have hs2 : w2.heap.size = w.heap.size + 2 := by rw [← hw2, World.size_alloc, World.size_alloc]
  have hm2 : MapIs IdOk idV intV w2 (w.heap.size + 1) (tally []) := by
    rw [← hw2]
    have := MapIs.made (ok := IdOk) (enc := idV) (ev := intV) (w.alloc (.cells (Array.replicate 32 (.int .u8 0)) 23))
    rwa [World.size_alloc] at this
  rw [hw2]
  have hr0 : w2.heap[w.heap.size]? = some (.cells (Array.replicate 32 (.int .u8 0)) 23 (0, 0)) := by rw [← hw2]; exact ((Keep.refl noBlk _).alloc _).blk (heap_alloc_new _ _) id
  have HR0 := Lib.hid hr0
  have HK2 := Lib.hid hk2; have HM2 := Lib.hid hm2
  clear hw2 hk2 hm2 hmm hr0
  go_loopw [14] (fun i wr => ∃ k : Nat, k ≤ l.length ∧ i = .int .i64 k ∧ Hid (MapIs IdOk idV intV wr (w.heap.size + 1) (tally (l.take k))) ∧ Hid (Keep (fun j => j = w.heap.size + 1) w2 wr)) (fun i _ => l.length - (intOf i).toNat)
  case atStart => exact ⟨0, Nat.zero_le _, rfl, HM2, Lib.hid (Keep.refl _ _)⟩
  case round =>
    obtain ⟨k, hk, rfl, HM, HK⟩ := hrel
    by_cases hlt : k < l.length
    · obtain ⟨x, hx⟩ : ∃ x, l[k]? = some x := ⟨l[k], by simp [hlt]⟩
      have hxo : x.pool.length = 32 := ho x (List.mem_of_getElem? hx)
      have hkw : Keep (fun j => j = w.heap.size + 1) w wr := HK2.out.trans' HK.out (fun _ _ h => h.elim) (fun _ _ h => h)
      have hrw := HR.out.keep hkw (fun b hb e => by
        have := HR.out.lt (by rw [labCells_len ho]; omega)
        obtain ⟨b', hb', hlt'⟩ := this
        rw [hb] at hb'; cases hb'; omega)
      obtain ⟨g, o, cap, hv, hcells⟩ := rd_lab ho hrw hx
      cases hv
      have hvl : x.cells.length = 37 := x.cells_length hxo
      have HX := Lib.hid hx; have HC := Lib.hid hcells; have HVL := Lib.hid hvl
      have HXO := Lib.hid hxo
      clear hx hcells hrw hvl hkw hxo
      obtain ⟨zc, hzc, hzl⟩ : ∃ zc, zeroLab.cells = zc ∧ zc.length = 37 := ⟨_, rfl, rfl⟩
      have hzv : ∀ w, (zeroValue 25).run Try.prog w = .ok (.agg zc.toArray) w := fun w => by rw [← hzc]; exact zeroValLab w
      have HZV := Lib.hid hzv; have HZL := Lib.hid hzl
      clear hzv hzl hzc
      go_wp2_with (first
        | ((with_reducible show wpList _ _ _ (⟨some 17, .load 25 (.tmp 16), _, _, _, _⟩ :: _) _ _); refine wpList_load_mid rfl 25 (.tmp 16) rfl g (o + k * 37) rfl x.cells _ HC.out Try.underlying25 rfl (by rw [HVL.out]; exact sizeLab') ?_)
        | ((with_reducible show wpList _ _ _ (⟨some 6, .alloc 25, _, _, _, _⟩ :: _) _ _); refine wpList_alloc_at rfl 25 rfl _ HZV.out zc.toArray rfl ?_)
        | ((with_reducible show wpList _ _ _ (⟨none, .store 25 (.tmp 6) (.tmp 17), _, _, _, _⟩ :: _) _ _); refine wpList_store_agg rfl 25 (.tmp 6) (.tmp 17) rfl wr.heap.size 0 x.cells rfl rfl zc.toArray 25 (heap_alloc_new _ _) (by rw [HVL.out, List.size_toArray, HZL.out]; exact Nat.le_refl _) (by rw [HVL.out]; exact sizeLab') (oneCell_labC x) ?_
           intro w3 hb3 hk3
           rw [spl_whole _ _ (by rw [HVL.out, List.size_toArray, HZL.out])] at hb3
           have hkr : Keep noBlk wr w3 := ((Keep.refl noBlk wr).alloc _).trans' hk3 (fun _ _ h => h) (fun i hi e => by omega)
           have HB3 := Lib.hid hb3; have HKR := Lib.hid hkr
           clear hb3 hk3 hkr)
        | ((with_reducible show wpList _ _ _ (⟨some 18, .load 25 (.tmp 6), _, _, _, _⟩ :: _) _ _); refine wpList_load_mid rfl 25 (.tmp 6) rfl wr.heap.size 0 rfl x.cells _ (rangeAt_whole HB3.out) Try.underlying25 rfl (by rw [HVL.out]; exact sizeLab') ?_))
      refine (check_any x HXO.out _).mono ?_
      rintro e w4 ⟨rfl, hw4⟩
      have hk4 : Keep noBlk w3 w4 := by rw [← hw4]; exact (Keep.refl _ _).alloc _
      have hkr4 : Keep noBlk wr w4 := HKR.out.trans hk4
      have HB4 := Lib.hid (hk4.blk HB3.out id)
      have HM4 := Lib.hid (HM.out.keep hkr4 id)
      have HK4 := Lib.hid (HK.out.trans' hkr4 (fun _ _ h => h) (fun _ _ h => h.elim))
      have hs4 := hkr4.size
      have hwr := HK.out.size
      clear hw4 hk4 hkr4 HB3 HKR HM HK
      have htk : l.take (k + 1) = l.take k ++ [x] := by rw [List.take_succ_eq_append_getElem hlt]; have := HX.out; rw [List.getElem?_eq_getElem hlt] at this; cases this; rfl
      have HTK : Hid (tally (l.take (k + 1)) = tstep (tally (l.take k)) x) := Lib.hid (by rw [htk, tally_snoc])
      clear htk
      cases hm : x.may
      · have HTK' : Hid (tally (l.take (k + 1)) = tally (l.take k)) := Lib.hid (by rw [HTK.out]; unfold tstep; rw [hm]; rfl)
        clear hm
        go_wp2
        go_roundw
        case rel => exact ⟨k + 1, by omega, by go_num, by rw [HTK'.out]; exact HM4, HK4⟩
        case measure => simp [intOf]; omega
      · have hn : (look (tally (l.take k)) x.pool).getD 0 = (cntP (l.take k) x.pool : Int) := tally_getD _ _
        have hc : cntP (l.take k) x.pool ≤ 65536 := by
          have h1 : cntP (l.take k) x.pool ≤ (l.take k).length := List.length_filter_le _ _
          have h2 := List.length_take_le k l
          omega
        generalize hz : cntP (l.take k) x.pool = z at *
        have HN := Lib.hid hn
        have hT : tally (l.take (k + 1)) = upsert (tally (l.take k)) x.pool ((z : Int) + 1) := by rw [HTK.out]; unfold tstep; rw [hm, if_pos rfl, hn]
        have HT := Lib.hid hT
        clear hm hz hn hT
        generalize htl : tally (l.take k) = m0 at *
        clear htl HTK
        go_wp2
        have hpl : (x.pool.map vb).length = 32 := by rw [List.length_map]; exact HXO.out
        obtain ⟨S, hS0⟩ : ∃ S : World → Prop, S = fun w' => w'.heap[wr.heap.size]? = some (.cells x.cells.toArray 25 (0, 0)) ∧ Keep (fun j => j = w.heap.size + 1) w4 w' := ⟨_, rfl⟩
        have hS : S w4.drew := by rw [hS0]; exact ⟨(Keep.refl noBlk w4).drew.blk HB4.out id, (Keep.refl _ _).drew⟩
        have hSp : ∀ w', S w' → w'.rangeAt wr.heap.size 0 (x.pool.map vb) := fun w' h => by
          rw [hS0] at h
          intro j u hj
          have hj32 : j < 32 := by rw [← hpl]; exact (List.getElem?_eq_some_iff.1 hj).1
          refine rangeAt_whole h.1 j u ?_
          rw [x.cells_pool HXO.out j hj32]; exact hj
        have hSk : ∀ w' w'', S w' → Keep (fun j => j = w.heap.size + 1) w' w'' → S w'' := fun w' w'' h hk => by
          rw [hS0] at h ⊢
          exact ⟨hk.blk h.1 (fun e => by omega), h.2.trans hk⟩
        have hSe : ∀ w', S w' → Keep (fun j => j = w.heap.size + 1) w2 w' := fun w' h => by rw [hS0] at h; exact HK4.out.trans h.2
        have hmd : MapIs IdOk idV intV w4.drew (w.heap.size + 1) m0 := HM4.out.keep (Keep.refl noBlk w4).drew id
        have HMD := Lib.hid hmd; have HSP := Lib.hid hSp; have HSK := Lib.hid hSk; have HSE := Lib.hid hSe; have HPL := Lib.hid hpl
        clear hS0 hSp hSk hSe hmd hpl
        refine wp_region_held (S := S) (by kernel_rfl) ?_
        change wpAnyH _ _ _ _ _ _ _ _ w4.drew
        generalize w4.drew = w5 at *
        refine wpAnyH_take (i := 0) (v := .map (some (w.heap.size + 1))) rfl (by kernel_rfl) (by kernel_rfl) (by kernel_rfl) (fun _ _ _ h => h) (.inl ⟨by rfl, fun _ _ => rfl⟩) hS ?_
        simp only [Act.put, List.setIfInBounds_toArray, List.set_cons_zero, List.set_cons_succ, List.getElem_toArray, List.getElem_cons_zero]
        refine wpAnyH_take (i := 1) (v := .pointer (some ⟨wr.heap.size, 0, none⟩)) rfl (by kernel_rfl) (by kernel_rfl) (by kernel_rfl) (fun _ _ _ h => h) (.inl ⟨by rfl, fun _ _ => ?_⟩) hS ?_
        · go_simp
        simp only [Act.put, List.setIfInBounds_toArray, List.set_cons_zero, List.set_cons_succ, List.getElem_toArray, List.getElem_cons_succ, List.getElem_cons_zero]
        refine wpAnyH_take (i := 2) (v := .agg (x.pool.map vb).toArray) rfl (by kernel_rfl) (by kernel_rfl) (by kernel_rfl) (fun _ _ _ h => h) (yieldsIf_load_mid (by rfl) 23 (.tmp 22) rfl wr.heap.size 0 rfl (x.pool.map vb) _ HSP.out Try.underlying23 rfl (by rw [HPL.out]; exact sizeID)) hS ?_
        simp only [Act.put, List.setIfInBounds_toArray, List.set_cons_zero, List.set_cons_succ, List.getElem_toArray, List.getElem_cons_succ, List.getElem_cons_zero]
        refine wpAnyH_two (k := 3) (l := 5) rfl rfl (by kernel_rfl) ?_ ?_
        · refine wpList_lookup_is rfl (.tmp 21) (.tmp 23) 77 rfl idEnc Try.underlying77 (zeroInt _) x.pool HXO.out rfl rfl HMD.out ?_
          rw [HN.out]
          refine wpList_nil ⟨hS, ?_⟩
          unfold intV
          simp only [Act.put, List.setIfInBounds_toArray, List.set_cons_zero, List.set_cons_succ, List.getElem_toArray, List.getElem_cons_succ, List.getElem_cons_zero]
          refine wpAnyH_take (i := 4) (v := .int .i64 ((z : Int) + 1)) rfl (by kernel_rfl) (by kernel_rfl) (by kernel_rfl) (fun _ _ _ h => h) (.inl ⟨by rfl, fun _ _ => ?_⟩) hS ?_
          · go_simp
            exact IntWalk.i64_in _ (by omega)
          simp only [Act.put, List.setIfInBounds_toArray, List.set_cons_zero, List.set_cons_succ, List.getElem_toArray, List.getElem_cons_succ, List.getElem_cons_zero]
          refine wpAnyH_one (k := 5) rfl (by kernel_rfl) ?_
          refine wpList_entryFor_is rfl (.tmp 21) (.tmp 23) 77 rfl idEnc Try.underlying77 (zeroInt _) x.pool HXO.out rfl rfl HMD.out ?_
          intro st w6 hm6 hk6 hst
          rw [HN.out] at hm6 ⊢
          have hS6 := HSK.out _ _ hS hk6
          have HM6 := Lib.hid hm6; have HST := Lib.hid hst
          clear hm6 hk6 hst hS
          refine wpList_nil ⟨hS6, ?_⟩
          unfold intV
          simp only [Act.put, List.setIfInBounds_toArray, List.set_cons_zero, List.set_cons_succ, List.getElem_toArray, List.getElem_cons_succ, List.getElem_cons_zero]
          refine wpAnyH_take (i := 6) (v := goInt st) rfl (by kernel_rfl) (by kernel_rfl) (by kernel_rfl) (fun _ _ _ h => h) (.inl ⟨by rfl, fun _ _ => ?_⟩) hS6 ?_
          · go_simp
          simp only [Act.put, List.setIfInBounds_toArray, List.set_cons_zero, List.set_cons_succ, List.getElem_toArray, List.getElem_cons_succ, List.getElem_cons_zero]
          refine wpAnyH_one (k := 7) rfl (by kernel_rfl) ?_
          refine wpList_entryStore_is rfl rfl (.tmp 21) (.tmp 27) (.tmp 25) 77 rfl idEnc x.pool HXO.out ((z : Int) + 1) rfl rfl rfl HM6.out HST.out ?_
          intro w7 hm7 hk7
          have hS7 := HSK.out _ _ hS6 hk7
          rw [upsert_upsert, ← HT.out] at hm7
          have HM7 := Lib.hid hm7
          clear hm7 hk7 hS6
          refine wpList_nil ⟨hS7, ?_⟩
          refine wpAnyH_done (by kernel_rfl) ?_ _
          go_wp2_with fail
          go_roundw
          case rel => exact ⟨k + 1, by omega, by go_num, HM7, Lib.hid (HSE.out _ hS7)⟩
          case measure => simp [intOf]; omega
        · refine wpList_entryFor_is rfl (.tmp 21) (.tmp 23) 77 rfl idEnc Try.underlying77 (zeroInt _) x.pool HXO.out rfl rfl HMD.out ?_
          intro st w6 hm6 hk6 hst
          rw [HN.out] at hm6 ⊢
          have hS6 := HSK.out _ _ hS hk6
          have HM6 := Lib.hid hm6; have HST := Lib.hid hst
          clear hm6 hk6 hst hS
          refine wpList_nil ⟨hS6, ?_⟩
          unfold intV
          simp only [Act.put, List.setIfInBounds_toArray, List.set_cons_zero, List.set_cons_succ, List.getElem_toArray, List.getElem_cons_succ, List.getElem_cons_zero]
          refine wpAnyH_take (i := 6) (v := goInt st) rfl (by kernel_rfl) (by kernel_rfl) (by kernel_rfl) (fun _ _ _ h => h) (.inl ⟨by rfl, fun _ _ => ?_⟩) hS6 ?_
          · go_simp
          simp only [Act.put, List.setIfInBounds_toArray, List.set_cons_zero, List.set_cons_succ, List.getElem_toArray, List.getElem_cons_succ, List.getElem_cons_zero]
          refine wpAnyH_one (k := 3) rfl (by kernel_rfl) ?_
          refine wpList_lookup_is rfl (.tmp 21) (.tmp 23) 77 rfl idEnc Try.underlying77 (zeroInt _) x.pool HXO.out rfl rfl HM6.out ?_
          rw [look_upsert, if_pos rfl, Option.getD_some]
          refine wpList_nil ⟨hS6, ?_⟩
          unfold intV
          simp only [Act.put, List.setIfInBounds_toArray, List.set_cons_zero, List.set_cons_succ, List.getElem_toArray, List.getElem_cons_succ, List.getElem_cons_zero]
          refine wpAnyH_take (i := 4) (v := .int .i64 ((z : Int) + 1)) rfl (by kernel_rfl) (by kernel_rfl) (by kernel_rfl) (fun _ _ _ h => h) (.inl ⟨by rfl, fun _ _ => ?_⟩) hS6 ?_
          · go_simp
            exact IntWalk.i64_in _ (by omega)
          simp only [Act.put, List.setIfInBounds_toArray, List.set_cons_zero, List.set_cons_succ, List.getElem_toArray, List.getElem_cons_succ, List.getElem_cons_zero]
          refine wpAnyH_one (k := 7) rfl (by kernel_rfl) ?_
          refine wpList_entryStore_is rfl rfl (.tmp 21) (.tmp 27) (.tmp 25) 77 rfl idEnc x.pool HXO.out ((z : Int) + 1) rfl rfl rfl HM6.out HST.out ?_
          intro w7 hm7 hk7
          have hS7 := HSK.out _ _ hS6 hk7
          rw [upsert_upsert, ← HT.out] at hm7
          have HM7 := Lib.hid hm7
          clear hm7 hk7 hS6
          refine wpList_nil ⟨hS7, ?_⟩
          refine wpAnyH_done (by kernel_rfl) ?_ _
          go_wp2_with fail
          go_roundw
          case rel => exact ⟨k + 1, by omega, by go_num, HM7, Lib.hid (HSE.out _ hS7)⟩
          case measure => simp [intOf]; omega
    · obtain rfl : k = l.length := by omega
      obtain ⟨wo, rfl⟩ : ∃ wo : World, wo = wr := ⟨_, rfl⟩
      have hm := HM.out
      rw [List.take_length] at hm
      have HMM := Lib.hid hm
      have hkw : Keep (fun j => j = w.heap.size + 1) w wo := HK2.out.trans' HK.out (fun _ _ h => h.elim) (fun _ _ h => h)
      have HKW := Lib.hid hkw
      have hrb : wo.heap[w.heap.size]? = some (.cells (Array.replicate 32 (.int .u8 0)) 23 (0, 0)) := HK.out.blk HR0.out (fun e => by omega)
      have HRB := Lib.hid hrb
      have hwr := HK.out.size
      clear hm hkw hrb HM HK HM2
      obtain ⟨w4, hw4⟩ : ∃ w4, wo.alloc (.cells (Array.replicate 32 (.int .u8 0)) 23) = w4 := ⟨_, rfl⟩
      have hk4 : Keep noBlk wo w4 := by rw [← hw4]; exact (Keep.refl _ _).alloc _
      have hs4 : w4.heap.size = wo.heap.size + 1 := by rw [← hw4, World.size_alloc]
      have hb4 : w4.heap[wo.heap.size]? = some (.cells (zeros.map vb).toArray 23 (0, 0)) := by rw [← hw4]; exact heap_alloc_new _ _
      have HB4 := Lib.hid hb4; have HK4 := Lib.hid hk4
      clear hb4 hk4
      go_wp2_with (first
        | ((with_reducible show wpList _ _ _ (⟨some 7, .alloc 23, _, _, _, _⟩ :: _) _ _); refine wpList_alloc_at rfl 23 rfl zero32 zeroID (Array.replicate 32 (.int .u8 0)) rfl ?_; rw [hw4]; clear hw4))
      refine (keysID_call _ _).mono ?_
      rintro e w5 ⟨rfl, hw5⟩
      have hs5 : w5.heap.size = wo.heap.size + 2 := by rw [hw5, World.size_alloc, hs4]
      have hk5 : Keep noBlk w4 w5 := by rw [hw5]; exact (Keep.refl _ _).alloc _
      have hbx : w5.heap[w4.heap.size]? = some (.cells #[.map (some (w.heap.size + 1))] 77 (0, 0)) := by rw [hw5]; exact heap_alloc_new _ _
      have hm5 : MapIs IdOk idV intV w5 (w.heap.size + 1) (tally l) := HMM.out.keep (HK4.out.trans hk5) id
      rw [hs4] at hbx
      have C := Lib.hid (sortedID w5 (tally l) (wo.heap.size + 1) (w.heap.size + 1) hbx hm5 (Nat.le_trans (tally_len l) hl))
      have HK5 := Lib.hid hk5; have HM5 := Lib.hid hm5
      clear hw5 hk5 hbx hm5
      go_wp2_with fail
      refine C.out.mono ?_
      rintro e w6 ⟨kv, rfl, ho6, hk6⟩
      have hkl : (poolKeys l).length = (tally l).length := by unfold poolKeys sortL; simp
      have hnl : (tally l).length ≤ 65536 := Nat.le_trans (tally_len l) hl
      have e1 : ((tally l).map (·.1)).length = (tally l).length := List.length_map _
      rw [e1] at ho6
      have e2 : sortL ((tally l).map (·.1)) = poolKeys l := rfl
      rw [e2, ← hkl] at ho6
      have hrd := Rd.of_owns ho6
      obtain ⟨ka, kc, rfl, -, -⟩ := hrd.form
      have hk46 : Keep noBlk wo w6 := (HK4.out.trans HK5.out).trans hk6
      have HRD := Lib.hid hrd
      have HM6 := Lib.hid (HM5.out.keep hk6 id)
      have HB6 := Lib.hid ((HK5.out.trans hk6).blk HB4.out id)
      have HRB6 := Lib.hid (hk46.blk HRB.out id)
      have HKW6 := Lib.hid (HKW.out.trans' hk46 (fun _ _ h => h) (fun _ _ h => h.elim))
      have hs6 := hk46.size
      have hob : ∀ b, (Value.slice ka (poolKeys l).length kc).ownBlock = some b → wo.heap.size + 2 ≤ b := fun b hb => by
        have := owns_base ho6 hb
        omega
      have HOB := Lib.hid hob
      clear ho6 hk6 hk46 hrd C HK5 HM5 hob e1 e2
      rw [← hkl] at hnl
      clear hkl
      have hml : (poolKeys l).length ≤ 65536 := hnl
      go_wp2_with fail
      go_loopw [8, 33] (fun t i wr => ∃ j m : Nat, j ≤ (poolKeys l).length ∧ i = .int .i64 j ∧ t = .int .i64 m ∧ m = (PoolR l j).2 ∧ m ≤ 65536 ∧ Hid (wr.heap[wo.heap.size]? = some (.cells ((PoolR l j).1.map vb).toArray 23 (0, 0))) ∧ Hid (Keep (fun b => b = wo.heap.size) w6 wr)) (fun _ i _ => (poolKeys l).length - (intOf i).toNat)
      case atStart => exact ⟨0, 0, Nat.zero_le _, rfl, rfl, rfl, Nat.zero_le _, HB6, Lib.hid (Keep.refl _ _)⟩
      case round =>
        obtain ⟨j, m, hj, rfl, rfl, hm, hm6, HB, HKQ⟩ := hrel
        have HMQ := Lib.hid hm
        clear hm
        have hwq := HKQ.out.size
        have hwo6 := lt_of_block HB6.out
        by_cases hlt2 : j < (poolKeys l).length
        · obtain ⟨p, hp⟩ : ∃ p, (poolKeys l)[j]? = some p := ⟨(poolKeys l)[j], by simp [hlt2]⟩
          have hpo : p.length = 32 := poolKeys_ok ho (List.mem_of_getElem? hp)
          have hrq := HRD.out.keep HKQ.out (fun b hb e => by have := HOB.out b hb; omega)
          obtain ⟨g, o, cap, hv, hcells⟩ := rd_id (fun y hy => poolKeys_ok ho hy) hrq hp
          cases hv
          have hpl : (p.map vb).length = 32 := by rw [List.length_map]; exact hpo
          have hmq : MapIs IdOk idV intV wr (w.heap.size + 1) (tally l) := HM6.out.keep HKQ.out (by omega)
          have hcnt : cntP l p ≤ 65536 := Nat.le_trans (List.length_filter_le _ _) hl
          have HP := Lib.hid hp; have HPO := Lib.hid hpo; have HC := Lib.hid hcells; have HPL := Lib.hid hpl; have HMAP := Lib.hid hmq
          have HTG := Lib.hid (tally_getD l p)
          have HSZ : Hid ((Try.prog.info? 23).map (·.size) = some (p.map vb).length) := Lib.hid (by rw [hpl]; exact sizeID)
          have HSU := Lib.hid (poolR_succ l hp)
          clear hp hpo hrq hcells hpl hmq
          generalize hz : cntP l p = z at *
          have HZ := Lib.hid hz
          clear hz
          go_wp2_with (first
            | ((with_reducible show wpList _ _ _ (⟨some 36, .load 23 (.tmp 35), _, _, _, _⟩ :: _) _ _); refine wpList_load_mid rfl 23 (.tmp 35) rfl g (o + j * 32) rfl (p.map vb) _ HC.out Try.underlying23 rfl HSZ.out ?_)
            | ((with_reducible show wpList _ _ _ (⟨some 10, .alloc 23, _, _, _, _⟩ :: _) _ _); refine wpList_alloc_at rfl 23 rfl zero32 zeroID (Array.replicate 32 (.int .u8 0)) rfl ?_)
            | ((with_reducible show wpList _ _ _ (⟨none, .store 23 (.tmp 10) (.tmp 36), _, _, _, _⟩ :: _) _ _); refine wpList_store_agg rfl 23 (.tmp 10) (.tmp 36) rfl wr.heap.size 0 (p.map vb) rfl rfl (Array.replicate 32 (.int .u8 0)) 23 (heap_alloc_new _ _) (by rw [HPL.out, Array.size_replicate]; exact Nat.le_refl _) HSZ.out (oneCell_vb _) ?_
               intro w7 hb7 hk7
               rw [spl_whole _ _ (by rw [HPL.out, Array.size_replicate])] at hb7
               have hkq : Keep noBlk wr w7 := ((Keep.refl noBlk wr).alloc _).trans' hk7 (fun _ _ h => h) (fun i hi e => by omega)
               have HB7 := Lib.hid hb7; have HKR := Lib.hid hkq
               have HM7 := Lib.hid (HMAP.out.keep hkq id)
               have hs7 := hkq.size
               clear hb7 hk7 hkq)
            | ((with_reducible show wpList _ _ _ (⟨some 38, .load 23 (.tmp 10), _, _, _, _⟩ :: _) _ _); refine wpList_load_mid rfl 23 (.tmp 10) rfl wr.heap.size 0 rfl (p.map vb) _ (rangeAt_whole HB7.out) Try.underlying23 rfl HSZ.out ?_)
            | ((with_reducible show wpList _ _ _ (⟨some 39, .lookup _ _ _ _, _, _, _, _⟩ :: _) _ _); refine wpList_lookup_is rfl (.tmp 37) (.tmp 38) 77 rfl idEnc Try.underlying77 (zeroInt _) p HPO.out rfl rfl HM7.out ?_; rw [HTG.out]; unfold intV))
          · have hmz : m < z := by omega
            have hnew : PoolR l (j + 1) = (p, z) := by rw [HSU.out]; unfold stepA; rw [← HMQ.out, HZ.out, if_pos hmz]
            have HNEW := Lib.hid hnew
            clear hnew
            obtain ⟨S, hS0⟩ : ∃ S : World → Prop, S = fun w' => w'.heap[wr.heap.size]? = some (.cells (p.map vb).toArray 23 (0, 0)) ∧ MapIs IdOk idV intV w' (w.heap.size + 1) (tally l) ∧ Keep (fun b => b = wo.heap.size) w7 w' := ⟨_, rfl⟩
            have hS : S w7.drew := by rw [hS0]; exact ⟨(Keep.refl noBlk w7).drew.blk HB7.out id, HM7.out.keep (Keep.refl noBlk w7).drew id, (Keep.refl _ _).drew⟩
            have hSp : ∀ w', S w' → w'.rangeAt wr.heap.size 0 (p.map vb) := fun w' h => by rw [hS0] at h; exact rangeAt_whole h.1
            have hSm : ∀ w', S w' → (Instr.lookup 77 (.map (some (w.heap.size + 1))) (.agg (p.map vb).toArray) false).run Try.prog w' = .ok (.int .i64 z) w' := fun w' h => by
              rw [hS0] at h
              have := h.2.1.lookup idEnc Try.underlying77 (zeroInt w') p HPO.out false
              rw [HTG.out] at this
              exact this
            have hSk : ∀ w' w'', S w' → Keep (fun b => b = wo.heap.size) w' w'' → S w'' := fun w' w'' h hk => by
              rw [hS0] at h ⊢
              exact ⟨hk.blk h.1 (by omega), h.2.1.keep hk (by omega), h.2.2.trans hk⟩
            have hSb : ∀ w', S w' → w'.heap[wo.heap.size]? = some (.cells ((PoolR l j).1.map vb).toArray 23 (0, 0)) ∨ True := fun _ _ => .inr trivial
            have hb7 : w7.drew.heap[wo.heap.size]? = some (.cells ((PoolR l j).1.map vb).toArray 23 (0, 0)) := (HKR.out.drew).blk HB.out id
            have hSe : ∀ w', S w' → Keep (fun b => b = wo.heap.size) w6 w' := fun w' h => by rw [hS0] at h; exact (HKQ.out.trans' HKR.out (fun _ _ h => h) (fun _ _ h => h.elim)).trans h.2.2
            have HSP := Lib.hid hSp; have HSM := Lib.hid hSm; have HSK := Lib.hid hSk; have HSE := Lib.hid hSe; have HBD := Lib.hid hb7
            have hbl : ((PoolR l j).1.map vb).length = 32 := by rw [List.length_map]; exact poolR_ok ho j
            have HBL := Lib.hid hbl
            clear hS0 hSp hSm hSk hSe hSb hb7 hbl
            refine wp_region_held (S := S) (by kernel_rfl) ?_
            change wpAnyH _ _ _ _ _ _ _ _ w7.drew
            generalize w7.drew = w8 at *
            refine wpAnyH_take (i := 0) (v := .agg (p.map vb).toArray) rfl (by kernel_rfl) (by kernel_rfl) (by kernel_rfl) (fun _ _ _ h => h) (yieldsIf_load_mid (by rfl) 23 (.tmp 10) rfl wr.heap.size 0 rfl (p.map vb) _ HSP.out Try.underlying23 rfl HSZ.out) hS ?_
            simp only [Act.put, List.setIfInBounds_toArray, List.set_cons_zero, List.set_cons_succ, List.getElem_toArray, List.getElem_cons_zero]
            refine wpAnyH_take (i := 1) (v := .map (some (w.heap.size + 1))) rfl (by kernel_rfl) (by kernel_rfl) (by kernel_rfl) (fun _ _ _ h => h) (.inl ⟨by rfl, fun _ _ => rfl⟩) hS ?_
            simp only [Act.put, List.setIfInBounds_toArray, List.set_cons_zero, List.set_cons_succ, List.getElem_toArray, List.getElem_cons_succ, List.getElem_cons_zero]
            refine wpAnyH_take (i := 2) (v := .agg (p.map vb).toArray) rfl (by kernel_rfl) (by kernel_rfl) (by kernel_rfl) (fun _ _ _ h => h) (yieldsIf_load_mid (by rfl) 23 (.tmp 10) rfl wr.heap.size 0 rfl (p.map vb) _ HSP.out Try.underlying23 rfl HSZ.out) hS ?_
            simp only [Act.put, List.setIfInBounds_toArray, List.set_cons_zero, List.set_cons_succ, List.getElem_toArray, List.getElem_cons_succ, List.getElem_cons_zero]
            refine wpAnyH_take (i := 3) (v := .int .i64 z) rfl (by kernel_rfl) (by kernel_rfl) (by kernel_rfl) (fun _ _ _ h => h) (yieldsIf_lookup (by rfl) (.tmp 43) (.tmp 44) 77 rfl HSM.out) hS ?_
            simp only [Act.put, List.setIfInBounds_toArray, List.set_cons_zero, List.set_cons_succ, List.getElem_toArray, List.getElem_cons_succ, List.getElem_cons_zero]
            refine wpAnyH_one (k := 4) rfl (by kernel_rfl) ?_
            refine wpList_store_agg rfl 23 (.tmp 7) (.tmp 42) rfl wo.heap.size 0 (p.map vb) rfl rfl _ 23 HBD.out (by rw [HPL.out, List.size_toArray, HBL.out]; exact Nat.le_refl _) HSZ.out (oneCell_vb _) ?_
            intro w9 hb9 hk9
            rw [spl_whole _ _ (by rw [HPL.out, List.size_toArray, HBL.out])] at hb9
            have hS9 := HSK.out _ _ hS hk9
            have HB9 := Lib.hid hb9
            clear hb9 hk9 hS
            refine wpList_nil ⟨hS9, ?_⟩
            simp only [Act.put, List.getElem_toArray, List.getElem_cons_succ, List.getElem_cons_zero]
            refine wpAnyH_take (i := 5) (v := .int .i64 z) rfl (by kernel_rfl) (by kernel_rfl) (by kernel_rfl) (fun _ _ _ h => h) (.inl ⟨by rfl, fun _ _ => rfl⟩) hS9 ?_
            simp only [Act.put, List.setIfInBounds_toArray, List.set_cons_zero, List.set_cons_succ, List.getElem_toArray, List.getElem_cons_succ, List.getElem_cons_zero]
            refine wpAnyH_done (by kernel_rfl) ?_ _
            go_wp2_with fail
            go_roundw
            case rel => exact ⟨j + 1, z, by omega, by go_num, rfl, by rw [HNEW.out], hcnt, by rw [HNEW.out]; exact HB9, Lib.hid (HSE.out _ hS9)⟩
            case measure => simp [intOf]; omega
          · have hmz : ¬ m < z := by omega
            have hnew : PoolR l (j + 1) = PoolR l j := by rw [HSU.out]; unfold stepA; rw [← HMQ.out, HZ.out, if_neg hmz]
            refine ⟨⟨j + 1, m, by omega, by go_num, rfl, by rw [hnew]; exact HMQ.out, hm6, Lib.hid (by rw [hnew]; exact HKR.out.blk HB.out id), Lib.hid (HKQ.out.trans' HKR.out (fun _ _ h => h) (fun _ _ h => h.elim))⟩, by simp [intOf]; omega⟩
        · obtain rfl : j = (poolKeys l).length := by omega
          have hfin : PoolR l (poolKeys l).length = poolA l := by unfold PoolR poolA; rw [List.take_length]
          have hb := HB.out
          rw [hfin] at hb
          have hm2 := HMQ.out
          rw [hfin] at hm2
          have hbl : ((poolA l).1.map vb).length = 32 := by rw [List.length_map, ← hfin]; exact poolR_ok ho _
          have HBF := Lib.hid hb; have HM2F := Lib.hid hm2; have HBL := Lib.hid hbl
          have HSZ : Hid ((Try.prog.info? 23).map (·.size) = some ((poolA l).1.map vb).length) := Lib.hid (by rw [hbl]; exact sizeID)
          have HRBW := Lib.hid (HKQ.out.blk HRB6.out (by omega))
          clear hb hm2 hbl hfin
          go_wp2_with (first
            | ((with_reducible show wpList _ _ _ (⟨some 47, .load 23 (.tmp 7), _, _, _, _⟩ :: _) _ _); refine wpList_load_mid rfl 23 (.tmp 7) rfl wo.heap.size 0 rfl ((poolA l).1.map vb) _ (rangeAt_whole HBF.out) Try.underlying23 rfl HSZ.out ?_)
            | ((with_reducible show wpList _ _ _ (⟨none, .store 23 (.tmp 2) (.tmp 47), _, _, _, _⟩ :: _) _ _); refine wpList_store_agg rfl 23 (.tmp 2) (.tmp 47) rfl w.heap.size 0 ((poolA l).1.map vb) rfl rfl (Array.replicate 32 (.int .u8 0)) 23 HRBW.out (by rw [HBL.out, Array.size_replicate]; exact Nat.le_refl _) HSZ.out (oneCell_vb _) ?_
               intro w7 hb7 hk7
               rw [spl_whole _ _ (by rw [HBL.out, Array.size_replicate])] at hb7
               have HB7 := Lib.hid hb7; have HK7 := Lib.hid hk7
               clear hb7 hk7))
          refine bodyPost_ret (results_cell_row_tmp rfl _ _ w.heap.size _ _ _ _ rfl HB7.out Try.underlying23 rfl (by rw [List.size_toArray]; exact HSZ.out)) rfl ⟨?_, ?_⟩
          · rw [← HM2F.out]; rfl
          · exact (HKW6.out.trans' HKQ.out (U := fun b => w.heap.size ≤ b) (fun i _ h => by omega) (fun i _ h => by omega)).trans' HK7.out (U := noBlk) (fun i hi h => by omega) (fun i hi h => by omega)
end Go.Proofs.Ytdlegbcdmlmbpaa
