/-
  The document's Less and Pool: the pools of labels gone through one by one.
  Conditions: IDs of 32 bytes; at most 65,536 labels.
-/
import Derived.Test.YtdlegbcdmlmbpaaPool1
namespace Go.Proofs.Ytdlegbcdmlmbpaa
open Go.RowKit
set_option maxRecDepth 100000
set_option linter.unusedVariables false

theorem cmp_prefix : ∀ (p a b : List UInt8), Lib.compareBytes (p ++ a) (p ++ b) = Lib.compareBytes a b
  | [], _, _ => rfl
  | x :: p, a, b => by
    rw [List.cons_append, List.cons_append]
    have e : Lib.compareBytes (x :: (p ++ a)) (x :: (p ++ b)) = if x < x then -1 else if x < x then 1 else Lib.compareBytes (p ++ a) (p ++ b) := rfl
    rw [e, if_neg (UInt8.lt_irrefl x), if_neg (UInt8.lt_irrefl x)]
    exact cmp_prefix p a b
theorem idLt_at {a b : List UInt8} {k : Nat} (h : a.take k = b.take k) {x y : UInt8} (hx : a[k]? = some x) (hy : b[k]? = some y) (hne : x ≠ y) : idLt a b = decide (x < y) := by
  have ea : a = a.take k ++ x :: a.drop (k + 1) := by
    have := (List.take_append_drop k a).symm
    rw [List.drop_eq_getElem_cons (List.getElem?_eq_some_iff.1 hx).1, (List.getElem?_eq_some_iff.1 hx).2] at this
    exact this
  have eb : b = a.take k ++ y :: b.drop (k + 1) := by
    have := (List.take_append_drop k b).symm
    rw [List.drop_eq_getElem_cons (List.getElem?_eq_some_iff.1 hy).1, (List.getElem?_eq_some_iff.1 hy).2, ← h] at this
    exact this
  have e : Lib.compareBytes a b = if x < y then -1 else if y < x then 1 else Lib.compareBytes (a.drop (k + 1)) (b.drop (k + 1)) := by
    have := cmp_prefix (a.take k) (x :: a.drop (k + 1)) (y :: b.drop (k + 1))
    rw [← ea, ← eb] at this
    exact this
  unfold idLt
  rw [e]
  by_cases hlt : x < y
  · rw [if_pos hlt, decide_eq_true hlt]; rfl
  · rw [if_neg hlt, if_pos (UInt8.lt_of_le_of_ne (UInt8.not_lt.1 hlt) (Ne.symm hne)), decide_eq_false hlt]; rfl

set_option maxHeartbeats 1000000 in
theorem rless_any (a b : List UInt8) (ha : a.length = 32) (hb : b.length = 32) (w : World) : Calls Try.prog 62 #[.agg (a.map vb).toArray, .agg (b.map vb).toArray] w (TherePost w (idLt a b)) := by
  obtain ⟨w1, hw1, hk1, hb1, hs1⟩ := alloc_facts w (a.map vb).toArray 23
  obtain ⟨w2, hw2, hk2, hb2, hs2⟩ := alloc_facts w1 (b.map vb).toArray 23
  rw [hs1] at hb2
  have HB1 := Lib.hid (hk2.blk hb1 id); have HB2 := Lib.hid hb2; have HK := Lib.hid (hk1.trans hk2)
  have HA := Lib.hid ha; have HBL := Lib.hid hb
  obtain ⟨av, hav⟩ : ∃ av, (a.map vb).toArray = av := ⟨_, rfl⟩
  obtain ⟨bv, hbv⟩ : ∃ bv, (b.map vb).toArray = bv := ⟨_, rfl⟩
  rw [hav, hbv]
  rw [hav] at hw1 HB1; rw [hbv] at hw2 HB2
  have HAV := Lib.hid hav; have HBV := Lib.hid hbv
  clear hk1 hb1 hk2 hb2 ha hb hav hbv
  go_enter Try.func62, Try.ntmps62
  go_wp2_with fail
  clear hw1 hw2
  go_loopw [5] (fun i wr => ∃ k : Nat, k ≤ 32 ∧ i = .int .i64 k ∧ Hid (a.take k = b.take k) ∧ Hid (Keep noBlk w2 wr)) (fun i _ => 32 - (intOf i).toNat)
  case atStart => exact ⟨0, by omega, rfl, Lib.hid rfl, Lib.hid (Keep.refl _ _)⟩
  case round =>
    obtain ⟨k, hk, rfl, HT, HKR⟩ := hrel
    by_cases hlt : k < 32
    · obtain ⟨x, hx⟩ : ∃ x, a[k]? = some x := ⟨a[k]'(by rw [HA.out]; exact hlt), List.getElem?_eq_getElem _⟩
      obtain ⟨y, hy⟩ : ∃ y, b[k]? = some y := ⟨b[k]'(by rw [HBL.out]; exact hlt), List.getElem?_eq_getElem _⟩
      have hcx : wr.cell? ⟨w.heap.size, k, none⟩ = some (.int .u8 (x.toNat : Int)) := blk_cell (HKR.out.blk HB1.out id) (by rw [← HAV.out, List.getElem?_toArray, List.getElem?_map, hx]; rfl)
      have hcy : wr.cell? ⟨w.heap.size + 1, k, none⟩ = some (.int .u8 (y.toNat : Int)) := blk_cell (HKR.out.blk HB2.out id) (by rw [← HBV.out, List.getElem?_toArray, List.getElem?_map, hy]; rfl)
      have hk0 : (0 : Int) ≤ (k : Int) := by omega
      have hk1 : (k : Int) < 32 := by omega
      have HX := Lib.hid hx; have HY := Lib.hid hy
      clear hx hy
      by_cases hxy : x = y
      · have hT' : a.take (k + 1) = b.take (k + 1) := by
          rw [List.take_add_one, List.take_add_one, HT.out, HX.out, HY.out, hxy]
        have HT' := Lib.hid hT'
        have hne : (((x.toNat : Int)) != ((y.toNat : Int))) = false := by rw [hxy]; simp
        generalize (x.toNat : Int) = X at *
        generalize (y.toNat : Int) = Y at *
        clear hT' hxy
        go_wp2_with fail
        go_quiet (fail)
        go_wp2_with fail
        go_roundw
        case rel => exact ⟨k + 1, by omega, by go_num, HT', Lib.hid (HKR.out.drewN _)⟩
        case measure => simp [intOf]; omega
      · have hne : (((x.toNat : Int)) != ((y.toNat : Int))) = true := by
          rw [bne_iff_ne]
          intro e
          exact hxy (UInt8.toNat_inj.1 (by omega))
        have hres : idLt a b = decide ((x.toNat : Int) < (y.toNat : Int)) := by
          rw [idLt_at HT.out HX.out HY.out hxy]
          congr 1
          rw [UInt8.lt_iff_toNat_lt]
          exact propext ⟨fun h => by omega, fun h => by omega⟩
        have HRES := Lib.hid hres
        generalize (x.toNat : Int) = X at *
        generalize (y.toNat : Int) = Y at *
        clear hres hxy
        go_wp2_with fail
        go_quiet (fail)
        obtain ⟨wq, hcx2, hcy2, hkq, hwq⟩ : ∃ wq : World, wq.cell? ⟨w.heap.size, k, none⟩ = some (.int .u8 X) ∧ wq.cell? ⟨w.heap.size + 1, k, none⟩ = some (.int .u8 Y) ∧ Keep noBlk w2 wq ∧ wr.drewN nq = wq := ⟨wr.drewN nq, hcx, hcy, HKR.out.drewN _, rfl⟩
        have HKQ := Lib.hid hkq
        go_wp2_with fail
        rw [hwq]
        clear hwq hcx hcy hkq
        go_quiet (fail)
        go_wp2_with fail
        go_ret
        exact ⟨by rw [HRES.out]; rfl, (HK.out.trans HKQ.out).drewN _⟩
    · obtain rfl : k = 32 := by omega
      have hab : a = b := by
        have := HT.out
        rw [List.take_of_length_le (by rw [HA.out]; exact Nat.le_refl _), List.take_of_length_le (by rw [HBL.out]; exact Nat.le_refl _)] at this
        exact this
      have hres : idLt a b = false := by rw [hab]; exact idLt_irrefl b
      have HRES := Lib.hid hres
      clear hres hab
      go_wp2_with fail
      go_ret
      exact ⟨by rw [HRES.out]; rfl, HK.out.trans HKR.out⟩
end Go.Proofs.Ytdlegbcdmlmbpaa

/-
  The document's Pool.
  Conditions: at most 65,536 labels.
-/
namespace Go.Proofs.Ytdlegbcdmlmbpaa
open Go.RowKit
set_option maxRecDepth 100000
set_option linter.unusedVariables false

/-- The state behind j labels. -/
def PoolQ (l : List Lab) (j : Nat) : List UInt8 × Nat := ((l.map (·.pool)).take j).foldl (stepB l) (zeros, 0)
theorem poolQ_succ (l : List Lab) {j : Nat} {y : Lab} (h : l[j]? = some y) : PoolQ l (j + 1) = stepB l (PoolQ l j) y.pool := by
  unfold PoolQ
  have hlt := (List.getElem?_eq_some_iff.1 h).1
  rw [List.take_succ_eq_append_getElem (by simpa using hlt), List.foldl_append]
  rw [List.getElem?_eq_getElem hlt] at h
  cases h
  simp
theorem poolQ_all (l : List Lab) : PoolQ l l.length = poolB l := by
  unfold PoolQ poolB
  rw [List.take_of_length_le (by simp)]
theorem stepB_le {l : List Lab} {s : List UInt8 × Nat} {p : List UInt8} (h : s.2 ≤ l.length) : (stepB l s p).2 ≤ l.length := by
  unfold stepB
  split
  · exact List.length_filter_le _ _
  · exact h
theorem poolQ_inv {l : List Lab} (ho : LabsOk l) : ∀ j, j ≤ l.length → (PoolQ l j).2 ≤ l.length ∧ (PoolQ l j).1.length = 32
  | 0, _ => ⟨by simp [PoolQ], by simp [PoolQ, zeros]⟩
  | j + 1, h => by
    have ih := poolQ_inv ho j (by omega)
    have hj : l[j]? = some (l[j]'(by omega)) := List.getElem?_eq_getElem _
    rw [poolQ_succ l hj]
    refine ⟨stepB_le ih.1, ?_⟩
    unfold stepB
    split
    · exact ho _ (List.getElem_mem _)
    · exact ih.2
theorem rcheck_keep (L : Lab) (hl : L.pool.length = 32) {n : Int} (hn : (if L.may then 0 else 2) = n) (w : World) : Calls Try.prog 14 #[.agg L.cells.toArray] w (fun e w' => e = .returned (.int .i64 n) ∧ Keep noBlk w w') := by
  subst hn
  exact (rcheck_any L hl w).mono fun e w' ⟨h1, h2⟩ => ⟨h1, by rw [← h2]; exact (Keep.refl _ _).alloc _⟩
theorem rangeAt_pool {w : World} {g o : Nat} {x : Lab} (hx : x.pool.length = 32) (h : w.rangeAt g o x.cells) : w.rangeAt g o (x.pool.map vb) := fun j u hj => by
  have hj32 : j < 32 := by have := (List.getElem?_eq_some_iff.1 hj).1; rwa [List.length_map, hx] at this
  exact h j u (by rw [x.cells_pool hx j hj32]; exact hj)
theorem rdLab_range {w : World} {g o cap : Nat} {l : List Lab} (ho : LabsOk l) (h : Rd w 37 (.slice (some ⟨g, o, none⟩) l.length cap) l.length (labCells l)) {k : Nat} {x : Lab} (hk : l[k]? = some x) : w.rangeAt g (o + k * 37) x.cells := by
  obtain ⟨g', o', cap', hv, hc⟩ := rd_lab ho h hk
  cases hv
  exact hc

def RPoolPost (w : World) (l : List Lab) (e : Ending) (w' : World) : Prop :=
  e = .returned (.tuple #[.agg ((poolB l).1.map vb).toArray, .bool (decide (0 < (poolB l).2))]) ∧ Keep noBlk w w'

set_option maxHeartbeats 8000000 in
theorem rpool_some (w : World) (g o cap : Nat) (l : List Lab) (ho : LabsOk l) (hr : Rd w 37 (.slice (some ⟨g, o, none⟩) l.length cap) l.length (labCells l)) (hl : l.length ≤ 65536) (hne : 0 < l.length) : Calls Try.prog 24 #[.slice (some ⟨g, o, none⟩) l.length cap] w (RPoolPost w l) := by
  have HR := Lib.hid hr
  have hg : g < w.heap.size := by
    obtain ⟨b, hb, hlt⟩ := hr.lt (by rw [labCells_len ho]; omega)
    cases hb; exact hlt
  clear hr
  obtain ⟨w1, hw1, hk1, hb1, hs1⟩ := alloc_facts w (Array.replicate 32 (.int .u8 0)) 23
  obtain ⟨w2, hw2, hk2, hb2, hs2⟩ := alloc_facts w1 (Array.replicate 32 (.int .u8 0)) 23
  rw [hs1] at hb2
  have hb2' : w2.heap[w.heap.size + 1]? = some (.cells (zeros.map vb).toArray 23 (0, 0)) := hb2
  have HB1 := Lib.hid (hk2.blk hb1 id); have HB2 := Lib.hid hb2'; have HK := Lib.hid (hk1.trans hk2)
  have hs2' : w2.heap.size = w.heap.size + 2 := by omega
  clear hk1 hb1 hk2 hb2 hb2'
  go_enter Try.func24, Try.ntmps24
  go_wp2_with (first
    | ((with_reducible show wpList _ _ _ (⟨some 2, .alloc 23, _, _, _, _⟩ :: _) _ _); refine wpList_alloc_at rfl 23 rfl zero32 zeroID (Array.replicate 32 (.int .u8 0)) rfl ?_; rw [hw1])
    | ((with_reducible show wpList _ _ _ (⟨some 4, .alloc 23, _, _, _, _⟩ :: _) _ _); refine wpList_alloc_at rfl 23 rfl zero32 zeroID (Array.replicate 32 (.int .u8 0)) rfl ?_; rw [hw2, hs1]))
  clear hw1 hw2 hs1 hs2
  go_loopw [5, 6] (fun t i wr => ∃ j m : Nat, j ≤ l.length ∧ i = .int .i64 j ∧ t = .int .i64 m ∧ m ≤ 65536 ∧ Hid (m = (PoolQ l j).2) ∧ Hid (wr.heap[w.heap.size + 1]? = some (.cells ((PoolQ l j).1.map vb).toArray 23 (0, 0))) ∧ Hid (Keep (fun b => b = w.heap.size + 1) w2 wr)) (fun _ i _ => l.length - (intOf i).toNat)
  case atStart => exact ⟨0, 0, Nat.zero_le _, rfl, rfl, Nat.zero_le _, Lib.hid rfl, HB2, Lib.hid (Keep.refl _ _)⟩
  case round =>
    obtain ⟨k1, m, hk1, rfl, rfl, hm, HM, HB, HKR⟩ := hrel
    obtain ⟨wo, rfl⟩ : ∃ wo : World, wo = wr := ⟨_, rfl⟩
    have hwo := HKR.out.size
    by_cases hlt : k1 < l.length
    · obtain ⟨y, hy⟩ : ∃ y, l[k1]? = some y := ⟨l[k1], by simp [hlt]⟩
      have hyo : y.pool.length = 32 := ho y (List.mem_of_getElem? hy)
      have hrw := HR.out.keep (HK.out.trans' HKR.out (U := fun b => b = w.heap.size + 1) (fun _ _ h => h.elim) (fun _ _ h => h)) (fun b hb e => by cases hb; have e' : g = w.heap.size + 1 := e; omega)
      have HRW := Lib.hid hrw
      have HY := Lib.hid hy; have HYO := Lib.hid hyo
      have HSZY : Hid ((Try.prog.info? 23).map (·.size) = some (y.pool.map vb).length) := Lib.hid (by rw [List.length_map, hyo]; exact sizeID)
      have hinv := poolQ_inv ho k1 hk1
      have HINV := Lib.hid hinv
      clear hrw hy hyo hinv
      go_wp2_with fail
      go_loopw [7, 8] (fun t i wr => ∃ k n : Nat, k ≤ l.length ∧ i = .int .i64 k ∧ t = .int .i64 n ∧ n ≤ 65536 ∧ Hid (n = cntP (l.take k) y.pool) ∧ Hid (Keep noBlk wo wr)) (fun _ i _ => l.length - (intOf i).toNat)
      case atStart => exact ⟨0, 0, Nat.zero_le _, rfl, rfl, Nat.zero_le _, Lib.hid rfl, Lib.hid (Keep.refl _ _)⟩
      case round =>
        obtain ⟨k, n, hk, rfl, rfl, hn, HN, HKI⟩ := hrel
        by_cases hlt2 : k < l.length
        · obtain ⟨x, hx⟩ : ∃ x, l[k]? = some x := ⟨l[k], by simp [hlt2]⟩
          have hxo : x.pool.length = 32 := ho x (List.mem_of_getElem? hx)
          have htk : l.take (k + 1) = l.take k ++ [x] := by rw [List.take_succ_eq_append_getElem hlt2]; have := hx; rw [List.getElem?_eq_getElem hlt2] at this; cases this; rfl
          have HSN := Lib.hid (show cntP (l.take (k + 1)) y.pool = n + if x.may = true ∧ x.pool = y.pool then 1 else 0 by rw [htk, cntP_snoc, ← HN.out])
          have hnk : n < 65536 := by
            have h1 : n ≤ (l.take k).length := by rw [HN.out]; exact List.length_filter_le _ _
            rw [List.length_take] at h1
            omega
          have HSZX : Hid ((Try.prog.info? 23).map (·.size) = some (x.pool.map vb).length) := Lib.hid (by rw [List.length_map, hxo]; exact sizeID)
          have HVX := Lib.hid (x.cells_length hxo)
          have HEQ := Lib.hid (eqID x.pool y.pool hxo HYO.out)
          obtain ⟨S, hS0⟩ : ∃ S : World → Prop, S = fun w' => Keep noBlk wr w' := ⟨_, rfl⟩
          have hSe : ∀ w', S w' → Keep noBlk wo w' := fun w' h => by rw [hS0] at h; exact HKI.out.trans h
          have HSK := Lib.hid (show ∀ w' w'', S w' → Keep noBlk w' w'' → S w'' from fun w' w'' h k => by rw [hS0] at h ⊢; exact h.trans k)
          have hS : S wr.drew := by rw [hS0]; exact (Keep.refl _ _).drew
          have HSX := Lib.hid (show ∀ w', S w' → w'.rangeAt g (o + k * 37) x.cells from fun w' h => rdLab_range ho (HRW.out.keep (hSe w' h) fun _ _ => id) hx)
          have HSPX := Lib.hid (show ∀ w', S w' → w'.rangeAt g (o + k * 37) (x.pool.map vb) from fun w' h => rangeAt_pool hxo (HSX.out w' h))
          have HSPY := Lib.hid (show ∀ w', S w' → w'.rangeAt g (o + k1 * 37) (y.pool.map vb) from fun w' h => rangeAt_pool HYO.out (rdLab_range ho (HRW.out.keep (hSe w' h) fun _ _ => id) HY.out))
          have HSE := Lib.hid hSe
          have CKX := Lib.hid (rcheck_keep x hxo rfl)
          clear hx hxo htk hS0 hSe
          have hk1i : (k1 : Int) < (l.length : Int) := by omega
          have hki : (k : Int) < (l.length : Int) := by omega
          cases hmay : x.may
          · rw [hmay] at CKX HSN
            have heqid := HEQ.out
            clear hmay
            go_wp2_with fail
            refine wp_region_held (S := S) (by kernel_rfl) ?_
            change wpAnyH _ _ _ _ _ _ _ _ wr.drew
            generalize wr.drew = w6 at *
            refine wpAnyH_take (i := 0) (v := .slice (some ⟨g, o, none⟩) l.length cap) rfl (by kernel_rfl) (by kernel_rfl) (by kernel_rfl) (fun _ _ _ h => h) (.inl ⟨by rfl, fun _ _ => rfl⟩) hS ?_
            simp only [Act.put, List.setIfInBounds_toArray, List.set_cons_zero, List.set_cons_succ, List.getElem_toArray, List.getElem_cons_zero]
            refine wpAnyH_take (i := 1) (v := .int .i64 k) rfl (by kernel_rfl) (by kernel_rfl) (by kernel_rfl) (fun _ _ _ h => h) (.inl ⟨by rfl, fun _ _ => rfl⟩) hS ?_
            simp only [Act.put, List.setIfInBounds_toArray, List.set_cons_zero, List.set_cons_succ, List.getElem_toArray, List.getElem_cons_succ, List.getElem_cons_zero]
            refine wpAnyH_take (i := 2) (v := .pointer (some ⟨g, o + k * 37, none⟩)) rfl (by kernel_rfl) (by kernel_rfl) (by kernel_rfl) (fun _ _ _ h => h) (.inl ⟨by rfl, fun _ _ => ?_⟩) hS ?_
            · go_simp
            simp only [Act.put, List.setIfInBounds_toArray, List.set_cons_zero, List.set_cons_succ, List.getElem_toArray, List.getElem_cons_succ, List.getElem_cons_zero]
            refine wpAnyH_take (i := 3) (v := .agg x.cells.toArray) rfl (by kernel_rfl) (by kernel_rfl) (by kernel_rfl) (fun _ _ _ h => h) (yieldsIf_load_mid (by rfl) 25 (.tmp 23) rfl g (o + k * 37) rfl x.cells _ HSX.out Try.underlying25 rfl (by rw [HVX.out]; exact sizeLab)) hS ?_
            simp only [Act.put, List.setIfInBounds_toArray, List.set_cons_zero, List.set_cons_succ, List.getElem_toArray, List.getElem_cons_succ, List.getElem_cons_zero]
            refine wpAnyH_one (k := 4) rfl (by kernel_rfl) ?_
            go_wp2_with fail
            refine (CKX.out _).mono ?_
            rintro e w7 ⟨rfl, hk7⟩
            have hS7 := HSK.out _ _ hS hk7
            clear hS hk7
            go_wp2_with fail
            refine ⟨hS7, ?_⟩
            refine wpAnyH_take (i := 5) (v := .bool false) rfl (by kernel_rfl) (by kernel_rfl) (by kernel_rfl) (fun _ _ _ h => h) (.inl ⟨by rfl, fun _ _ => ?_⟩) hS7 ?_
            · go_simp
            simp only [Act.put, List.setIfInBounds_toArray, List.set_cons_zero, List.set_cons_succ, List.getElem_toArray, List.getElem_cons_succ, List.getElem_cons_zero]
            refine wpAnyH_take (i := 6) (v := .bool false) rfl (by kernel_rfl) (by kernel_rfl) (by kernel_rfl) (fun _ _ _ h => h) (.inl ⟨by rfl, fun _ _ => rfl⟩) hS7 ?_
            simp only [Act.put, List.setIfInBounds_toArray, List.set_cons_zero, List.set_cons_succ, List.getElem_toArray, List.getElem_cons_succ, List.getElem_cons_zero]
            refine wpAnyH_take (i := 7) (v := undef) rfl (by kernel_rfl) (by kernel_rfl) (by kernel_rfl) (fun _ _ _ h => h) (.inr ⟨by rfl, rfl⟩) hS7 ?_
            simp only [Act.put, List.setIfInBounds_toArray, List.set_cons_zero, List.set_cons_succ, List.getElem_toArray, List.getElem_cons_succ, List.getElem_cons_zero]
            refine wpAnyH_take (i := 8) (v := undef) rfl (by kernel_rfl) (by kernel_rfl) (by kernel_rfl) (fun _ _ _ h => h) (.inr ⟨by rfl, rfl⟩) hS7 ?_
            simp only [Act.put, List.setIfInBounds_toArray, List.set_cons_zero, List.set_cons_succ, List.getElem_toArray, List.getElem_cons_succ, List.getElem_cons_zero]
            refine wpAnyH_take (i := 9) (v := undef) rfl (by kernel_rfl) (by kernel_rfl) (by kernel_rfl) (fun _ _ _ h => h) (.inr ⟨by rfl, rfl⟩) hS7 ?_
            simp only [Act.put, List.setIfInBounds_toArray, List.set_cons_zero, List.set_cons_succ, List.getElem_toArray, List.getElem_cons_succ, List.getElem_cons_zero]
            refine wpAnyH_take (i := 10) (v := undef) rfl (by kernel_rfl) (by kernel_rfl) (by kernel_rfl) (fun _ _ _ h => h) (.inr ⟨by rfl, rfl⟩) hS7 ?_
            simp only [Act.put, List.setIfInBounds_toArray, List.set_cons_zero, List.set_cons_succ, List.getElem_toArray, List.getElem_cons_succ, List.getElem_cons_zero]
            refine wpAnyH_take (i := 11) (v := undef) rfl (by kernel_rfl) (by kernel_rfl) (by kernel_rfl) (fun _ _ _ h => h) (.inr ⟨by rfl, rfl⟩) hS7 ?_
            simp only [Act.put, List.setIfInBounds_toArray, List.set_cons_zero, List.set_cons_succ, List.getElem_toArray, List.getElem_cons_succ, List.getElem_cons_zero]
            refine wpAnyH_take (i := 12) (v := undef) rfl (by kernel_rfl) (by kernel_rfl) (by kernel_rfl) (fun _ _ _ h => h) (.inr ⟨by rfl, rfl⟩) hS7 ?_
            simp only [Act.put, List.setIfInBounds_toArray, List.set_cons_zero, List.set_cons_succ, List.getElem_toArray, List.getElem_cons_succ, List.getElem_cons_zero]
            refine wpAnyH_take (i := 13) (v := undef) rfl (by kernel_rfl) (by kernel_rfl) (by kernel_rfl) (fun _ _ _ h => h) (.inr ⟨by rfl, rfl⟩) hS7 ?_
            simp only [Act.put, List.setIfInBounds_toArray, List.set_cons_zero, List.set_cons_succ, List.getElem_toArray, List.getElem_cons_succ, List.getElem_cons_zero]
            refine wpAnyH_take (i := 14) (v := undef) rfl (by kernel_rfl) (by kernel_rfl) (by kernel_rfl) (fun _ _ _ h => h) (.inr ⟨by rfl, rfl⟩) hS7 ?_
            simp only [Act.put, List.setIfInBounds_toArray, List.set_cons_zero, List.set_cons_succ, List.getElem_toArray, List.getElem_cons_succ, List.getElem_cons_zero]
            refine wpAnyH_take (i := 15) (v := undef) rfl (by kernel_rfl) (by kernel_rfl) (by kernel_rfl) (fun _ _ _ h => h) (.inr ⟨by rfl, rfl⟩) hS7 ?_
            simp only [Act.put, List.setIfInBounds_toArray, List.set_cons_zero, List.set_cons_succ, List.getElem_toArray, List.getElem_cons_succ, List.getElem_cons_zero]
            refine wpAnyH_take (i := 16) (v := undef) rfl (by kernel_rfl) (by kernel_rfl) (by kernel_rfl) (fun _ _ _ h => h) (.inr ⟨by rfl, rfl⟩) hS7 ?_
            simp only [Act.put, List.setIfInBounds_toArray, List.set_cons_zero, List.set_cons_succ, List.getElem_toArray, List.getElem_cons_succ, List.getElem_cons_zero]
            refine wpAnyH_take (i := 17) (v := undef) rfl (by kernel_rfl) (by kernel_rfl) (by kernel_rfl) (fun _ _ _ h => h) (.inr ⟨by rfl, rfl⟩) hS7 ?_
            simp only [Act.put, List.setIfInBounds_toArray, List.set_cons_zero, List.set_cons_succ, List.getElem_toArray, List.getElem_cons_succ, List.getElem_cons_zero]
            refine wpAnyH_take (i := 18) (v := .bool false) rfl (by kernel_rfl) (by kernel_rfl) (by kernel_rfl) (fun _ _ _ h => h) (.inl ⟨by rfl, fun _ _ => rfl⟩) hS7 ?_
            simp only [Act.put, List.setIfInBounds_toArray, List.set_cons_zero, List.set_cons_succ, List.getElem_toArray, List.getElem_cons_succ, List.getElem_cons_zero]
            refine wpAnyH_done (by kernel_rfl) ?_ _
            have HKE := Lib.hid (HSE.out _ hS7)
            have HSN' : Hid (n = cntP (l.take (k + 1)) y.pool) := Lib.hid (by rw [HSN.out, if_neg (fun h => by cases h.1)]; rfl)
            clear heqid
            go_wp2_with fail
            go_roundw
            case rel => exact ⟨k + 1, n, by omega, by go_num, rfl, hn, HSN', HKE⟩
            case measure => simp [intOf]; omega
          · rw [hmay] at CKX HSN
            have heqid := HEQ.out
            clear hmay
            go_wp2_with fail
            refine wp_region_held (S := S) (by kernel_rfl) ?_
            change wpAnyH _ _ _ _ _ _ _ _ wr.drew
            generalize wr.drew = w6 at *
            refine wpAnyH_take (i := 0) (v := .slice (some ⟨g, o, none⟩) l.length cap) rfl (by kernel_rfl) (by kernel_rfl) (by kernel_rfl) (fun _ _ _ h => h) (.inl ⟨by rfl, fun _ _ => rfl⟩) hS ?_
            simp only [Act.put, List.setIfInBounds_toArray, List.set_cons_zero, List.set_cons_succ, List.getElem_toArray, List.getElem_cons_zero]
            refine wpAnyH_take (i := 1) (v := .int .i64 k) rfl (by kernel_rfl) (by kernel_rfl) (by kernel_rfl) (fun _ _ _ h => h) (.inl ⟨by rfl, fun _ _ => rfl⟩) hS ?_
            simp only [Act.put, List.setIfInBounds_toArray, List.set_cons_zero, List.set_cons_succ, List.getElem_toArray, List.getElem_cons_succ, List.getElem_cons_zero]
            refine wpAnyH_take (i := 2) (v := .pointer (some ⟨g, o + k * 37, none⟩)) rfl (by kernel_rfl) (by kernel_rfl) (by kernel_rfl) (fun _ _ _ h => h) (.inl ⟨by rfl, fun _ _ => ?_⟩) hS ?_
            · go_simp
            simp only [Act.put, List.setIfInBounds_toArray, List.set_cons_zero, List.set_cons_succ, List.getElem_toArray, List.getElem_cons_succ, List.getElem_cons_zero]
            refine wpAnyH_take (i := 3) (v := .agg x.cells.toArray) rfl (by kernel_rfl) (by kernel_rfl) (by kernel_rfl) (fun _ _ _ h => h) (yieldsIf_load_mid (by rfl) 25 (.tmp 23) rfl g (o + k * 37) rfl x.cells _ HSX.out Try.underlying25 rfl (by rw [HVX.out]; exact sizeLab)) hS ?_
            simp only [Act.put, List.setIfInBounds_toArray, List.set_cons_zero, List.set_cons_succ, List.getElem_toArray, List.getElem_cons_succ, List.getElem_cons_zero]
            refine wpAnyH_one (k := 4) rfl (by kernel_rfl) ?_
            go_wp2_with fail
            refine (CKX.out _).mono ?_
            rintro e w7 ⟨rfl, hk7⟩
            have hS7 := HSK.out _ _ hS hk7
            clear hS hk7
            go_wp2_with fail
            refine ⟨hS7, ?_⟩
            refine wpAnyH_take (i := 5) (v := .bool true) rfl (by kernel_rfl) (by kernel_rfl) (by kernel_rfl) (fun _ _ _ h => h) (.inl ⟨by rfl, fun _ _ => ?_⟩) hS7 ?_
            · go_simp
            simp only [Act.put, List.setIfInBounds_toArray, List.set_cons_zero, List.set_cons_succ, List.getElem_toArray, List.getElem_cons_succ, List.getElem_cons_zero]
            refine wpAnyH_take (i := 6) (v := .bool true) rfl (by kernel_rfl) (by kernel_rfl) (by kernel_rfl) (fun _ _ _ h => h) (.inl ⟨by rfl, fun _ _ => rfl⟩) hS7 ?_
            simp only [Act.put, List.setIfInBounds_toArray, List.set_cons_zero, List.set_cons_succ, List.getElem_toArray, List.getElem_cons_succ, List.getElem_cons_zero]
            refine wpAnyH_take (i := 7) (v := .slice (some ⟨g, o, none⟩) l.length cap) rfl (by kernel_rfl) (by kernel_rfl) (by kernel_rfl) (fun _ _ _ h => h) (.inl ⟨by rfl, fun _ _ => rfl⟩) hS7 ?_
            simp only [Act.put, List.setIfInBounds_toArray, List.set_cons_zero, List.set_cons_succ, List.getElem_toArray, List.getElem_cons_succ, List.getElem_cons_zero]
            refine wpAnyH_take (i := 8) (v := .int .i64 k) rfl (by kernel_rfl) (by kernel_rfl) (by kernel_rfl) (fun _ _ _ h => h) (.inl ⟨by rfl, fun _ _ => rfl⟩) hS7 ?_
            simp only [Act.put, List.setIfInBounds_toArray, List.set_cons_zero, List.set_cons_succ, List.getElem_toArray, List.getElem_cons_succ, List.getElem_cons_zero]
            refine wpAnyH_take (i := 9) (v := .pointer (some ⟨g, o + k * 37, none⟩)) rfl (by kernel_rfl) (by kernel_rfl) (by kernel_rfl) (fun _ _ _ h => h) (.inl ⟨by rfl, fun _ _ => ?_⟩) hS7 ?_
            · go_simp
            simp only [Act.put, List.setIfInBounds_toArray, List.set_cons_zero, List.set_cons_succ, List.getElem_toArray, List.getElem_cons_succ, List.getElem_cons_zero]
            refine wpAnyH_take (i := 10) (v := .pointer (some ⟨g, o + k * 37, none⟩)) rfl (by kernel_rfl) (by kernel_rfl) (by kernel_rfl) (fun _ _ _ h => h) (.inl ⟨by rfl, fun _ _ => ?_⟩) hS7 ?_
            · go_simp
            simp only [Act.put, List.setIfInBounds_toArray, List.set_cons_zero, List.set_cons_succ, List.getElem_toArray, List.getElem_cons_succ, List.getElem_cons_zero]
            refine wpAnyH_take (i := 11) (v := .agg (x.pool.map vb).toArray) rfl (by kernel_rfl) (by kernel_rfl) (by kernel_rfl) (fun _ _ _ h => h) (yieldsIf_load_mid (by rfl) 23 (.tmp 31) rfl g (o + k * 37) rfl (x.pool.map vb) _ HSPX.out Try.underlying23 rfl HSZX.out) hS7 ?_
            simp only [Act.put, List.setIfInBounds_toArray, List.set_cons_zero, List.set_cons_succ, List.getElem_toArray, List.getElem_cons_succ, List.getElem_cons_zero]
            refine wpAnyH_take (i := 12) (v := .slice (some ⟨g, o, none⟩) l.length cap) rfl (by kernel_rfl) (by kernel_rfl) (by kernel_rfl) (fun _ _ _ h => h) (.inl ⟨by rfl, fun _ _ => rfl⟩) hS7 ?_
            simp only [Act.put, List.setIfInBounds_toArray, List.set_cons_zero, List.set_cons_succ, List.getElem_toArray, List.getElem_cons_succ, List.getElem_cons_zero]
            refine wpAnyH_take (i := 13) (v := .int .i64 k1) rfl (by kernel_rfl) (by kernel_rfl) (by kernel_rfl) (fun _ _ _ h => h) (.inl ⟨by rfl, fun _ _ => rfl⟩) hS7 ?_
            simp only [Act.put, List.setIfInBounds_toArray, List.set_cons_zero, List.set_cons_succ, List.getElem_toArray, List.getElem_cons_succ, List.getElem_cons_zero]
            refine wpAnyH_take (i := 14) (v := .pointer (some ⟨g, o + k1 * 37, none⟩)) rfl (by kernel_rfl) (by kernel_rfl) (by kernel_rfl) (fun _ _ _ h => h) (.inl ⟨by rfl, fun _ _ => ?_⟩) hS7 ?_
            · go_simp
            simp only [Act.put, List.setIfInBounds_toArray, List.set_cons_zero, List.set_cons_succ, List.getElem_toArray, List.getElem_cons_succ, List.getElem_cons_zero]
            refine wpAnyH_take (i := 15) (v := .pointer (some ⟨g, o + k1 * 37, none⟩)) rfl (by kernel_rfl) (by kernel_rfl) (by kernel_rfl) (fun _ _ _ h => h) (.inl ⟨by rfl, fun _ _ => ?_⟩) hS7 ?_
            · go_simp
            simp only [Act.put, List.setIfInBounds_toArray, List.set_cons_zero, List.set_cons_succ, List.getElem_toArray, List.getElem_cons_succ, List.getElem_cons_zero]
            refine wpAnyH_take (i := 16) (v := .agg (y.pool.map vb).toArray) rfl (by kernel_rfl) (by kernel_rfl) (by kernel_rfl) (fun _ _ _ h => h) (yieldsIf_load_mid (by rfl) 23 (.tmp 36) rfl g (o + k1 * 37) rfl (y.pool.map vb) _ HSPY.out Try.underlying23 rfl HSZY.out) hS7 ?_
            simp only [Act.put, List.setIfInBounds_toArray, List.set_cons_zero, List.set_cons_succ, List.getElem_toArray, List.getElem_cons_succ, List.getElem_cons_zero]
            refine wpAnyH_take (i := 17) (v := .bool (decide (x.pool = y.pool))) rfl (by kernel_rfl) (by kernel_rfl) (by kernel_rfl) (fun _ _ _ h => h) (.inl ⟨by rfl, fun _ _ => ?_⟩) hS7 ?_
            · go_simp
            simp only [Act.put, List.setIfInBounds_toArray, List.set_cons_zero, List.set_cons_succ, List.getElem_toArray, List.getElem_cons_succ, List.getElem_cons_zero]
            refine wpAnyH_take (i := 18) (v := .bool (decide (x.pool = y.pool))) rfl (by kernel_rfl) (by kernel_rfl) (by kernel_rfl) (fun _ _ _ h => h) (.inl ⟨by rfl, fun _ _ => rfl⟩) hS7 ?_
            simp only [Act.put, List.setIfInBounds_toArray, List.set_cons_zero, List.set_cons_succ, List.getElem_toArray, List.getElem_cons_succ, List.getElem_cons_zero]
            refine wpAnyH_done (by kernel_rfl) ?_ _
            have HKE := Lib.hid (HSE.out _ hS7)
            clear heqid
            by_cases hpq : x.pool = y.pool
            · have HSN' : Hid (n + 1 = cntP (l.take (k + 1)) y.pool) := Lib.hid (by rw [HSN.out, if_pos ⟨by simp, hpq⟩])
              have hdq : decide (x.pool = y.pool) = true := decide_eq_true hpq
              rw [hdq]
              clear hpq hdq
              go_wp2_with fail
              go_roundw
              case rel => exact ⟨k + 1, n + 1, by omega, by go_num, by go_num, by omega, HSN', HKE⟩
              case measure => simp [intOf]; omega
            · have HSN' : Hid (n = cntP (l.take (k + 1)) y.pool) := Lib.hid (by rw [HSN.out, if_neg (fun h => hpq h.2)]; rfl)
              have hdq : decide (x.pool = y.pool) = false := decide_eq_false hpq
              rw [hdq]
              clear hpq hdq
              go_wp2_with fail
              go_roundw
              case rel => exact ⟨k + 1, n, by omega, by go_num, rfl, hn, HSN', HKE⟩
              case measure => simp [intOf]; omega
        · obtain rfl : k = l.length := by omega
          have hn2 := HN.out
          rw [List.take_length] at hn2
          have hnn : n = cntP l y.pool := hn2
          obtain ⟨bs, hbs⟩ : ∃ bs, (PoolQ l k1).1 = bs := ⟨_, rfl⟩
          have hbl : bs.length = 32 := by rw [← hbs]; exact HINV.out.2
          have HSU : Hid (PoolQ l (k1 + 1) = if m < n ∨ n = m ∧ 0 < n ∧ idLt y.pool bs = true then (y.pool, n) else (bs, m)) := Lib.hid (by
            rw [poolQ_succ l HY.out]; unfold stepB; rw [← HM.out, ← hnn, hbs]
            by_cases hc : m < n ∨ n = m ∧ 0 < n ∧ idLt y.pool bs = true
            · rw [if_pos hc, if_pos hc]
            · rw [if_neg hc, if_neg hc]; exact Prod.ext hbs HM.out.symm)
          have hbb := HKI.out.blk HB.out id
          rw [hbs] at hbb
          have HBB := Lib.hid hbb
          have HSZB : Hid ((Try.prog.info? 23).map (·.size) = some (bs.map vb).length) := Lib.hid (by rw [List.length_map, hbl]; exact sizeID)
          have HBL : Hid ((bs.map vb).length = 32) := Lib.hid (by rw [List.length_map]; exact hbl)
          have HYL : Hid ((y.pool.map vb).length = 32) := Lib.hid (by rw [List.length_map]; exact HYO.out)
          obtain ⟨bl, hbq⟩ : ∃ bl, idLt y.pool bs = bl := ⟨_, rfl⟩
          have hcl := rless_any y.pool bs HYO.out hbl
          rw [hbq] at HSU hcl
          have CLS := Lib.hid hcl
          obtain ⟨S, hS0⟩ : ∃ S : World → Prop, S = fun w' => Keep noBlk wr w' := ⟨_, rfl⟩
          have hSe : ∀ w', S w' → Keep noBlk wo w' := fun w' h => by rw [hS0] at h; exact HKI.out.trans h
          have HSK := Lib.hid (show ∀ w' w'', S w' → Keep noBlk w' w'' → S w'' from fun w' w'' h k => by rw [hS0] at h ⊢; exact h.trans k)
          have hS : S wr.drew := by rw [hS0]; exact (Keep.refl _ _).drew
          have HSPY := Lib.hid (show ∀ w', S w' → w'.rangeAt g (o + k1 * 37) (y.pool.map vb) from fun w' h => rangeAt_pool HYO.out (rdLab_range ho (HRW.out.keep (hSe w' h) fun _ _ => id) HY.out))
          have HSPB := Lib.hid (show ∀ w', S w' → w'.rangeAt (w.heap.size + 1) 0 (bs.map vb) from fun w' h => by rw [hS0] at h; exact rangeAt_whole (h.blk HBB.out id))
          have HSB := Lib.hid (show ∀ w', S w' → w'.heap[w.heap.size + 1]? = some (.cells (bs.map vb).toArray 23 (0, 0)) from fun w' h => by rw [hS0] at h; exact h.blk HBB.out id)
          have HSE := Lib.hid hSe
          have hk1i : (k1 : Int) < (l.length : Int) := by omega
          clear hn2 hnn hbs hbl hbb hbq hcl hS0 hSe HB HM
          by_cases hA : m < n
          · have hAd : decide ((m : Int) < (n : Int)) = true := decide_eq_true (by omega)
            go_wp2_with fail
            refine wp_region_held (S := S) (by kernel_rfl) ?_
            change wpAnyH _ _ _ _ _ _ _ _ wr.drew
            generalize wr.drew = w6 at *
            refine wpAnyH_take (i := 0) (v := .int .i64 n) rfl (by kernel_rfl) (by kernel_rfl) (by kernel_rfl) (fun _ _ _ h => h) (.inl ⟨by rfl, fun _ _ => rfl⟩) hS ?_
            simp only [Act.put, List.setIfInBounds_toArray, List.set_cons_zero, List.set_cons_succ, List.getElem_toArray, List.getElem_cons_zero]
            refine wpAnyH_take (i := 1) (v := .int .i64 m) rfl (by kernel_rfl) (by kernel_rfl) (by kernel_rfl) (fun _ _ _ h => h) (.inl ⟨by rfl, fun _ _ => rfl⟩) hS ?_
            simp only [Act.put, List.setIfInBounds_toArray, List.set_cons_zero, List.set_cons_succ, List.getElem_toArray, List.getElem_cons_succ, List.getElem_cons_zero]
            refine wpAnyH_take (i := 2) (v := .bool true) rfl (by kernel_rfl) (by kernel_rfl) (by kernel_rfl) (fun _ _ _ h => h) (.inl ⟨by rfl, fun _ _ => ?_⟩) hS ?_
            · go_simp
            simp only [Act.put, List.setIfInBounds_toArray, List.set_cons_zero, List.set_cons_succ, List.getElem_toArray, List.getElem_cons_succ, List.getElem_cons_zero]
            refine wpAnyH_take (i := 3) (v := .bool true) rfl (by kernel_rfl) (by kernel_rfl) (by kernel_rfl) (fun _ _ _ h => h) (.inl ⟨by rfl, fun _ _ => rfl⟩) hS ?_
            simp only [Act.put, List.setIfInBounds_toArray, List.set_cons_zero, List.set_cons_succ, List.getElem_toArray, List.getElem_cons_succ, List.getElem_cons_zero]
            refine wpAnyH_take (i := 4) (v := undef) rfl (by kernel_rfl) (by kernel_rfl) (by kernel_rfl) (fun _ _ _ h => h) (.inr ⟨by rfl, rfl⟩) hS ?_
            simp only [Act.put, List.setIfInBounds_toArray, List.set_cons_zero, List.set_cons_succ, List.getElem_toArray, List.getElem_cons_succ, List.getElem_cons_zero]
            refine wpAnyH_take (i := 5) (v := undef) rfl (by kernel_rfl) (by kernel_rfl) (by kernel_rfl) (fun _ _ _ h => h) (.inr ⟨by rfl, rfl⟩) hS ?_
            simp only [Act.put, List.setIfInBounds_toArray, List.set_cons_zero, List.set_cons_succ, List.getElem_toArray, List.getElem_cons_succ, List.getElem_cons_zero]
            refine wpAnyH_take (i := 6) (v := undef) rfl (by kernel_rfl) (by kernel_rfl) (by kernel_rfl) (fun _ _ _ h => h) (.inr ⟨by rfl, rfl⟩) hS ?_
            simp only [Act.put, List.setIfInBounds_toArray, List.set_cons_zero, List.set_cons_succ, List.getElem_toArray, List.getElem_cons_succ, List.getElem_cons_zero]
            refine wpAnyH_take (i := 7) (v := undef) rfl (by kernel_rfl) (by kernel_rfl) (by kernel_rfl) (fun _ _ _ h => h) (.inr ⟨by rfl, rfl⟩) hS ?_
            simp only [Act.put, List.setIfInBounds_toArray, List.set_cons_zero, List.set_cons_succ, List.getElem_toArray, List.getElem_cons_succ, List.getElem_cons_zero]
            refine wpAnyH_take (i := 8) (v := undef) rfl (by kernel_rfl) (by kernel_rfl) (by kernel_rfl) (fun _ _ _ h => h) (.inr ⟨by rfl, rfl⟩) hS ?_
            simp only [Act.put, List.setIfInBounds_toArray, List.set_cons_zero, List.set_cons_succ, List.getElem_toArray, List.getElem_cons_succ, List.getElem_cons_zero]
            refine wpAnyH_take (i := 9) (v := undef) rfl (by kernel_rfl) (by kernel_rfl) (by kernel_rfl) (fun _ _ _ h => h) (.inr ⟨by rfl, rfl⟩) hS ?_
            simp only [Act.put, List.setIfInBounds_toArray, List.set_cons_zero, List.set_cons_succ, List.getElem_toArray, List.getElem_cons_succ, List.getElem_cons_zero]
            refine wpAnyH_take (i := 10) (v := undef) rfl (by kernel_rfl) (by kernel_rfl) (by kernel_rfl) (fun _ _ _ h => h) (.inr ⟨by rfl, rfl⟩) hS ?_
            simp only [Act.put, List.setIfInBounds_toArray, List.set_cons_zero, List.set_cons_succ, List.getElem_toArray, List.getElem_cons_succ, List.getElem_cons_zero]
            refine wpAnyH_take (i := 11) (v := undef) rfl (by kernel_rfl) (by kernel_rfl) (by kernel_rfl) (fun _ _ _ h => h) (.inr ⟨by rfl, rfl⟩) hS ?_
            simp only [Act.put, List.setIfInBounds_toArray, List.set_cons_zero, List.set_cons_succ, List.getElem_toArray, List.getElem_cons_succ, List.getElem_cons_zero]
            refine wpAnyH_take (i := 12) (v := undef) rfl (by kernel_rfl) (by kernel_rfl) (by kernel_rfl) (fun _ _ _ h => h) (.inr ⟨by rfl, rfl⟩) hS ?_
            simp only [Act.put, List.setIfInBounds_toArray, List.set_cons_zero, List.set_cons_succ, List.getElem_toArray, List.getElem_cons_succ, List.getElem_cons_zero]
            refine wpAnyH_take (i := 13) (v := undef) rfl (by kernel_rfl) (by kernel_rfl) (by kernel_rfl) (fun _ _ _ h => h) (.inr ⟨by rfl, rfl⟩) hS ?_
            simp only [Act.put, List.setIfInBounds_toArray, List.set_cons_zero, List.set_cons_succ, List.getElem_toArray, List.getElem_cons_succ, List.getElem_cons_zero]
            refine wpAnyH_take (i := 14) (v := undef) rfl (by kernel_rfl) (by kernel_rfl) (by kernel_rfl) (fun _ _ _ h => h) (.inr ⟨by rfl, rfl⟩) hS ?_
            simp only [Act.put, List.setIfInBounds_toArray, List.set_cons_zero, List.set_cons_succ, List.getElem_toArray, List.getElem_cons_succ, List.getElem_cons_zero]
            refine wpAnyH_take (i := 15) (v := undef) rfl (by kernel_rfl) (by kernel_rfl) (by kernel_rfl) (fun _ _ _ h => h) (.inr ⟨by rfl, rfl⟩) hS ?_
            simp only [Act.put, List.setIfInBounds_toArray, List.set_cons_zero, List.set_cons_succ, List.getElem_toArray, List.getElem_cons_succ, List.getElem_cons_zero]
            refine wpAnyH_take (i := 16) (v := undef) rfl (by kernel_rfl) (by kernel_rfl) (by kernel_rfl) (fun _ _ _ h => h) (.inr ⟨by rfl, rfl⟩) hS ?_
            simp only [Act.put, List.setIfInBounds_toArray, List.set_cons_zero, List.set_cons_succ, List.getElem_toArray, List.getElem_cons_succ, List.getElem_cons_zero]
            refine wpAnyH_take (i := 17) (v := undef) rfl (by kernel_rfl) (by kernel_rfl) (by kernel_rfl) (fun _ _ _ h => h) (.inr ⟨by rfl, rfl⟩) hS ?_
            simp only [Act.put, List.setIfInBounds_toArray, List.set_cons_zero, List.set_cons_succ, List.getElem_toArray, List.getElem_cons_succ, List.getElem_cons_zero]
            refine wpAnyH_take (i := 18) (v := undef) rfl (by kernel_rfl) (by kernel_rfl) (by kernel_rfl) (fun _ _ _ h => h) (.inr ⟨by rfl, rfl⟩) hS ?_
            simp only [Act.put, List.setIfInBounds_toArray, List.set_cons_zero, List.set_cons_succ, List.getElem_toArray, List.getElem_cons_succ, List.getElem_cons_zero]
            refine wpAnyH_take (i := 19) (v := undef) rfl (by kernel_rfl) (by kernel_rfl) (by kernel_rfl) (fun _ _ _ h => h) (.inr ⟨by rfl, rfl⟩) hS ?_
            simp only [Act.put, List.setIfInBounds_toArray, List.set_cons_zero, List.set_cons_succ, List.getElem_toArray, List.getElem_cons_succ, List.getElem_cons_zero]
            refine wpAnyH_take (i := 20) (v := .bool true) rfl (by kernel_rfl) (by kernel_rfl) (by kernel_rfl) (fun _ _ _ h => h) (.inl ⟨by rfl, fun _ _ => rfl⟩) hS ?_
            simp only [Act.put, List.setIfInBounds_toArray, List.set_cons_zero, List.set_cons_succ, List.getElem_toArray, List.getElem_cons_succ, List.getElem_cons_zero]
            refine wpAnyH_done (by kernel_rfl) ?_ _
            have HKE := Lib.hid (HSE.out _ hS); have HBE := Lib.hid (HSB.out _ hS)
            have HPYE := Lib.hid (HSPY.out _ hS)
            have HQ : Hid (PoolQ l (k1 + 1) = (y.pool, n)) := Lib.hid (by rw [HSU.out, if_pos (.inl hA)])
            clear hS
            go_wp2_with (first
              | ((with_reducible show wpList _ _ _ (⟨some 67, .load 23 (.tmp 66), _, _, _, _⟩ :: _) _ _); refine wpList_load_mid rfl 23 (.tmp 66) rfl g (o + k1 * 37) rfl (y.pool.map vb) _ HPYE.out Try.underlying23 rfl HSZY.out ?_)
              | ((with_reducible show wpList _ _ _ (⟨none, .store 23 (.tmp 4) (.tmp 67), _, _, _, _⟩ :: _) _ _); refine wpList_store_agg rfl 23 (.tmp 4) (.tmp 67) rfl (w.heap.size + 1) 0 (y.pool.map vb) rfl rfl _ _ HBE.out (by rw [HYL.out, List.size_toArray, HBL.out]; exact Nat.le_refl _) HSZY.out (oneCell_vb _) ?_
                 intro w9 hb9 hk9
                 rw [spl_whole _ _ (by rw [HYL.out, List.size_toArray, HBL.out])] at hb9
                 have HB9 := Lib.hid hb9; have HK9 := Lib.hid (HKR.out.trans (HKE.out.trans' hk9 (fun _ _ h => h.elim) (fun _ _ h => h)))
                 clear hb9 hk9))
            go_roundw
            case rel => exact ⟨k1 + 1, n, by omega, by go_num, rfl, hn, Lib.hid (by rw [HQ.out]), by rw [HQ.out]; exact HB9, HK9⟩
            case measure => simp [intOf]; omega
          · have hAd : decide ((m : Int) < (n : Int)) = false := decide_eq_false (by omega)
            by_cases hBq : n = m
            · have hBd : ((n : Int) == (m : Int)) = true := by rw [beq_iff_eq]; omega
              by_cases hC : 0 < n
              · have hCd : decide ((0 : Int) < (n : Int)) = true := decide_eq_true (by omega)
                have HBQ := Lib.hid hBq
                clear hBq
                go_wp2_with fail
                refine wp_region_held (S := S) (by kernel_rfl) ?_
                change wpAnyH _ _ _ _ _ _ _ _ wr.drew
                generalize wr.drew = w6 at *
                refine wpAnyH_take (i := 0) (v := .int .i64 n) rfl (by kernel_rfl) (by kernel_rfl) (by kernel_rfl) (fun _ _ _ h => h) (.inl ⟨by rfl, fun _ _ => rfl⟩) hS ?_
                simp only [Act.put, List.setIfInBounds_toArray, List.set_cons_zero, List.set_cons_succ, List.getElem_toArray, List.getElem_cons_zero]
                refine wpAnyH_take (i := 1) (v := .int .i64 m) rfl (by kernel_rfl) (by kernel_rfl) (by kernel_rfl) (fun _ _ _ h => h) (.inl ⟨by rfl, fun _ _ => rfl⟩) hS ?_
                simp only [Act.put, List.setIfInBounds_toArray, List.set_cons_zero, List.set_cons_succ, List.getElem_toArray, List.getElem_cons_succ, List.getElem_cons_zero]
                refine wpAnyH_take (i := 2) (v := .bool false) rfl (by kernel_rfl) (by kernel_rfl) (by kernel_rfl) (fun _ _ _ h => h) (.inl ⟨by rfl, fun _ _ => ?_⟩) hS ?_
                · go_simp
                simp only [Act.put, List.setIfInBounds_toArray, List.set_cons_zero, List.set_cons_succ, List.getElem_toArray, List.getElem_cons_succ, List.getElem_cons_zero]
                refine wpAnyH_take (i := 3) (v := .bool false) rfl (by kernel_rfl) (by kernel_rfl) (by kernel_rfl) (fun _ _ _ h => h) (.inl ⟨by rfl, fun _ _ => rfl⟩) hS ?_
                simp only [Act.put, List.setIfInBounds_toArray, List.set_cons_zero, List.set_cons_succ, List.getElem_toArray, List.getElem_cons_succ, List.getElem_cons_zero]
                refine wpAnyH_take (i := 4) (v := .int .i64 n) rfl (by kernel_rfl) (by kernel_rfl) (by kernel_rfl) (fun _ _ _ h => h) (.inl ⟨by rfl, fun _ _ => rfl⟩) hS ?_
                simp only [Act.put, List.setIfInBounds_toArray, List.set_cons_zero, List.set_cons_succ, List.getElem_toArray, List.getElem_cons_succ, List.getElem_cons_zero]
                refine wpAnyH_take (i := 5) (v := .int .i64 m) rfl (by kernel_rfl) (by kernel_rfl) (by kernel_rfl) (fun _ _ _ h => h) (.inl ⟨by rfl, fun _ _ => rfl⟩) hS ?_
                simp only [Act.put, List.setIfInBounds_toArray, List.set_cons_zero, List.set_cons_succ, List.getElem_toArray, List.getElem_cons_succ, List.getElem_cons_zero]
                refine wpAnyH_take (i := 6) (v := .bool true) rfl (by kernel_rfl) (by kernel_rfl) (by kernel_rfl) (fun _ _ _ h => h) (.inl ⟨by rfl, fun _ _ => ?_⟩) hS ?_
                · go_simp
                simp only [Act.put, List.setIfInBounds_toArray, List.set_cons_zero, List.set_cons_succ, List.getElem_toArray, List.getElem_cons_succ, List.getElem_cons_zero]
                refine wpAnyH_take (i := 7) (v := .bool true) rfl (by kernel_rfl) (by kernel_rfl) (by kernel_rfl) (fun _ _ _ h => h) (.inl ⟨by rfl, fun _ _ => rfl⟩) hS ?_
                simp only [Act.put, List.setIfInBounds_toArray, List.set_cons_zero, List.set_cons_succ, List.getElem_toArray, List.getElem_cons_succ, List.getElem_cons_zero]
                refine wpAnyH_take (i := 8) (v := .int .i64 n) rfl (by kernel_rfl) (by kernel_rfl) (by kernel_rfl) (fun _ _ _ h => h) (.inl ⟨by rfl, fun _ _ => rfl⟩) hS ?_
                simp only [Act.put, List.setIfInBounds_toArray, List.set_cons_zero, List.set_cons_succ, List.getElem_toArray, List.getElem_cons_succ, List.getElem_cons_zero]
                refine wpAnyH_take (i := 9) (v := .bool true) rfl (by kernel_rfl) (by kernel_rfl) (by kernel_rfl) (fun _ _ _ h => h) (.inl ⟨by rfl, fun _ _ => ?_⟩) hS ?_
                · go_simp
                simp only [Act.put, List.setIfInBounds_toArray, List.set_cons_zero, List.set_cons_succ, List.getElem_toArray, List.getElem_cons_succ, List.getElem_cons_zero]
                refine wpAnyH_take (i := 10) (v := .bool true) rfl (by kernel_rfl) (by kernel_rfl) (by kernel_rfl) (fun _ _ _ h => h) (.inl ⟨by rfl, fun _ _ => rfl⟩) hS ?_
                simp only [Act.put, List.setIfInBounds_toArray, List.set_cons_zero, List.set_cons_succ, List.getElem_toArray, List.getElem_cons_succ, List.getElem_cons_zero]
                refine wpAnyH_take (i := 11) (v := .bool true) rfl (by kernel_rfl) (by kernel_rfl) (by kernel_rfl) (fun _ _ _ h => h) (.inl ⟨by rfl, fun _ _ => rfl⟩) hS ?_
                simp only [Act.put, List.setIfInBounds_toArray, List.set_cons_zero, List.set_cons_succ, List.getElem_toArray, List.getElem_cons_succ, List.getElem_cons_zero]
                refine wpAnyH_take (i := 12) (v := .slice (some ⟨g, o, none⟩) l.length cap) rfl (by kernel_rfl) (by kernel_rfl) (by kernel_rfl) (fun _ _ _ h => h) (.inl ⟨by rfl, fun _ _ => rfl⟩) hS ?_
                simp only [Act.put, List.setIfInBounds_toArray, List.set_cons_zero, List.set_cons_succ, List.getElem_toArray, List.getElem_cons_succ, List.getElem_cons_zero]
                refine wpAnyH_take (i := 13) (v := .int .i64 k1) rfl (by kernel_rfl) (by kernel_rfl) (by kernel_rfl) (fun _ _ _ h => h) (.inl ⟨by rfl, fun _ _ => rfl⟩) hS ?_
                simp only [Act.put, List.setIfInBounds_toArray, List.set_cons_zero, List.set_cons_succ, List.getElem_toArray, List.getElem_cons_succ, List.getElem_cons_zero]
                refine wpAnyH_take (i := 14) (v := .pointer (some ⟨g, o + k1 * 37, none⟩)) rfl (by kernel_rfl) (by kernel_rfl) (by kernel_rfl) (fun _ _ _ h => h) (.inl ⟨by rfl, fun _ _ => ?_⟩) hS ?_
                · go_simp
                simp only [Act.put, List.setIfInBounds_toArray, List.set_cons_zero, List.set_cons_succ, List.getElem_toArray, List.getElem_cons_succ, List.getElem_cons_zero]
                refine wpAnyH_take (i := 15) (v := .pointer (some ⟨g, o + k1 * 37, none⟩)) rfl (by kernel_rfl) (by kernel_rfl) (by kernel_rfl) (fun _ _ _ h => h) (.inl ⟨by rfl, fun _ _ => ?_⟩) hS ?_
                · go_simp
                simp only [Act.put, List.setIfInBounds_toArray, List.set_cons_zero, List.set_cons_succ, List.getElem_toArray, List.getElem_cons_succ, List.getElem_cons_zero]
                refine wpAnyH_take (i := 16) (v := .agg (y.pool.map vb).toArray) rfl (by kernel_rfl) (by kernel_rfl) (by kernel_rfl) (fun _ _ _ h => h) (yieldsIf_load_mid (by rfl) 23 (.tmp 57) rfl g (o + k1 * 37) rfl (y.pool.map vb) _ HSPY.out Try.underlying23 rfl HSZY.out) hS ?_
                simp only [Act.put, List.setIfInBounds_toArray, List.set_cons_zero, List.set_cons_succ, List.getElem_toArray, List.getElem_cons_succ, List.getElem_cons_zero]
                refine wpAnyH_take (i := 17) (v := .agg (bs.map vb).toArray) rfl (by kernel_rfl) (by kernel_rfl) (by kernel_rfl) (fun _ _ _ h => h) (yieldsIf_load_mid (by rfl) 23 (.tmp 4) rfl (w.heap.size + 1) 0 rfl (bs.map vb) _ HSPB.out Try.underlying23 rfl HSZB.out) hS ?_
                simp only [Act.put, List.setIfInBounds_toArray, List.set_cons_zero, List.set_cons_succ, List.getElem_toArray, List.getElem_cons_succ, List.getElem_cons_zero]
                refine wpAnyH_one (k := 18) rfl (by kernel_rfl) ?_
                go_wp2_with fail
                refine (CLS.out _).mono ?_
                rintro e w7 ⟨rfl, hk7⟩
                have hS7 := HSK.out _ _ hS hk7
                clear hS hk7
                go_wp2_with fail
                refine ⟨hS7, ?_⟩
                refine wpAnyH_take (i := 19) (v := .bool bl) rfl (by kernel_rfl) (by kernel_rfl) (by kernel_rfl) (fun _ _ _ h => h) (.inl ⟨by rfl, fun _ _ => rfl⟩) hS7 ?_
                simp only [Act.put, List.setIfInBounds_toArray, List.set_cons_zero, List.set_cons_succ, List.getElem_toArray, List.getElem_cons_succ, List.getElem_cons_zero]
                refine wpAnyH_take (i := 20) (v := .bool bl) rfl (by kernel_rfl) (by kernel_rfl) (by kernel_rfl) (fun _ _ _ h => h) (.inl ⟨by rfl, fun _ _ => rfl⟩) hS7 ?_
                simp only [Act.put, List.setIfInBounds_toArray, List.set_cons_zero, List.set_cons_succ, List.getElem_toArray, List.getElem_cons_succ, List.getElem_cons_zero]
                refine wpAnyH_done (by kernel_rfl) ?_ _
                cases bl
                · clear hAd hBd hCd
                  have HKE := Lib.hid (HSE.out _ hS7); have HBE := Lib.hid (HSB.out _ hS7)
                  have HQ : Hid (PoolQ l (k1 + 1) = (bs, m)) := Lib.hid (by rw [HSU.out, if_neg (fun h => by rcases h with h | h; exact hA h; cases h.2.2)])
                  clear hS7
                  go_wp2_with fail
                  go_roundw
                  case rel => exact ⟨k1 + 1, m, by omega, by go_num, rfl, hm, Lib.hid (by rw [HQ.out]), by rw [HQ.out]; exact HBE, Lib.hid (HKR.out.trans' HKE.out (fun _ _ h => h) (fun _ _ h => h.elim))⟩
                  case measure => simp [intOf]; omega
                · clear hAd hBd hCd
                  have HKE := Lib.hid (HSE.out _ hS7); have HBE := Lib.hid (HSB.out _ hS7)
                  have HPYE := Lib.hid (HSPY.out _ hS7)
                  have HQ : Hid (PoolQ l (k1 + 1) = (y.pool, n)) := Lib.hid (by rw [HSU.out, if_pos (.inr ⟨HBQ.out, hC, rfl⟩)])
                  clear hS7
                  go_wp2_with (first
                    | ((with_reducible show wpList _ _ _ (⟨some 67, .load 23 (.tmp 66), _, _, _, _⟩ :: _) _ _); refine wpList_load_mid rfl 23 (.tmp 66) rfl g (o + k1 * 37) rfl (y.pool.map vb) _ HPYE.out Try.underlying23 rfl HSZY.out ?_)
                    | ((with_reducible show wpList _ _ _ (⟨none, .store 23 (.tmp 4) (.tmp 67), _, _, _, _⟩ :: _) _ _); refine wpList_store_agg rfl 23 (.tmp 4) (.tmp 67) rfl (w.heap.size + 1) 0 (y.pool.map vb) rfl rfl _ _ HBE.out (by rw [HYL.out, List.size_toArray, HBL.out]; exact Nat.le_refl _) HSZY.out (oneCell_vb _) ?_
                       intro w9 hb9 hk9
                       rw [spl_whole _ _ (by rw [HYL.out, List.size_toArray, HBL.out])] at hb9
                       have HB9 := Lib.hid hb9; have HK9 := Lib.hid (HKR.out.trans (HKE.out.trans' hk9 (fun _ _ h => h.elim) (fun _ _ h => h)))
                       clear hb9 hk9))
                  go_roundw
                  case rel => exact ⟨k1 + 1, n, by omega, by go_num, rfl, hn, Lib.hid (by rw [HQ.out]), by rw [HQ.out]; exact HB9, HK9⟩
                  case measure => simp [intOf]; omega
              · have hCd : decide ((0 : Int) < (n : Int)) = false := decide_eq_false (by omega)
                have HBQ := Lib.hid hBq
                clear hBq
                go_wp2_with fail
                refine wp_region_held (S := S) (by kernel_rfl) ?_
                change wpAnyH _ _ _ _ _ _ _ _ wr.drew
                generalize wr.drew = w6 at *
                refine wpAnyH_take (i := 0) (v := .int .i64 n) rfl (by kernel_rfl) (by kernel_rfl) (by kernel_rfl) (fun _ _ _ h => h) (.inl ⟨by rfl, fun _ _ => rfl⟩) hS ?_
                simp only [Act.put, List.setIfInBounds_toArray, List.set_cons_zero, List.set_cons_succ, List.getElem_toArray, List.getElem_cons_zero]
                refine wpAnyH_take (i := 1) (v := .int .i64 m) rfl (by kernel_rfl) (by kernel_rfl) (by kernel_rfl) (fun _ _ _ h => h) (.inl ⟨by rfl, fun _ _ => rfl⟩) hS ?_
                simp only [Act.put, List.setIfInBounds_toArray, List.set_cons_zero, List.set_cons_succ, List.getElem_toArray, List.getElem_cons_succ, List.getElem_cons_zero]
                refine wpAnyH_take (i := 2) (v := .bool false) rfl (by kernel_rfl) (by kernel_rfl) (by kernel_rfl) (fun _ _ _ h => h) (.inl ⟨by rfl, fun _ _ => ?_⟩) hS ?_
                · go_simp
                simp only [Act.put, List.setIfInBounds_toArray, List.set_cons_zero, List.set_cons_succ, List.getElem_toArray, List.getElem_cons_succ, List.getElem_cons_zero]
                refine wpAnyH_take (i := 3) (v := .bool false) rfl (by kernel_rfl) (by kernel_rfl) (by kernel_rfl) (fun _ _ _ h => h) (.inl ⟨by rfl, fun _ _ => rfl⟩) hS ?_
                simp only [Act.put, List.setIfInBounds_toArray, List.set_cons_zero, List.set_cons_succ, List.getElem_toArray, List.getElem_cons_succ, List.getElem_cons_zero]
                refine wpAnyH_take (i := 4) (v := .int .i64 n) rfl (by kernel_rfl) (by kernel_rfl) (by kernel_rfl) (fun _ _ _ h => h) (.inl ⟨by rfl, fun _ _ => rfl⟩) hS ?_
                simp only [Act.put, List.setIfInBounds_toArray, List.set_cons_zero, List.set_cons_succ, List.getElem_toArray, List.getElem_cons_succ, List.getElem_cons_zero]
                refine wpAnyH_take (i := 5) (v := .int .i64 m) rfl (by kernel_rfl) (by kernel_rfl) (by kernel_rfl) (fun _ _ _ h => h) (.inl ⟨by rfl, fun _ _ => rfl⟩) hS ?_
                simp only [Act.put, List.setIfInBounds_toArray, List.set_cons_zero, List.set_cons_succ, List.getElem_toArray, List.getElem_cons_succ, List.getElem_cons_zero]
                refine wpAnyH_take (i := 6) (v := .bool true) rfl (by kernel_rfl) (by kernel_rfl) (by kernel_rfl) (fun _ _ _ h => h) (.inl ⟨by rfl, fun _ _ => ?_⟩) hS ?_
                · go_simp
                simp only [Act.put, List.setIfInBounds_toArray, List.set_cons_zero, List.set_cons_succ, List.getElem_toArray, List.getElem_cons_succ, List.getElem_cons_zero]
                refine wpAnyH_take (i := 7) (v := .bool true) rfl (by kernel_rfl) (by kernel_rfl) (by kernel_rfl) (fun _ _ _ h => h) (.inl ⟨by rfl, fun _ _ => rfl⟩) hS ?_
                simp only [Act.put, List.setIfInBounds_toArray, List.set_cons_zero, List.set_cons_succ, List.getElem_toArray, List.getElem_cons_succ, List.getElem_cons_zero]
                refine wpAnyH_take (i := 8) (v := .int .i64 n) rfl (by kernel_rfl) (by kernel_rfl) (by kernel_rfl) (fun _ _ _ h => h) (.inl ⟨by rfl, fun _ _ => rfl⟩) hS ?_
                simp only [Act.put, List.setIfInBounds_toArray, List.set_cons_zero, List.set_cons_succ, List.getElem_toArray, List.getElem_cons_succ, List.getElem_cons_zero]
                refine wpAnyH_take (i := 9) (v := .bool false) rfl (by kernel_rfl) (by kernel_rfl) (by kernel_rfl) (fun _ _ _ h => h) (.inl ⟨by rfl, fun _ _ => ?_⟩) hS ?_
                · go_simp
                simp only [Act.put, List.setIfInBounds_toArray, List.set_cons_zero, List.set_cons_succ, List.getElem_toArray, List.getElem_cons_succ, List.getElem_cons_zero]
                refine wpAnyH_take (i := 10) (v := .bool false) rfl (by kernel_rfl) (by kernel_rfl) (by kernel_rfl) (fun _ _ _ h => h) (.inl ⟨by rfl, fun _ _ => rfl⟩) hS ?_
                simp only [Act.put, List.setIfInBounds_toArray, List.set_cons_zero, List.set_cons_succ, List.getElem_toArray, List.getElem_cons_succ, List.getElem_cons_zero]
                refine wpAnyH_take (i := 11) (v := .bool false) rfl (by kernel_rfl) (by kernel_rfl) (by kernel_rfl) (fun _ _ _ h => h) (.inl ⟨by rfl, fun _ _ => rfl⟩) hS ?_
                simp only [Act.put, List.setIfInBounds_toArray, List.set_cons_zero, List.set_cons_succ, List.getElem_toArray, List.getElem_cons_succ, List.getElem_cons_zero]
                refine wpAnyH_take (i := 12) (v := undef) rfl (by kernel_rfl) (by kernel_rfl) (by kernel_rfl) (fun _ _ _ h => h) (.inr ⟨by rfl, rfl⟩) hS ?_
                simp only [Act.put, List.setIfInBounds_toArray, List.set_cons_zero, List.set_cons_succ, List.getElem_toArray, List.getElem_cons_succ, List.getElem_cons_zero]
                refine wpAnyH_take (i := 13) (v := undef) rfl (by kernel_rfl) (by kernel_rfl) (by kernel_rfl) (fun _ _ _ h => h) (.inr ⟨by rfl, rfl⟩) hS ?_
                simp only [Act.put, List.setIfInBounds_toArray, List.set_cons_zero, List.set_cons_succ, List.getElem_toArray, List.getElem_cons_succ, List.getElem_cons_zero]
                refine wpAnyH_take (i := 14) (v := undef) rfl (by kernel_rfl) (by kernel_rfl) (by kernel_rfl) (fun _ _ _ h => h) (.inr ⟨by rfl, rfl⟩) hS ?_
                simp only [Act.put, List.setIfInBounds_toArray, List.set_cons_zero, List.set_cons_succ, List.getElem_toArray, List.getElem_cons_succ, List.getElem_cons_zero]
                refine wpAnyH_take (i := 15) (v := undef) rfl (by kernel_rfl) (by kernel_rfl) (by kernel_rfl) (fun _ _ _ h => h) (.inr ⟨by rfl, rfl⟩) hS ?_
                simp only [Act.put, List.setIfInBounds_toArray, List.set_cons_zero, List.set_cons_succ, List.getElem_toArray, List.getElem_cons_succ, List.getElem_cons_zero]
                refine wpAnyH_take (i := 16) (v := undef) rfl (by kernel_rfl) (by kernel_rfl) (by kernel_rfl) (fun _ _ _ h => h) (.inr ⟨by rfl, rfl⟩) hS ?_
                simp only [Act.put, List.setIfInBounds_toArray, List.set_cons_zero, List.set_cons_succ, List.getElem_toArray, List.getElem_cons_succ, List.getElem_cons_zero]
                refine wpAnyH_take (i := 17) (v := undef) rfl (by kernel_rfl) (by kernel_rfl) (by kernel_rfl) (fun _ _ _ h => h) (.inr ⟨by rfl, rfl⟩) hS ?_
                simp only [Act.put, List.setIfInBounds_toArray, List.set_cons_zero, List.set_cons_succ, List.getElem_toArray, List.getElem_cons_succ, List.getElem_cons_zero]
                refine wpAnyH_take (i := 18) (v := undef) rfl (by kernel_rfl) (by kernel_rfl) (by kernel_rfl) (fun _ _ _ h => h) (.inr ⟨by rfl, rfl⟩) hS ?_
                simp only [Act.put, List.setIfInBounds_toArray, List.set_cons_zero, List.set_cons_succ, List.getElem_toArray, List.getElem_cons_succ, List.getElem_cons_zero]
                refine wpAnyH_take (i := 19) (v := .bool false) rfl (by kernel_rfl) (by kernel_rfl) (by kernel_rfl) (fun _ _ _ h => h) (.inl ⟨by rfl, fun _ _ => rfl⟩) hS ?_
                simp only [Act.put, List.setIfInBounds_toArray, List.set_cons_zero, List.set_cons_succ, List.getElem_toArray, List.getElem_cons_succ, List.getElem_cons_zero]
                refine wpAnyH_take (i := 20) (v := .bool false) rfl (by kernel_rfl) (by kernel_rfl) (by kernel_rfl) (fun _ _ _ h => h) (.inl ⟨by rfl, fun _ _ => rfl⟩) hS ?_
                simp only [Act.put, List.setIfInBounds_toArray, List.set_cons_zero, List.set_cons_succ, List.getElem_toArray, List.getElem_cons_succ, List.getElem_cons_zero]
                refine wpAnyH_done (by kernel_rfl) ?_ _
                clear hAd hBd hCd
                have HKE := Lib.hid (HSE.out _ hS); have HBE := Lib.hid (HSB.out _ hS)
                have HQ : Hid (PoolQ l (k1 + 1) = (bs, m)) := Lib.hid (by rw [HSU.out, if_neg (fun h => by rcases h with h | h; exact hA h; exact hC h.2.1)])
                clear hS
                go_wp2_with fail
                go_roundw
                case rel => exact ⟨k1 + 1, m, by omega, by go_num, rfl, hm, Lib.hid (by rw [HQ.out]), by rw [HQ.out]; exact HBE, Lib.hid (HKR.out.trans' HKE.out (fun _ _ h => h) (fun _ _ h => h.elim))⟩
                case measure => simp [intOf]; omega
            · have hBd : ((n : Int) == (m : Int)) = false := by rw [beq_eq_false_iff_ne]; omega
              go_wp2_with fail
              refine wp_region_held (S := S) (by kernel_rfl) ?_
              change wpAnyH _ _ _ _ _ _ _ _ wr.drew
              generalize wr.drew = w6 at *
              refine wpAnyH_take (i := 0) (v := .int .i64 n) rfl (by kernel_rfl) (by kernel_rfl) (by kernel_rfl) (fun _ _ _ h => h) (.inl ⟨by rfl, fun _ _ => rfl⟩) hS ?_
              simp only [Act.put, List.setIfInBounds_toArray, List.set_cons_zero, List.set_cons_succ, List.getElem_toArray, List.getElem_cons_zero]
              refine wpAnyH_take (i := 1) (v := .int .i64 m) rfl (by kernel_rfl) (by kernel_rfl) (by kernel_rfl) (fun _ _ _ h => h) (.inl ⟨by rfl, fun _ _ => rfl⟩) hS ?_
              simp only [Act.put, List.setIfInBounds_toArray, List.set_cons_zero, List.set_cons_succ, List.getElem_toArray, List.getElem_cons_succ, List.getElem_cons_zero]
              refine wpAnyH_take (i := 2) (v := .bool false) rfl (by kernel_rfl) (by kernel_rfl) (by kernel_rfl) (fun _ _ _ h => h) (.inl ⟨by rfl, fun _ _ => ?_⟩) hS ?_
              · go_simp
              simp only [Act.put, List.setIfInBounds_toArray, List.set_cons_zero, List.set_cons_succ, List.getElem_toArray, List.getElem_cons_succ, List.getElem_cons_zero]
              refine wpAnyH_take (i := 3) (v := .bool false) rfl (by kernel_rfl) (by kernel_rfl) (by kernel_rfl) (fun _ _ _ h => h) (.inl ⟨by rfl, fun _ _ => rfl⟩) hS ?_
              simp only [Act.put, List.setIfInBounds_toArray, List.set_cons_zero, List.set_cons_succ, List.getElem_toArray, List.getElem_cons_succ, List.getElem_cons_zero]
              refine wpAnyH_take (i := 4) (v := .int .i64 n) rfl (by kernel_rfl) (by kernel_rfl) (by kernel_rfl) (fun _ _ _ h => h) (.inl ⟨by rfl, fun _ _ => rfl⟩) hS ?_
              simp only [Act.put, List.setIfInBounds_toArray, List.set_cons_zero, List.set_cons_succ, List.getElem_toArray, List.getElem_cons_succ, List.getElem_cons_zero]
              refine wpAnyH_take (i := 5) (v := .int .i64 m) rfl (by kernel_rfl) (by kernel_rfl) (by kernel_rfl) (fun _ _ _ h => h) (.inl ⟨by rfl, fun _ _ => rfl⟩) hS ?_
              simp only [Act.put, List.setIfInBounds_toArray, List.set_cons_zero, List.set_cons_succ, List.getElem_toArray, List.getElem_cons_succ, List.getElem_cons_zero]
              refine wpAnyH_take (i := 6) (v := .bool false) rfl (by kernel_rfl) (by kernel_rfl) (by kernel_rfl) (fun _ _ _ h => h) (.inl ⟨by rfl, fun _ _ => ?_⟩) hS ?_
              · go_simp
              simp only [Act.put, List.setIfInBounds_toArray, List.set_cons_zero, List.set_cons_succ, List.getElem_toArray, List.getElem_cons_succ, List.getElem_cons_zero]
              refine wpAnyH_take (i := 7) (v := .bool false) rfl (by kernel_rfl) (by kernel_rfl) (by kernel_rfl) (fun _ _ _ h => h) (.inl ⟨by rfl, fun _ _ => rfl⟩) hS ?_
              simp only [Act.put, List.setIfInBounds_toArray, List.set_cons_zero, List.set_cons_succ, List.getElem_toArray, List.getElem_cons_succ, List.getElem_cons_zero]
              refine wpAnyH_take (i := 8) (v := undef) rfl (by kernel_rfl) (by kernel_rfl) (by kernel_rfl) (fun _ _ _ h => h) (.inr ⟨by rfl, rfl⟩) hS ?_
              simp only [Act.put, List.setIfInBounds_toArray, List.set_cons_zero, List.set_cons_succ, List.getElem_toArray, List.getElem_cons_succ, List.getElem_cons_zero]
              refine wpAnyH_take (i := 9) (v := undef) rfl (by kernel_rfl) (by kernel_rfl) (by kernel_rfl) (fun _ _ _ h => h) (.inr ⟨by rfl, rfl⟩) hS ?_
              simp only [Act.put, List.setIfInBounds_toArray, List.set_cons_zero, List.set_cons_succ, List.getElem_toArray, List.getElem_cons_succ, List.getElem_cons_zero]
              refine wpAnyH_take (i := 10) (v := .bool false) rfl (by kernel_rfl) (by kernel_rfl) (by kernel_rfl) (fun _ _ _ h => h) (.inl ⟨by rfl, fun _ _ => rfl⟩) hS ?_
              simp only [Act.put, List.setIfInBounds_toArray, List.set_cons_zero, List.set_cons_succ, List.getElem_toArray, List.getElem_cons_succ, List.getElem_cons_zero]
              refine wpAnyH_take (i := 11) (v := .bool false) rfl (by kernel_rfl) (by kernel_rfl) (by kernel_rfl) (fun _ _ _ h => h) (.inl ⟨by rfl, fun _ _ => rfl⟩) hS ?_
              simp only [Act.put, List.setIfInBounds_toArray, List.set_cons_zero, List.set_cons_succ, List.getElem_toArray, List.getElem_cons_succ, List.getElem_cons_zero]
              refine wpAnyH_take (i := 12) (v := undef) rfl (by kernel_rfl) (by kernel_rfl) (by kernel_rfl) (fun _ _ _ h => h) (.inr ⟨by rfl, rfl⟩) hS ?_
              simp only [Act.put, List.setIfInBounds_toArray, List.set_cons_zero, List.set_cons_succ, List.getElem_toArray, List.getElem_cons_succ, List.getElem_cons_zero]
              refine wpAnyH_take (i := 13) (v := undef) rfl (by kernel_rfl) (by kernel_rfl) (by kernel_rfl) (fun _ _ _ h => h) (.inr ⟨by rfl, rfl⟩) hS ?_
              simp only [Act.put, List.setIfInBounds_toArray, List.set_cons_zero, List.set_cons_succ, List.getElem_toArray, List.getElem_cons_succ, List.getElem_cons_zero]
              refine wpAnyH_take (i := 14) (v := undef) rfl (by kernel_rfl) (by kernel_rfl) (by kernel_rfl) (fun _ _ _ h => h) (.inr ⟨by rfl, rfl⟩) hS ?_
              simp only [Act.put, List.setIfInBounds_toArray, List.set_cons_zero, List.set_cons_succ, List.getElem_toArray, List.getElem_cons_succ, List.getElem_cons_zero]
              refine wpAnyH_take (i := 15) (v := undef) rfl (by kernel_rfl) (by kernel_rfl) (by kernel_rfl) (fun _ _ _ h => h) (.inr ⟨by rfl, rfl⟩) hS ?_
              simp only [Act.put, List.setIfInBounds_toArray, List.set_cons_zero, List.set_cons_succ, List.getElem_toArray, List.getElem_cons_succ, List.getElem_cons_zero]
              refine wpAnyH_take (i := 16) (v := undef) rfl (by kernel_rfl) (by kernel_rfl) (by kernel_rfl) (fun _ _ _ h => h) (.inr ⟨by rfl, rfl⟩) hS ?_
              simp only [Act.put, List.setIfInBounds_toArray, List.set_cons_zero, List.set_cons_succ, List.getElem_toArray, List.getElem_cons_succ, List.getElem_cons_zero]
              refine wpAnyH_take (i := 17) (v := undef) rfl (by kernel_rfl) (by kernel_rfl) (by kernel_rfl) (fun _ _ _ h => h) (.inr ⟨by rfl, rfl⟩) hS ?_
              simp only [Act.put, List.setIfInBounds_toArray, List.set_cons_zero, List.set_cons_succ, List.getElem_toArray, List.getElem_cons_succ, List.getElem_cons_zero]
              refine wpAnyH_take (i := 18) (v := undef) rfl (by kernel_rfl) (by kernel_rfl) (by kernel_rfl) (fun _ _ _ h => h) (.inr ⟨by rfl, rfl⟩) hS ?_
              simp only [Act.put, List.setIfInBounds_toArray, List.set_cons_zero, List.set_cons_succ, List.getElem_toArray, List.getElem_cons_succ, List.getElem_cons_zero]
              refine wpAnyH_take (i := 19) (v := .bool false) rfl (by kernel_rfl) (by kernel_rfl) (by kernel_rfl) (fun _ _ _ h => h) (.inl ⟨by rfl, fun _ _ => rfl⟩) hS ?_
              simp only [Act.put, List.setIfInBounds_toArray, List.set_cons_zero, List.set_cons_succ, List.getElem_toArray, List.getElem_cons_succ, List.getElem_cons_zero]
              refine wpAnyH_take (i := 20) (v := .bool false) rfl (by kernel_rfl) (by kernel_rfl) (by kernel_rfl) (fun _ _ _ h => h) (.inl ⟨by rfl, fun _ _ => rfl⟩) hS ?_
              simp only [Act.put, List.setIfInBounds_toArray, List.set_cons_zero, List.set_cons_succ, List.getElem_toArray, List.getElem_cons_succ, List.getElem_cons_zero]
              refine wpAnyH_done (by kernel_rfl) ?_ _
              clear hAd hBd
              have HKE := Lib.hid (HSE.out _ hS); have HBE := Lib.hid (HSB.out _ hS)
              have HQ : Hid (PoolQ l (k1 + 1) = (bs, m)) := Lib.hid (by rw [HSU.out, if_neg (fun h => by rcases h with h | h; exact hA h; exact hBq h.1)])
              clear hS
              go_wp2_with fail
              go_roundw
              case rel => exact ⟨k1 + 1, m, by omega, by go_num, rfl, hm, Lib.hid (by rw [HQ.out]), by rw [HQ.out]; exact HBE, Lib.hid (HKR.out.trans' HKE.out (fun _ _ h => h) (fun _ _ h => h.elim))⟩
              case measure => simp [intOf]; omega
    · obtain rfl : k1 = l.length := by omega
      have hq := poolQ_all l
      have hb := HB.out
      have hm2 := HM.out
      have hinv := (poolQ_inv ho _ (Nat.le_refl l.length)).2
      rw [hq] at hb hm2 hinv
      have HBF := Lib.hid hb; have HM2 := Lib.hid hm2
      have HBL : Hid (((poolB l).1.map vb).length = 32) := Lib.hid (by rw [List.length_map]; exact hinv)
      have HSZ : Hid ((Try.prog.info? 23).map (·.size) = some ((poolB l).1.map vb).length) := Lib.hid (by rw [List.length_map, hinv]; exact sizeID)
      have HRB := Lib.hid (HKR.out.blk HB1.out (by omega))
      clear hq hb hm2 hinv
      go_wp2_with (first
        | ((with_reducible show wpList _ _ _ (⟨some 69, .load 23 (.tmp 4), _, _, _, _⟩ :: _) _ _); refine wpList_load_mid rfl 23 (.tmp 4) rfl (w.heap.size + 1) 0 rfl ((poolB l).1.map vb) _ (rangeAt_whole HBF.out) Try.underlying23 rfl HSZ.out ?_)
        | ((with_reducible show wpList _ _ _ (⟨none, .store 23 (.tmp 2) (.tmp 69), _, _, _, _⟩ :: _) _ _); refine wpList_store_agg rfl 23 (.tmp 2) (.tmp 69) rfl w.heap.size 0 ((poolB l).1.map vb) rfl rfl (Array.replicate 32 (.int .u8 0)) 23 HRB.out (by rw [HBL.out, Array.size_replicate]; exact Nat.le_refl _) HSZ.out (oneCell_vb _) ?_
           intro w7 hb7 hk7
           rw [spl_whole _ _ (by rw [HBL.out, Array.size_replicate])] at hb7
           have HB7 := Lib.hid hb7; have HK7 := Lib.hid hk7
           clear hb7 hk7))
      refine bodyPost_ret (results_cell_row_tmp rfl _ _ w.heap.size _ _ _ _ rfl HB7.out Try.underlying23 rfl (by rw [List.size_toArray]; exact HSZ.out)) rfl ⟨?_, ?_⟩
      · rw [← HM2.out]; rfl
      · exact (HK.out.trans' HKR.out (U := fun b => w.heap.size ≤ b) (fun i _ h => h.elim) (fun i _ h => by omega)).trans' HK7.out (U := noBlk) (fun i hi h => by omega) (fun i hi h => by omega)

set_option maxHeartbeats 1000000 in
theorem rpool_none (w : World) (a : Option Addr) (cap : Nat) : Calls Try.prog 24 #[.slice a 0 cap] w (RPoolPost w []) := by
  obtain ⟨w1, hw1, hk1, hb1, hs1⟩ := alloc_facts w (Array.replicate 32 (.int .u8 0)) 23
  obtain ⟨w2, hw2, hk2, hb2, hs2⟩ := alloc_facts w1 (Array.replicate 32 (.int .u8 0)) 23
  rw [hs1] at hb2
  obtain ⟨zp, hzp, hzl, hzo⟩ : ∃ zp, zeros.map vb = zp ∧ zp.length = 32 ∧ ∀ u ∈ zp, u.oneCell' = true := ⟨_, rfl, rfl, oneCell_vb _⟩
  have hb2' : w2.heap[w.heap.size + 1]? = some (.cells zp.toArray 23 (0, 0)) := by rw [← hzp]; exact hb2
  have HB1 := Lib.hid (hk2.blk hb1 id); have HB2 := Lib.hid hb2'; have HK := Lib.hid (hk1.trans hk2)
  have HZP := Lib.hid hzp; have HZL := Lib.hid hzl; have HZO := Lib.hid hzo
  have HSZ : Hid ((Try.prog.info? 23).map (·.size) = some zp.length) := Lib.hid (by rw [hzl]; exact sizeID)
  clear hk1 hb1 hk2 hb2 hb2' hzp hzl hzo
  go_enter Try.func24, Try.ntmps24
  go_wp2_with (first
    | ((with_reducible show wpList _ _ _ (⟨some 2, .alloc 23, _, _, _, _⟩ :: _) _ _); refine wpList_alloc_at rfl 23 rfl zero32 zeroID (Array.replicate 32 (.int .u8 0)) rfl ?_; rw [hw1])
    | ((with_reducible show wpList _ _ _ (⟨some 4, .alloc 23, _, _, _, _⟩ :: _) _ _); refine wpList_alloc_at rfl 23 rfl zero32 zeroID (Array.replicate 32 (.int .u8 0)) rfl ?_; rw [hw2, hs1]))
  clear hw1 hw2 hs1 hs2
  go_loopw [5, 6] (fun t i wr => t = .int .i64 0 ∧ i = .int .i64 0 ∧ w2 = wr) (fun _ _ _ => 0)
  case atStart => exact ⟨rfl, rfl, rfl⟩
  case round =>
    obtain ⟨rfl, rfl, rfl⟩ := hrel
    go_wp2_with (first
      | ((with_reducible show wpList _ _ _ (⟨some 69, .load 23 (.tmp 4), _, _, _, _⟩ :: _) _ _); refine wpList_load_mid rfl 23 (.tmp 4) rfl (w.heap.size + 1) 0 rfl zp _ (rangeAt_whole HB2.out) Try.underlying23 rfl HSZ.out ?_)
      | ((with_reducible show wpList _ _ _ (⟨none, .store 23 (.tmp 2) (.tmp 69), _, _, _, _⟩ :: _) _ _); refine wpList_store_agg rfl 23 (.tmp 2) (.tmp 69) rfl w.heap.size 0 zp rfl rfl (Array.replicate 32 (.int .u8 0)) 23 HB1.out (by rw [HZL.out, Array.size_replicate]; exact Nat.le_refl _) HSZ.out HZO.out ?_
         intro w7 hb7 hk7
         rw [spl_whole _ _ (by rw [HZL.out, Array.size_replicate])] at hb7
         have HB7 := Lib.hid hb7; have HK7 := Lib.hid hk7
         clear hb7 hk7))
    refine bodyPost_ret (results_cell_row_tmp rfl _ _ w.heap.size _ _ _ _ rfl HB7.out Try.underlying23 rfl (by rw [List.size_toArray]; exact HSZ.out)) rfl ⟨?_, ?_⟩
    · rw [show (poolB []).1.map vb = zp from HZP.out]; rfl
    · exact HK.out.trans' HK7.out (U := noBlk) (fun _ _ h => h) (fun i hi h => by omega)

theorem rpool_any (w : World) (v : Value) (l : List Lab) (ho : LabsOk l) (hr : Rd w 37 v l.length (labCells l)) (hl : l.length ≤ 65536) : Calls Try.prog 24 #[v] w (RPoolPost w l) := by
  obtain ⟨a, cap, rfl, -, -⟩ := hr.form
  rcases Nat.eq_zero_or_pos l.length with h0 | h0
  · obtain rfl : l = [] := List.eq_nil_of_length_eq_zero h0
    exact rpool_none w a cap
  · have hr' := hr
    obtain ⟨_, a', cap', hv, _, _, _, h4⟩ := hr
    cases hv
    obtain ⟨g, o, rfl, _⟩ := h4 (by rw [labCells_len ho]; omega)
    exact rpool_some w g o cap l ho hr' hl h0
end Go.Proofs.Ytdlegbcdmlmbpaa
