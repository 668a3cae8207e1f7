/-
  The document's Less and Pool: the pools of labels gone through one by one.
  Conditions: IDs of 32 bytes; at most 65,536 labels.
-/
import Derived.Test.YtdlegbcdmlmbpaaPool1
namespace Go.Proofs.Ytdlegbcdmlmbpaa
open Go.RowKit
set_option maxRecDepth 100000
set_option linter.unusedVariables false

theorem cmp_prefix : ∀ (p a b : List UInt8), Lib.compareBytes (p ++ a) (p ++ b) = Lib.compareBytes a b
  | [], _, _ => rfl
  | x :: p, a, b => by
    rw [List.cons_append, List.cons_append]
    have e : Lib.compareBytes (x :: (p ++ a)) (x :: (p ++ b)) = if x < x then -1 else if x < x then 1 else Lib.compareBytes (p ++ a) (p ++ b) := rfl
    rw [e, if_neg (UInt8.lt_irrefl x), if_neg (UInt8.lt_irrefl x)]
    exact cmp_prefix p a b
theorem idLt_at {a b : List UInt8} {k : Nat} (h : a.take k = b.take k) {x y : UInt8} (hx : a[k]? = some x) (hy : b[k]? = some y) (hne : x ≠ y) : idLt a b = decide (x < y) := by
  have ea : a = a.take k ++ x :: a.drop (k + 1) := by
    have := (List.take_append_drop k a).symm
    rw [List.drop_eq_getElem_cons (List.getElem?_eq_some_iff.1 hx).1, (List.getElem?_eq_some_iff.1 hx).2] at this
    exact this
  have eb : b = a.take k ++ y :: b.drop (k + 1) := by
    have := (List.take_append_drop k b).symm
    rw [List.drop_eq_getElem_cons (List.getElem?_eq_some_iff.1 hy).1, (List.getElem?_eq_some_iff.1 hy).2, ← h] at this
    exact this
  have e : Lib.compareBytes a b = if x < y then -1 else if y < x then 1 else Lib.compareBytes (a.drop (k + 1)) (b.drop (k + 1)) := by
    have := cmp_prefix (a.take k) (x :: a.drop (k + 1)) (y :: b.drop (k + 1))
    rw [← ea, ← eb] at this
    exact this
  unfold idLt
  rw [e]
  by_cases hlt : x < y
  · rw [if_pos hlt, decide_eq_true hlt]; rfl
  · rw [if_neg hlt, if_pos (UInt8.lt_of_le_of_ne (UInt8.not_lt.1 hlt) (Ne.symm hne)), decide_eq_false hlt]; rfl

set_option maxHeartbeats 1000000 in
theorem rless_any (a b : List UInt8) (ha : a.length = 32) (hb : b.length = 32) (w : World) : Calls Try.prog 62 #[.agg (a.map vb).toArray, .agg (b.map vb).toArray] w (TherePost w (idLt a b)) := by
  obtain ⟨w1, hw1, hk1, hb1, hs1⟩ := alloc_facts w (a.map vb).toArray 23
  obtain ⟨w2, hw2, hk2, hb2, hs2⟩ := alloc_facts w1 (b.map vb).toArray 23
  rw [hs1] at hb2
  have HB1 := Lib.hid (hk2.blk hb1 id); have HB2 := Lib.hid hb2; have HK := Lib.hid (hk1.trans hk2)
  have HA := Lib.hid ha; have HBL := Lib.hid hb
  obtain ⟨av, hav⟩ : ∃ av, (a.map vb).toArray = av := ⟨_, rfl⟩
  obtain ⟨bv, hbv⟩ : ∃ bv, (b.map vb).toArray = bv := ⟨_, rfl⟩
  rw [hav, hbv]
  rw [hav] at hw1 HB1; rw [hbv] at hw2 HB2
  have HAV := Lib.hid hav; have HBV := Lib.hid hbv
  clear hk1 hb1 hk2 hb2 ha hb hav hbv
  go_enter Try.func62, Try.ntmps62
  go_wp2_with fail
  clear hw1 hw2
  go_loopw [5] (fun i wr => ∃ k : Nat, k ≤ 32 ∧ i = .int .i64 k ∧ Hid (a.take k = b.take k) ∧ Hid (Keep noBlk w2 wr)) (fun i _ => 32 - (intOf i).toNat)
  case atStart => exact ⟨0, by omega, rfl, Lib.hid rfl, Lib.hid (Keep.refl _ _)⟩
  case round =>
    obtain ⟨k, hk, rfl, HT, HKR⟩ := hrel
    by_cases hlt : k < 32
    · obtain ⟨x, hx⟩ : ∃ x, a[k]? = some x := ⟨a[k]'(by rw [HA.out]; exact hlt), List.getElem?_eq_getElem _⟩
      obtain ⟨y, hy⟩ : ∃ y, b[k]? = some y := ⟨b[k]'(by rw [HBL.out]; exact hlt), List.getElem?_eq_getElem _⟩
      have hcx : wr.cell? ⟨w.heap.size, k, none⟩ = some (.int .u8 (x.toNat : Int)) := blk_cell (HKR.out.blk HB1.out id) (by rw [← HAV.out, List.getElem?_toArray, List.getElem?_map, hx]; rfl)
      have hcy : wr.cell? ⟨w.heap.size + 1, k, none⟩ = some (.int .u8 (y.toNat : Int)) := blk_cell (HKR.out.blk HB2.out id) (by rw [← HBV.out, List.getElem?_toArray, List.getElem?_map, hy]; rfl)
      have hk0 : (0 : Int) ≤ (k : Int) := by omega
      have hk1 : (k : Int) < 32 := by omega
      have HX := Lib.hid hx; have HY := Lib.hid hy
      clear hx hy
      by_cases hxy : x = y
      · have hT' : a.take (k + 1) = b.take (k + 1) := by
          rw [List.take_add_one, List.take_add_one, HT.out, HX.out, HY.out, hxy]
        have HT' := Lib.hid hT'
        have hne : (((x.toNat : Int)) != ((y.toNat : Int))) = false := by rw [hxy]; simp
        generalize (x.toNat : Int) = X at *
        generalize (y.toNat : Int) = Y at *
        clear hT' hxy
        go_wp2_with fail
        go_quiet (fail)
        go_wp2_with fail
        go_roundw
        case rel => exact ⟨k + 1, by omega, by go_num, HT', Lib.hid (HKR.out.drewN _)⟩
        case measure => simp [intOf]; omega
      · have hne : (((x.toNat : Int)) != ((y.toNat : Int))) = true := by
          rw [bne_iff_ne]
          intro e
          exact hxy (UInt8.toNat_inj.1 (by omega))
        have hres : idLt a b = decide ((x.toNat : Int) < (y.toNat : Int)) := by
          rw [idLt_at HT.out HX.out HY.out hxy]
          congr 1
          rw [UInt8.lt_iff_toNat_lt]
          exact propext ⟨fun h => by omega, fun h => by omega⟩
        have HRES := Lib.hid hres
        generalize (x.toNat : Int) = X at *
        generalize (y.toNat : Int) = Y at *
        clear hres hxy
        go_wp2_with fail
        go_quiet (fail)
        obtain ⟨wq, hcx2, hcy2, hkq, hwq⟩ : ∃ wq : World, wq.cell? ⟨w.heap.size, k, none⟩ = some (.int .u8 X) ∧ wq.cell? ⟨w.heap.size + 1, k, none⟩ = some (.int .u8 Y) ∧ Keep noBlk w2 wq ∧ wr.drewN nq = wq := ⟨wr.drewN nq, hcx, hcy, HKR.out.drewN _, rfl⟩
        have HKQ := Lib.hid hkq
        go_wp2_with fail
        rw [hwq]
        clear hwq hcx hcy hkq
        go_quiet (fail)
        go_wp2_with fail
        go_ret
        exact ⟨by rw [HRES.out]; rfl, (HK.out.trans HKQ.out).drewN _⟩
    · obtain rfl : k = 32 := by omega
      have hab : a = b := by
        have := HT.out
        rw [List.take_of_length_le (by rw [HA.out]; exact Nat.le_refl _), List.take_of_length_le (by rw [HBL.out]; exact Nat.le_refl _)] at this
        exact this
      have hres : idLt a b = false := by rw [hab]; exact idLt_irrefl b
      have HRES := Lib.hid hres
      clear hres hab
      go_wp2_with fail
      go_ret
      exact ⟨by rw [HRES.out]; rfl, HK.out.trans HKR.out⟩
end Go.Proofs.Ytdlegbcdmlmbpaa
