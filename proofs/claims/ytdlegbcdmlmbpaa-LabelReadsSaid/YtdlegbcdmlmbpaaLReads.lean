/-
  LabelReads: what a list of bytes is read as is the same for the program and the reference, and the bytes stay.
  Conditions: none but those of the given statement.
-/
import Derived.Test.YtdlegbcdmlmbpaaAwake
import Derived.Test.YtdlegbcdmlmbpaaRunpack
import Derived.Test.YtdlegbcdmlmbpaaLent
namespace Go.Proofs.Ytdlegbcdmlmbpaa
open Go.RowKit
set_option maxRecDepth 100000

theorem unpackR_pool (b : List UInt8) : (unpackR b).1.pool.length = 32 := by
  unfold unpackR
  split
  · rfl
  split
  · rfl
  split
  · exact labOf_pool b (by omega)
  · rfl

set_option maxHeartbeats 4000000 in
theorem labelReads_long (w : World) (bv : Value) (b : List UInt8) (hr : Rd w 1 bv b.length (b.map vb)) (hl : 1000 < b.length) : Calls Try.prog 4 #[bv] w (TherePost w true) := by
  obtain ⟨a, c, rfl, -, -⟩ := hr.form
  clear hr
  have ht : decide ((1000 : Int) < (b.length : Int)) = true := decide_eq_true (by omega)
  go_enter Try.func4, Try.ntmps4
  go_wp2_with fail
  refine (awake_any w).mono ?_
  rintro e w8 ⟨rfl, hk8⟩
  have HK8 := Lib.hid hk8; clear hk8
  go_wp2_with fail
  go_ret
  exact ⟨rfl, HK8.out⟩

set_option maxHeartbeats 4000000 in
theorem labelReads_short (w : World) (bv : Value) (b : List UInt8) (hr : Rd w 1 bv b.length (b.map vb)) (hl : ¬ 1000 < b.length) : Calls Try.prog 4 #[bv] w (TherePost w true) := by
  obtain ⟨a, c, rfl, -, -⟩ := hr.form
  have ht : decide ((1000 : Int) < (b.length : Int)) = false := decide_eq_false (by omega)
  have hm : b.length ≤ 65536 := by omega
  obtain ⟨L, er, hU, hL⟩ : ∃ L er, unpackR b = (L, er) ∧ L.pool.length = 32 := ⟨_, _, rfl, unpackR_pool b⟩
  obtain ⟨lc, hlc⟩ : ∃ lc, L.cells = lc := ⟨_, rfl⟩
  have hlcl : lc.length = 37 := by rw [← hlc]; exact L.cells_length hL
  have hlco : ∀ u ∈ lc, u.oneCell' = true := by rw [← hlc]; exact oneCell_lab L
  have heq := eqLab L L hL hL
  have CL := fun w (h : Rd w 1 (.slice a b.length c) b.length (b.map vb)) => lent_any w (.slice a b.length c) b h hm
  have CU := fun w g (h : IsLent w g b) => unpack_any w _ b (h.rd hm) hm
  have CR := fun w (h : Rd w 1 (.slice a b.length c) b.length (b.map vb)) => runpack_any w (.slice a b.length c) b h hm
  have CK := fun w (h : Rd w 1 (.slice a b.length c) b.length (b.map vb)) g (hg : IsLent w g b) => kept_any w (.slice a b.length c) b h hm g hg
  rw [hU] at CU CR
  obtain ⟨zc, hzc, hzl⟩ : ∃ zc, zeroLab.cells = zc ∧ zc.length = 37 := ⟨_, rfl, rfl⟩
  have hzv : ∀ w, (zeroValue 25).run Try.prog w = .ok (.agg zc.toArray) w := by rw [← hzc]; exact zeroValLab
  have HR := Lib.hid hr
  obtain ⟨n, hn⟩ : ∃ n, b.length = n := ⟨_, rfl⟩
  rw [hn] at ht CL CU CR CK HR ⊢
  rw [hlc] at heq
  have HCL := Lib.hid CL; have HCU := Lib.hid CU; have HCR := Lib.hid CR; have HCK := Lib.hid CK; have HEQ := Lib.hid heq; have HLC := Lib.hid hlc; have HN := Lib.hid hn
  clear hr CL CU CR CK heq hlc hU hl hzc hn
  have heq := HEQ.out
  simp only [decide_true, Bool.and_true] at heq
  go_enter Try.func4, Try.ntmps4
  go_wp2_with fail
  refine (HCL.out w HR.out).mono ?_
  rintro e w1 ⟨g, rfl, hg1, hk1, -⟩
  have HG1 := Lib.hid hg1; have HK1 := Lib.hid hk1
  rw [HN.out]
  clear hg1 hk1
  go_wp2_with fail
  refine (HCU.out w1 g HG1.out).mono ?_
  rintro e w2 ⟨rfl, hk2⟩
  rw [show (L, er).1.cells = lc from HLC.out]
  have HK2 := Lib.hid (HK1.out.trans hk2); have HG2 := Lib.hid (HG1.out.keep hk2 id)
  clear hk2
  go_wp2_with (first
    | (refine wpList_alloc_at rfl 25 rfl _ hzv zc.toArray rfl ?_)
    | ((with_reducible show wpList _ _ _ (⟨none, .store 25 (.tmp 4) (.tmp 17), _, _, _, _⟩ :: _) _ _); refine wpList_store_agg rfl 25 (.tmp 4) (.tmp 17) rfl w2.heap.size 0 lc rfl rfl zc.toArray _ (heap_alloc_new _ _) (by rw [hlcl, List.size_toArray, hzl]; exact Nat.le_refl _) (by rw [hlcl]; exact sizeLab) hlco ?_; intro w3 hb3 hk3; have HB3 := Lib.hid hb3; have HK3 := Lib.hid hk3; clear hb3 hk3))
  obtain ⟨b4, hb4⟩ : ∃ b4, w2.heap.size = b4 := ⟨_, rfl⟩
  have hlab : w3.heap[b4]? = some (.cells lc.toArray 25 (0, 0)) := by
    have := HB3.out
    rw [spl_whole _ _ (by rw [hlcl, List.size_toArray, hzl]), hb4] at this
    exact this
  have hk3 : Keep noBlk w2 w3 := ((Keep.refl noBlk w2).alloc _).trans' HK3.out (fun _ _ h => h) (fun i hi e => by omega)
  rw [hb4]
  have HL3 := Lib.hid hlab; have HKA := Lib.hid (HK2.out.trans hk3); have HGA := Lib.hid (HG2.out.keep hk3 id)
  clear hb4 HB3 HK3 hk3 hlab
  go_wp2_with fail
  refine (HCR.out w3 (HR.out.keep HKA.out fun _ _ => id)).mono ?_
  rintro e w4 ⟨rfl, hk4⟩
  rw [show (L, er).1.cells = lc from HLC.out]
  have HK4 := Lib.hid (HKA.out.trans hk4); have HG4 := Lib.hid (HGA.out.keep hk4 id); have HL4 := Lib.hid (hk4.blk HL3.out id)
  clear hk4
  go_wp2_with (first
    | (refine wpList_alloc_at rfl 25 rfl _ hzv zc.toArray rfl ?_)
    | ((with_reducible show wpList _ _ _ (⟨none, .store 25 (.tmp 6) (.tmp 22), _, _, _, _⟩ :: _) _ _); refine wpList_store_agg rfl 25 (.tmp 6) (.tmp 22) rfl w4.heap.size 0 lc rfl rfl zc.toArray _ (heap_alloc_new _ _) (by rw [hlcl, List.size_toArray, hzl]; exact Nat.le_refl _) (by rw [hlcl]; exact sizeLab) hlco ?_; intro w5 hb5 hk5
       have hk45 : Keep noBlk w4 w5 := ((Keep.refl noBlk w4).alloc _).trans' hk5 (fun _ _ h => h) (fun i hi e => by omega)
       rw [spl_whole _ _ (by rw [hlcl, List.size_toArray, hzl])] at hb5
       have HL5 := Lib.hid hb5; have HKB := Lib.hid (HK4.out.trans hk45); have HGB := Lib.hid (HG4.out.keep hk45 id); have HM5 := Lib.hid (hk45.blk HL4.out id)
       clear hb5 hk5 hk45)
    | (refine wpList_load_g (by rfl) 25 (.tmp 4) rfl b4 0 rfl lc _ (rangeAt_whole HM5.out) Try.underlying25 rfl (by rw [hlcl]; exact sizeLab) ?_)
    | (refine wpList_load_g (by rfl) 25 (.tmp 6) rfl w4.heap.size 0 rfl lc _ (rangeAt_whole HL5.out) Try.underlying25 rfl (by rw [hlcl]; exact sizeLab) ?_))
  refine (HCK.out w5 (HR.out.keep HKB.out fun _ _ => id) g HGB.out).mono ?_
  rintro e w6 ⟨rfl, hk6⟩
  have HK6 := Lib.hid (HKB.out.trans hk6); clear hk6
  go_wp2_with fail
  refine (awake_any w6).mono ?_
  rintro e w8 ⟨rfl, hk8⟩
  have HK8 := Lib.hid (HK6.out.trans hk8); clear hk8
  go_wp2_with fail
  go_ret
  exact ⟨rfl, HK8.out⟩

theorem labelReads_walk (w : World) (bv : Value) (b : List UInt8) (hr : Rd w 1 bv b.length (b.map vb)) : Calls Try.prog 4 #[bv] w (TherePost w true) := by
  by_cases h : 1000 < b.length
  · exact labelReads_long w bv b hr h
  · exact labelReads_short w bv b hr h
end Go.Proofs.Ytdlegbcdmlmbpaa
