/-
  uber.Unpack.
  Conditions: those told.
-/
import Derived.Test.YtaiicjhnhbkgmaaGreatDoorStepsU
import Derived.Test.YtaiicjhnhbkgmaaGreatDoorBytes
import Derived.Test.YtaiicjhnhbkgmaaGreatDoorCopy
import Derived.Test.YtaiicjhnhbkgmaaGreatDoorRwords
import Derived.Test.YtaiicjhnhbkgmaaGreatDoorPtrN
import Derived.Test.YtaiicjhnhbkgmaaGreatDoorPtrH
namespace Go.Proofs.YtaiicjhnhbkgmaaGreatDoor
open Go.RowKit Go.Maps Go.ChangeMaps
set_option maxRecDepth 100000
set_option linter.unusedVariables false

def UUnpackPost (w : World) (r : Ub × Int) (e : Ending) (w' : World) : Prop :=
  ∃ v, e = .returned (.tuple #[.agg (ubCs v r.1).toArray, .int .i64 r.2]) ∧ w'.ownsRow w.heap.size 70 2 v r.1.root.addrs.length (adCells r.1.root.addrs) ∧ Keep noBlk w w'
theorem zeroValUb (w : World) : (zeroValue 36).run Tryz.prog w = .ok (.agg (ubCs (.slice none 0 0) zUb).toArray) w := by kernel_rfl
theorem buildUbZ (w : World) : (Instr.build 36 #[]).run Tryz.prog w = .ok (.agg (ubCs (.slice none 0 0) zUb).toArray) w := by kernel_rfl
theorem buildSteps (w : World) (p : Nat) : (Instr.build 106 #[(0, .pointer (some ⟨p, 0, none⟩))]).run Tryz.prog w = .ok (.agg (stCs p (.slice none 0 0) zUb .nilIface).toArray) w := by kernel_rfl
theorem oneCell_ub {oa : Option Addr} {n ca : Nat} (u : Ub) : ∀ x ∈ ubCs (.slice oa n ca) u, x.oneCell' = true := by
  intro x hx
  unfold ubCs at hx
  simp only [List.mem_cons, List.mem_append] at hx
  rcases hx with rfl | hx | rfl | hx
  · rfl
  · exact oneCell_pt _ x hx
  · rfl
  · exact oneCell_vb _ x hx
theorem rd_zerosU {w : World} {v : Value} {n : Nat} {base : Nat} (h : w.ownsRow base 5 1 v n (List.replicate n (.int .u8 0))) : Rd w 1 v (List.replicate n (0 : UInt8)).length ((List.replicate n (0 : UInt8)).map vb) := by
  have := Rd.of_owns h
  rw [List.length_replicate, List.map_replicate]
  exact this
set_option maxHeartbeats 1000000 in
theorem uunpack_len (w : World) (bv : Value) (b : List UInt8) (hr : Rd w 1 bv b.length (b.map vb)) (hb : b.length ≤ 65536) (hl : b.length ≠ 256) :
    Calls Tryz.prog 44 #[bv] w (UUnpackPost w (zUb, 4)) := by
  obtain ⟨a, c, rfl, -, -⟩ := hr.form
  clear hr
  obtain ⟨zc, hzc, hzl, hzo⟩ : ∃ zc, ubCs (.slice none 0 0) zUb = zc ∧ zc.length = 69 ∧ ∀ u ∈ zc, u.oneCell' = true := ⟨_, rfl, rfl, oneCell_ub _⟩
  have hzv : ∀ w, (zeroValue 36).run Tryz.prog w = .ok (.agg zc.toArray) w := by rw [← hzc]; exact zeroValUb
  have hbd : ∀ w, (Instr.build 36 #[]).run Tryz.prog w = .ok (.agg zc.toArray) w := by rw [← hzc]; exact buildUbZ
  have HZ := Lib.hid hzc; clear hzc
  have ht : ((b.length : Int) != 256) = true := by simp; omega
  go_enter Tryz.func44, Tryz.ntmps44
  go_wp2_with (first
    | (refine wpList_alloc_at rfl 36 rfl _ hzv zc.toArray rfl ?_)
    | ((with_reducible show wpList _ _ _ (⟨none, .store 36 (.tmp 2) (.tmp 11), _, _, _, _⟩ :: _) _ _); refine wpList_store_agg rfl 36 (.tmp 2) (.tmp 11) rfl w.heap.size 0 zc rfl rfl _ _ (heap_alloc_new _ _) (by simp) (sizeUbL hzl) hzo ?_; intro w2 hb2 hk2; have HB2 := Lib.hid hb2; have HK2 := Lib.hid hk2; clear hb2 hk2))
  refine bodyPost_ret (results_cell_row_tmp rfl _ _ w.heap.size _ _ _ _ rfl HB2.out ubUnder rfl (by rw [spl_size, List.size_toArray]; exact sizeUbL hzl)) rfl ⟨.slice none 0 0, ?_, World.ownsRow_nil _ _ _ _, ?_⟩
  · rw [spl_whole _ _ (by simp), HZ.out]; rfl
  · exact ((Keep.refl noBlk w).alloc _).trans' HK2.out (fun _ _ h => h) (fun i hi e => by omega)
set_option maxHeartbeats 4000000 in
theorem uunpack_zero (w : World) (bv : Value) (b : List UInt8) (hr : Rd w 1 bv b.length (b.map vb)) (hl : b.length = 256) (hz : b = List.replicate 256 0) :
    Calls Tryz.prog 44 #[bv] w (UUnpackPost w (unpackU b)) := by
  have hlt : ∀ g, bv.ownBlock = some g → g < w.heap.size := by
    obtain ⟨k, hk, hk2⟩ := hr.lt (by simp; omega)
    intro g hg
    rw [hg] at hk; cases hk; exact hk2
  obtain ⟨a, c, hv, -, -⟩ := hr.form
  rw [hl] at hv
  subst hv
  have HR := Lib.hid hr
  clear hr
  obtain ⟨zc, hzc, hzl, hzo⟩ : ∃ zc, ubCs (.slice none 0 0) zUb = zc ∧ zc.length = 69 ∧ ∀ u ∈ zc, u.oneCell' = true := ⟨_, rfl, rfl, oneCell_ub _⟩
  have hzv : ∀ w, (zeroValue 36).run Tryz.prog w = .ok (.agg zc.toArray) w := by rw [← hzc]; exact zeroValUb
  have hbd : ∀ w, (Instr.build 36 #[]).run Tryz.prog w = .ok (.agg zc.toArray) w := by rw [← hzc]; exact buildUbZ
  have HZ := Lib.hid hzc; clear hzc
  have HL := Lib.hid hl
  clear hl
  go_enter Tryz.func44, Tryz.ntmps44
  go_wp2_with (first
    | (refine wpList_alloc_at rfl 36 rfl _ hzv zc.toArray rfl ?_)
    | ((with_reducible show wpList _ _ _ (⟨some 14, .makeSlice _ _ _, _, _, _, _⟩ :: _) _ _); refine wpList_make_one rfl (.const (.int .i64 256)) (.const (.int .i64 256)) 51 rfl w.heap.size 5 (.int .u8 0) 1 Tryz.underlying51 infoU8 rfl 256 rfl rfl (by omega) (by unfold maxLen; omega) (by simp) ?_; intro w2 hown2 hk2; rw [World.size_alloc] at hown2; have HO2 := Lib.hid (rd_zerosU hown2); have HK2 := Lib.hid hk2; clear hown2 hk2))
  have hkw2 : Keep noBlk w w2 := ((Keep.refl noBlk w).alloc _).trans HK2.out
  have hres : w2.heap[w.heap.size]? = some (.cells zc.toArray 36 (0, 0)) := HK2.out.blk (heap_alloc_new _ _) id
  have HRES := Lib.hid hres; have HKW2 := Lib.hid hkw2
  clear hres hkw2
  refine (beq_any w2 _ _ b (List.replicate 256 0) (HR.out.keep HKW2.out fun _ _ => id) HO2.out true (decide_eq_true hz)).mono ?_
  rintro e w3 ⟨rfl, rfl⟩
  have HUR := Lib.hid (show unpackU b = (zUb, 6) by unfold unpackU; rw [if_neg (by rw [HL.out]; simp), if_pos hz])
  clear hz
  go_wp2_with (first
    | ((with_reducible show wpList _ _ _ (⟨none, .store 36 (.tmp 2) (.tmp 16), _, _, _, _⟩ :: _) _ _); refine wpList_store_agg rfl 36 (.tmp 2) (.tmp 16) rfl w.heap.size 0 zc rfl rfl _ _ HRES.out (by simp) (sizeUbL hzl) hzo ?_; intro w4 hb4 hk4; have HB4 := Lib.hid hb4; have HK4 := Lib.hid hk4; clear hb4 hk4))
  refine bodyPost_ret (results_cell_row_tmp rfl _ _ w.heap.size _ _ _ _ rfl HB4.out ubUnder rfl (by rw [spl_size, List.size_toArray]; exact sizeUbL hzl)) rfl ?_
  rw [HUR.out]
  refine ⟨.slice none 0 0, ?_, World.ownsRow_nil _ _ _ _, ?_⟩
  · rw [spl_whole _ _ (by simp), HZ.out]; rfl
  · exact HKW2.out.trans' HK4.out (fun _ _ h => h) (fun i hi e => by omega)

end Go.Proofs.YtaiicjhnhbkgmaaGreatDoor

/-
  uber.Unpack of a sector that is not all noughts.
  Conditions: those told.
-/
namespace Go.Proofs.YtaiicjhnhbkgmaaGreatDoor
open Go.RowKit Go.Maps Go.ChangeMaps
set_option maxRecDepth 100000
set_option linter.unusedVariables false
theorem errIs_0y {w : World} {aF aR a : Addr} (g : ErrG w aF aR) (hb : ∃ c t, w.heap[a.block]? = some (.cells c t (0, 0))) (he : aR = a) {j : Nat} (h : JoinIs w j [esV aR]) : Calls Tryz.prog 74 #[jeV j, esV a] w (TherePost w true) := by
  have h2 := errIs_0 g hb h
  rwa [decide_eq_true he] at h2
theorem errIs_0n {w : World} {aF aR a : Addr} (g : ErrG w aF aR) (hb : ∃ c t, w.heap[a.block]? = some (.cells c t (0, 0))) (he : ¬ aR = a) {j : Nat} (h : JoinIs w j [esV aR]) : Calls Tryz.prog 74 #[jeV j, esV a] w (TherePost w false) := by
  have h2 := errIs_0 g hb h
  rwa [decide_eq_false he] at h2
theorem stepsZero (p : Nat) : Tryz.zeroCells106.setIfInBounds 0 (.pointer (some ⟨p, 0, none⟩)) = (stCs p (.slice none 0 0) zUb .nilIface).toArray := by kernel_rfl
set_option maxHeartbeats 8000000 in
theorem uunpack_nums (w : World) (aF aR : Addr) (hg : ErrG w aF aR) (bv : Value) (b : List UInt8) (hr : Rd w 1 bv b.length (b.map vb)) (hl : b.length = 256) (hz : ¬ b = List.replicate 256 0) (hn0 : ¬ numsOk b) :
    Calls Tryz.prog 44 #[bv] w (UUnpackPost w (unpackU b)) := by
  have hlt : ∀ g, bv.ownBlock = some g → g < w.heap.size := by
    obtain ⟨k, hk, hk2⟩ := hr.lt (by simp; omega)
    intro g hg
    rw [hg] at hk; cases hk; exact hk2
  obtain ⟨a, c, hv, -, -⟩ := hr.form
  rw [hl] at hv
  subst hv
  have HR := Lib.hid hr
  clear hr
  obtain ⟨zc, hzc, hzl, hzo⟩ : ∃ zc, ubCs (.slice none 0 0) zUb = zc ∧ zc.length = 69 ∧ ∀ u ∈ zc, u.oneCell' = true := ⟨_, rfl, rfl, oneCell_ub _⟩
  have hzv : ∀ w, (zeroValue 36).run Tryz.prog w = .ok (.agg zc.toArray) w := by rw [← hzc]; exact zeroValUb
  have hbd : ∀ w, (Instr.build 36 #[]).run Tryz.prog w = .ok (.agg zc.toArray) w := by rw [← hzc]; exact buildUbZ
  have HZ := Lib.hid hzc; clear hzc
  have HL := Lib.hid hl
  clear hl
  have HZN := Lib.hid hz
  go_enter Tryz.func44, Tryz.ntmps44
  go_wp2_with (first
    | (refine wpList_alloc_at rfl 36 rfl _ hzv zc.toArray rfl ?_)
    | ((with_reducible show wpList _ _ _ (⟨some 14, .makeSlice _ _ _, _, _, _, _⟩ :: _) _ _); refine wpList_make_one rfl (.const (.int .i64 256)) (.const (.int .i64 256)) 51 rfl w.heap.size 5 (.int .u8 0) 1 Tryz.underlying51 infoU8 rfl 256 rfl rfl (by omega) (by unfold maxLen; omega) (by simp) ?_; intro w2 hown2 hk2; rw [World.size_alloc] at hown2; have HO2 := Lib.hid (rd_zerosU hown2); have HK2 := Lib.hid hk2; clear hown2 hk2))
  obtain ⟨w1, hw1⟩ : ∃ w1, w.alloc (.cells zc.toArray 36) = w1 := ⟨_, rfl⟩
  have HK1 : Hid (Keep noBlk w w1) := Lib.hid (by rw [← hw1]; exact (Keep.refl _ _).alloc _)
  have HRES : Hid (w1.heap[w.heap.size]? = some (.cells zc.toArray 36 (0, 0))) := Lib.hid (by rw [← hw1]; exact heap_alloc_new _ _)
  have HG1 := Lib.hid (hg.keep HK1.out)
  clear hg
  rw [hw1] at HK2
  refine (beq_any w2 _ _ b (List.replicate 256 0) (HR.out.keep (HK1.out.trans HK2.out) fun _ _ => id) HO2.out false (decide_eq_false hz)).mono ?_
  rintro e w3 ⟨rfl, rfl⟩
  clear hz HO2 hw1
  go_wp2_with fail
  refine (ropen_any _ b w2 (HR.out.keep (HK1.out.trans HK2.out) fun _ _ => id) (by rw [HL.out]; omega)).mono ?_
  rintro e w3 ⟨p, v, rfl, hrd, hk3⟩
  have H4 : Hid (StW w1 (w3.alloc (.cells (stCs p (.slice none 0 0) zUb .nilIface).toArray 106)) w3.heap.size w2.heap.size p v b 0 0 0 (.slice none 0 0) zUb .nilIface) :=
    Lib.hid ⟨heap_alloc_new _ _, hrd.keep ((Keep.refl noBlk w3).alloc _) id (fun _ _ => id), rfl, rfl, (HK2.out.trans hk3).trans ((Keep.refl noBlk w3).alloc _), HK2.out.size, (HK2.out.trans hk3).size⟩
  obtain ⟨sb, hsb⟩ : ∃ x, w3.heap.size = x := ⟨_, rfl⟩
  clear hrd hk3
  go_wp2_with fail
  rw [stepsZero]
  rw [hsb] at H4
  refine (begins_any w1 _ sb w2.heap.size p v b _ _ _ H4.out HL.out).mono ?_
  rintro e w5 ⟨rfl, h5⟩
  clear H4 hsb
  go_wp2_with fail
  refine (numbers_any w1 w5 sb w2.heap.size p v b _ _ _ h5 HL.out).mono ?_
  rintro e w6 ⟨rfl, at2, fe, fa, x, y, h6, hn⟩
  clear h5
  go_wp2_with fail
  have hfe : fe ≠ 0 := by rw [if_neg hn0] at hn; exact hn
  have HUR := Lib.hid (unpackU_bad HL.out HZN.out (.inl hn0))
  clear hn hn0
  refine (points_bad w1 w6 sb w2.heap.size p v b _ _ at2 at2 fe fa fe fa [] aR HG1.out.r rfl h6 (rawroot_no w1 w6 sb w2.heap.size p v b _ _ _ at2 fe fa hfe)).mono ?_
  rintro e w7 ⟨rfl, j0, h7, hj0⟩
  clear h6
  go_wp2_with fail
  refine (ends_bad w1 w7 sb w2.heap.size p v b _ _ at2 fe fa hfe j0 _ aF HG1.out.f hj0 h7).mono ?_
  rintro e w8 ⟨rfl, j1, h8, hj1, hj0b⟩
  have H8 := Lib.hid h8; have HJ0 := Lib.hid hj0b; have HJ1 := Lib.hid hj1
  clear h8 hj0b hj1 h7 hj0
  go_wp2_with fail
  obtain ⟨S, hS0⟩ : ∃ S : World → Prop, S = fun w' => Keep noBlk w8 w' := ⟨_, rfl⟩
  have HSK := Lib.hid (show ∀ w', S w' → Keep noBlk w8 w' from fun w' h => by rw [hS0] at h; exact h)
  have HSI := Lib.hid (show ∀ w', Keep noBlk w8 w' → S w' from fun w' h => by rw [hS0]; exact h)
  have HS70 := Lib.hid (show ∀ w', S w' → w'.cell? ⟨sb, 70, none⟩ = some (jeV j1) from fun w' h => by rw [hS0] at h; exact blk_cell (H8.out.same h).st (stCs_er _ _ _ _ H8.out.pool H8.out.sum))
  have HSF := Lib.hid (show ∀ w', S w' → w'.cell? ⟨0, 0, none⟩ = some (esV aF) from fun w' h => by rw [hS0] at h; exact (HG1.out.keep (H8.out.keep.trans h)).f)
  have HSR := Lib.hid (show ∀ w', S w' → w'.cell? ⟨1, 0, none⟩ = some (esV aR) from fun w' h => by rw [hS0] at h; exact (HG1.out.keep (H8.out.keep.trans h)).r)
  clear hS0
  have hS := HSI.out _ (Keep.refl noBlk w8).drew
  refine wp_region_held (S := S) (by kernel_rfl) ?_
  change wpAnyH _ _ _ _ _ _ _ _ w8.drew
  generalize w8.drew = wa at hS ⊢
  refine tka 0 (.pointer (some ⟨sb, 0, none⟩)) rfl hS ?_
  simp only [Act.put, List.setIfInBounds_toArray, List.set_cons_zero, List.set_cons_succ, List.getElem_toArray, List.getElem_cons_zero]
  refine tkb 1 (.pointer (some ⟨sb, 0, none⟩)) rfl hS ?_
  simp only [Act.put, List.setIfInBounds_toArray, List.set_cons_zero, List.set_cons_succ, List.getElem_toArray, List.getElem_cons_succ, List.getElem_cons_zero]
  refine tkb 2 (.pointer (some ⟨sb, 70, none⟩)) rfl hS ?_
  simp only [Act.put, List.setIfInBounds_toArray, List.set_cons_zero, List.set_cons_succ, List.getElem_toArray, List.getElem_cons_succ, List.getElem_cons_zero]
  refine tkd 3 (jeV j1) rfl (.inl ⟨by rfl, fun w' hw' => by have c := HS70.out w' hw'; go_simp⟩) hS ?_
  simp only [Act.put, List.setIfInBounds_toArray, List.set_cons_zero, List.set_cons_succ, List.getElem_toArray, List.getElem_cons_succ, List.getElem_cons_zero]
  refine tkd 4 (esV aF) rfl (.inl ⟨by rfl, fun w' hw' => by have c := HSF.out w' hw'; go_simp⟩) hS ?_
  simp only [Act.put, List.setIfInBounds_toArray, List.set_cons_zero, List.set_cons_succ, List.getElem_toArray, List.getElem_cons_succ, List.getElem_cons_zero]
  refine wpAnyH_one (k := 5) rfl (by kernel_rfl) ?_
  go_wp2_with fail
  refine (errIs_1 (HG1.out.keep (H8.out.keep.trans (HSK.out _ hS))) (HJ0.out.same (HSK.out _ hS)) (HJ1.out.same (HSK.out _ hS))).mono ?_
  rintro e wb ⟨rfl, hk⟩
  have hS2 := HSI.out _ ((HSK.out _ hS).trans hk)
  clear hS hk
  go_wp2_with fail
  refine ⟨hS2, ?_⟩
  refine tka 6 (.bool true) rfl hS2 ?_
  simp only [Act.put, List.setIfInBounds_toArray, List.set_cons_zero, List.set_cons_succ, List.getElem_toArray, List.getElem_cons_succ, List.getElem_cons_zero]
  refine tkc 7 undef rfl hS2 ?_
  simp only [Act.put, List.setIfInBounds_toArray, List.set_cons_zero, List.set_cons_succ, List.getElem_toArray, List.getElem_cons_succ, List.getElem_cons_zero]
  refine tkc 8 undef rfl hS2 ?_
  simp only [Act.put, List.setIfInBounds_toArray, List.set_cons_zero, List.set_cons_succ, List.getElem_toArray, List.getElem_cons_succ, List.getElem_cons_zero]
  refine tkc 9 undef rfl hS2 ?_
  simp only [Act.put, List.setIfInBounds_toArray, List.set_cons_zero, List.set_cons_succ, List.getElem_toArray, List.getElem_cons_succ, List.getElem_cons_zero]
  refine tkc 10 undef rfl hS2 ?_
  simp only [Act.put, List.setIfInBounds_toArray, List.set_cons_zero, List.set_cons_succ, List.getElem_toArray, List.getElem_cons_succ, List.getElem_cons_zero]
  refine tkc 11 undef rfl hS2 ?_
  simp only [Act.put, List.setIfInBounds_toArray, List.set_cons_zero, List.set_cons_succ, List.getElem_toArray, List.getElem_cons_succ, List.getElem_cons_zero]
  refine tkc 12 undef rfl hS2 ?_
  simp only [Act.put, List.setIfInBounds_toArray, List.set_cons_zero, List.set_cons_succ, List.getElem_toArray, List.getElem_cons_succ, List.getElem_cons_zero]
  refine tka 13 (.bool true) rfl hS2 ?_
  simp only [Act.put, List.setIfInBounds_toArray, List.set_cons_zero, List.set_cons_succ, List.getElem_toArray, List.getElem_cons_succ, List.getElem_cons_zero]
  refine wpAnyH_done (by kernel_rfl) ?_ _
  have HKE := Lib.hid (HSK.out _ hS2)
  clear hS2 HSK HSI HS70 HSF HSR S
  have hbq := hbd
  go_wp2_with (first
    | ((with_reducible show wpList _ _ _ (⟨none, .store 36 (.tmp 2) (.tmp 39), _, _, _, _⟩ :: _) _ _); refine wpList_store_agg rfl 36 (.tmp 2) (.tmp 39) rfl w.heap.size 0 zc rfl rfl _ _ ((H8.out.keep.trans HKE.out).blk HRES.out id) (by simp) (sizeUbL hzl) hzo ?_; intro w20 hb4 hk4; have HB4 := Lib.hid hb4; have HK4 := Lib.hid hk4; clear hb4 hk4))
  refine bodyPost_ret (results_cell_row_tmp rfl _ _ w.heap.size _ _ _ _ rfl HB4.out ubUnder rfl (by rw [spl_size, List.size_toArray]; exact sizeUbL hzl)) rfl ?_
  rw [HUR.out]
  refine ⟨.slice none 0 0, ?_, World.ownsRow_nil _ _ _ _, ?_⟩
  · rw [spl_whole _ _ (by simp), HZ.out]; rfl
  · exact (HK1.out.trans (H8.out.keep.trans HKE.out)).trans' HK4.out (fun _ _ h => h) (fun i hi e => by omega)

set_option maxHeartbeats 8000000 in
theorem uunpack_root (w : World) (aF aR : Addr) (hg : ErrG w aF aR) (bv : Value) (b : List UInt8) (hr : Rd w 1 bv b.length (b.map vb)) (hl : b.length = 256) (hz : ¬ b = List.replicate 256 0) (hn0 : numsOk b) (hB : readB (rootB b) = false) :
    Calls Tryz.prog 44 #[bv] w (UUnpackPost w (unpackU b)) := by
  have hlt : ∀ g, bv.ownBlock = some g → g < w.heap.size := by
    obtain ⟨k, hk, hk2⟩ := hr.lt (by simp; omega)
    intro g hg
    rw [hg] at hk; cases hk; exact hk2
  obtain ⟨a, c, hv, -, -⟩ := hr.form
  rw [hl] at hv
  subst hv
  have HR := Lib.hid hr
  clear hr
  obtain ⟨zc, hzc, hzl, hzo⟩ : ∃ zc, ubCs (.slice none 0 0) zUb = zc ∧ zc.length = 69 ∧ ∀ u ∈ zc, u.oneCell' = true := ⟨_, rfl, rfl, oneCell_ub _⟩
  have hzv : ∀ w, (zeroValue 36).run Tryz.prog w = .ok (.agg zc.toArray) w := by rw [← hzc]; exact zeroValUb
  have hbd : ∀ w, (Instr.build 36 #[]).run Tryz.prog w = .ok (.agg zc.toArray) w := by rw [← hzc]; exact buildUbZ
  have HZ := Lib.hid hzc; clear hzc
  have HL := Lib.hid hl
  clear hl
  have HZN := Lib.hid hz
  go_enter Tryz.func44, Tryz.ntmps44
  go_wp2_with (first
    | (refine wpList_alloc_at rfl 36 rfl _ hzv zc.toArray rfl ?_)
    | ((with_reducible show wpList _ _ _ (⟨some 14, .makeSlice _ _ _, _, _, _, _⟩ :: _) _ _); refine wpList_make_one rfl (.const (.int .i64 256)) (.const (.int .i64 256)) 51 rfl w.heap.size 5 (.int .u8 0) 1 Tryz.underlying51 infoU8 rfl 256 rfl rfl (by omega) (by unfold maxLen; omega) (by simp) ?_; intro w2 hown2 hk2; rw [World.size_alloc] at hown2; have HO2 := Lib.hid (rd_zerosU hown2); have HK2 := Lib.hid hk2; clear hown2 hk2))
  obtain ⟨w1, hw1⟩ : ∃ w1, w.alloc (.cells zc.toArray 36) = w1 := ⟨_, rfl⟩
  have HK1 : Hid (Keep noBlk w w1) := Lib.hid (by rw [← hw1]; exact (Keep.refl _ _).alloc _)
  have HRES : Hid (w1.heap[w.heap.size]? = some (.cells zc.toArray 36 (0, 0))) := Lib.hid (by rw [← hw1]; exact heap_alloc_new _ _)
  have HG1 := Lib.hid (hg.keep HK1.out)
  clear hg
  rw [hw1] at HK2
  refine (beq_any w2 _ _ b (List.replicate 256 0) (HR.out.keep (HK1.out.trans HK2.out) fun _ _ => id) HO2.out false (decide_eq_false hz)).mono ?_
  rintro e w3 ⟨rfl, rfl⟩
  clear hz HO2 hw1
  go_wp2_with fail
  refine (ropen_any _ b w2 (HR.out.keep (HK1.out.trans HK2.out) fun _ _ => id) (by rw [HL.out]; omega)).mono ?_
  rintro e w3 ⟨p, v, rfl, hrd, hk3⟩
  have H4 : Hid (StW w1 (w3.alloc (.cells (stCs p (.slice none 0 0) zUb .nilIface).toArray 106)) w3.heap.size w2.heap.size p v b 0 0 0 (.slice none 0 0) zUb .nilIface) :=
    Lib.hid ⟨heap_alloc_new _ _, hrd.keep ((Keep.refl noBlk w3).alloc _) id (fun _ _ => id), rfl, rfl, (HK2.out.trans hk3).trans ((Keep.refl noBlk w3).alloc _), HK2.out.size, (HK2.out.trans hk3).size⟩
  obtain ⟨sb, hsb⟩ : ∃ x, w3.heap.size = x := ⟨_, rfl⟩
  clear hrd hk3
  go_wp2_with fail
  rw [stepsZero]
  rw [hsb] at H4
  refine (begins_any w1 _ sb w2.heap.size p v b _ _ _ H4.out HL.out).mono ?_
  rintro e w5 ⟨rfl, h5⟩
  clear H4 hsb
  go_wp2_with fail
  refine (numbers_any w1 w5 sb w2.heap.size p v b _ _ _ h5 HL.out).mono ?_
  rintro e w6 ⟨rfl, at2, fe, fa, x, y, h6, hn⟩
  clear h5
  go_wp2_with fail
  rw [if_pos hn0] at hn
  obtain ⟨rfl, rfl, rfl, rfl⟩ := hn
  have HUR := Lib.hid (unpackU_bad HL.out HZN.out (.inr hB))
  refine (points_bad w1 w6 sb w2.heap.size p v b _ _ 48 95 0 fa 0 fa (rootB b) aR HG1.out.r hB h6 (rawroot_ok w1 w6 sb w2.heap.size p v b _ _ _ HL.out fa)).mono ?_
  rintro e w7 ⟨rfl, j0, h7, hj0⟩
  clear h6 hn0 hB
  go_wp2_with fail
  refine (ends_ok w1 w7 sb w2.heap.size p v b _ _ _ 95 fa h7).mono ?_
  rintro e w8 ⟨rfl, hk8⟩
  have H8 := Lib.hid (h7.same hk8); have HJ0 := Lib.hid (hj0.same hk8)
  clear h7 hj0 hk8
  go_wp2_with fail
  by_cases hFR : aR = aF
  · obtain ⟨S, hS0⟩ : ∃ S : World → Prop, S = fun w' => Keep noBlk w8 w' := ⟨_, rfl⟩
    have HSK := Lib.hid (show ∀ w', S w' → Keep noBlk w8 w' from fun w' h => by rw [hS0] at h; exact h)
    have HSI := Lib.hid (show ∀ w', Keep noBlk w8 w' → S w' from fun w' h => by rw [hS0]; exact h)
    have HS70 := Lib.hid (show ∀ w', S w' → w'.cell? ⟨sb, 70, none⟩ = some (jeV j0) from fun w' h => by rw [hS0] at h; exact blk_cell (H8.out.same h).st (stCs_er _ _ _ _ H8.out.pool H8.out.sum))
    have HSF := Lib.hid (show ∀ w', S w' → w'.cell? ⟨0, 0, none⟩ = some (esV aF) from fun w' h => by rw [hS0] at h; exact (HG1.out.keep (H8.out.keep.trans h)).f)
    have HSR := Lib.hid (show ∀ w', S w' → w'.cell? ⟨1, 0, none⟩ = some (esV aR) from fun w' h => by rw [hS0] at h; exact (HG1.out.keep (H8.out.keep.trans h)).r)
    clear hS0
    have hS := HSI.out _ (Keep.refl noBlk w8).drew
    refine wp_region_held (S := S) (by kernel_rfl) ?_
    change wpAnyH _ _ _ _ _ _ _ _ w8.drew
    generalize w8.drew = wa at hS ⊢
    refine tka 0 (.pointer (some ⟨sb, 0, none⟩)) rfl hS ?_
    simp only [Act.put, List.setIfInBounds_toArray, List.set_cons_zero, List.set_cons_succ, List.getElem_toArray, List.getElem_cons_zero]
    refine tkb 1 (.pointer (some ⟨sb, 0, none⟩)) rfl hS ?_
    simp only [Act.put, List.setIfInBounds_toArray, List.set_cons_zero, List.set_cons_succ, List.getElem_toArray, List.getElem_cons_succ, List.getElem_cons_zero]
    refine tkb 2 (.pointer (some ⟨sb, 70, none⟩)) rfl hS ?_
    simp only [Act.put, List.setIfInBounds_toArray, List.set_cons_zero, List.set_cons_succ, List.getElem_toArray, List.getElem_cons_succ, List.getElem_cons_zero]
    refine tkd 3 (jeV j0) rfl (.inl ⟨by rfl, fun w' hw' => by have c := HS70.out w' hw'; go_simp⟩) hS ?_
    simp only [Act.put, List.setIfInBounds_toArray, List.set_cons_zero, List.set_cons_succ, List.getElem_toArray, List.getElem_cons_succ, List.getElem_cons_zero]
    refine tkd 4 (esV aF) rfl (.inl ⟨by rfl, fun w' hw' => by have c := HSF.out w' hw'; go_simp⟩) hS ?_
    simp only [Act.put, List.setIfInBounds_toArray, List.set_cons_zero, List.set_cons_succ, List.getElem_toArray, List.getElem_cons_succ, List.getElem_cons_zero]
    refine wpAnyH_one (k := 5) rfl (by kernel_rfl) ?_
    go_wp2_with fail
    refine (errIs_0y (HG1.out.keep (H8.out.keep.trans (HSK.out _ hS))) (HG1.out.keep (H8.out.keep.trans (HSK.out _ hS))).bf hFR (HJ0.out.same (HSK.out _ hS))).mono ?_
    rintro e wb ⟨rfl, hk⟩
    have hS2 := HSI.out _ ((HSK.out _ hS).trans hk)
    clear hS hk
    go_wp2_with fail
    refine ⟨hS2, ?_⟩
    refine tka 6 (.bool true) rfl hS2 ?_
    simp only [Act.put, List.setIfInBounds_toArray, List.set_cons_zero, List.set_cons_succ, List.getElem_toArray, List.getElem_cons_succ, List.getElem_cons_zero]
    refine tkc 7 undef rfl hS2 ?_
    simp only [Act.put, List.setIfInBounds_toArray, List.set_cons_zero, List.set_cons_succ, List.getElem_toArray, List.getElem_cons_succ, List.getElem_cons_zero]
    refine tkc 8 undef rfl hS2 ?_
    simp only [Act.put, List.setIfInBounds_toArray, List.set_cons_zero, List.set_cons_succ, List.getElem_toArray, List.getElem_cons_succ, List.getElem_cons_zero]
    refine tkc 9 undef rfl hS2 ?_
    simp only [Act.put, List.setIfInBounds_toArray, List.set_cons_zero, List.set_cons_succ, List.getElem_toArray, List.getElem_cons_succ, List.getElem_cons_zero]
    refine tkc 10 undef rfl hS2 ?_
    simp only [Act.put, List.setIfInBounds_toArray, List.set_cons_zero, List.set_cons_succ, List.getElem_toArray, List.getElem_cons_succ, List.getElem_cons_zero]
    refine tkc 11 undef rfl hS2 ?_
    simp only [Act.put, List.setIfInBounds_toArray, List.set_cons_zero, List.set_cons_succ, List.getElem_toArray, List.getElem_cons_succ, List.getElem_cons_zero]
    refine tkc 12 undef rfl hS2 ?_
    simp only [Act.put, List.setIfInBounds_toArray, List.set_cons_zero, List.set_cons_succ, List.getElem_toArray, List.getElem_cons_succ, List.getElem_cons_zero]
    refine tka 13 (.bool true) rfl hS2 ?_
    simp only [Act.put, List.setIfInBounds_toArray, List.set_cons_zero, List.set_cons_succ, List.getElem_toArray, List.getElem_cons_succ, List.getElem_cons_zero]
    refine wpAnyH_done (by kernel_rfl) ?_ _
    have HKE := Lib.hid (HSK.out _ hS2)
    clear hS2 HSK HSI HS70 HSF HSR S
    have hbq := hbd
    go_wp2_with (first
      | ((with_reducible show wpList _ _ _ (⟨none, .store 36 (.tmp 2) (.tmp 39), _, _, _, _⟩ :: _) _ _); refine wpList_store_agg rfl 36 (.tmp 2) (.tmp 39) rfl w.heap.size 0 zc rfl rfl _ _ ((H8.out.keep.trans HKE.out).blk HRES.out id) (by simp) (sizeUbL hzl) hzo ?_; intro w20 hb4 hk4; have HB4 := Lib.hid hb4; have HK4 := Lib.hid hk4; clear hb4 hk4))
    refine bodyPost_ret (results_cell_row_tmp rfl _ _ w.heap.size _ _ _ _ rfl HB4.out ubUnder rfl (by rw [spl_size, List.size_toArray]; exact sizeUbL hzl)) rfl ?_
    rw [HUR.out]
    refine ⟨.slice none 0 0, ?_, World.ownsRow_nil _ _ _ _, ?_⟩
    · rw [spl_whole _ _ (by simp), HZ.out]; rfl
    · exact (HK1.out.trans (H8.out.keep.trans HKE.out)).trans' HK4.out (fun _ _ h => h) (fun i hi e => by omega)

  · obtain ⟨S, hS0⟩ : ∃ S : World → Prop, S = fun w' => Keep noBlk w8 w' := ⟨_, rfl⟩
    have HSK := Lib.hid (show ∀ w', S w' → Keep noBlk w8 w' from fun w' h => by rw [hS0] at h; exact h)
    have HSI := Lib.hid (show ∀ w', Keep noBlk w8 w' → S w' from fun w' h => by rw [hS0]; exact h)
    have HS70 := Lib.hid (show ∀ w', S w' → w'.cell? ⟨sb, 70, none⟩ = some (jeV j0) from fun w' h => by rw [hS0] at h; exact blk_cell (H8.out.same h).st (stCs_er _ _ _ _ H8.out.pool H8.out.sum))
    have HSF := Lib.hid (show ∀ w', S w' → w'.cell? ⟨0, 0, none⟩ = some (esV aF) from fun w' h => by rw [hS0] at h; exact (HG1.out.keep (H8.out.keep.trans h)).f)
    have HSR := Lib.hid (show ∀ w', S w' → w'.cell? ⟨1, 0, none⟩ = some (esV aR) from fun w' h => by rw [hS0] at h; exact (HG1.out.keep (H8.out.keep.trans h)).r)
    clear hS0
    have hS := HSI.out _ (Keep.refl noBlk w8).drew
    refine wp_region_held (S := S) (by kernel_rfl) ?_
    change wpAnyH _ _ _ _ _ _ _ _ w8.drew
    generalize w8.drew = wa at hS ⊢
    refine tka 0 (.pointer (some ⟨sb, 0, none⟩)) rfl hS ?_
    simp only [Act.put, List.setIfInBounds_toArray, List.set_cons_zero, List.set_cons_succ, List.getElem_toArray, List.getElem_cons_zero]
    refine tkb 1 (.pointer (some ⟨sb, 0, none⟩)) rfl hS ?_
    simp only [Act.put, List.setIfInBounds_toArray, List.set_cons_zero, List.set_cons_succ, List.getElem_toArray, List.getElem_cons_succ, List.getElem_cons_zero]
    refine tkb 2 (.pointer (some ⟨sb, 70, none⟩)) rfl hS ?_
    simp only [Act.put, List.setIfInBounds_toArray, List.set_cons_zero, List.set_cons_succ, List.getElem_toArray, List.getElem_cons_succ, List.getElem_cons_zero]
    refine tkd 3 (jeV j0) rfl (.inl ⟨by rfl, fun w' hw' => by have c := HS70.out w' hw'; go_simp⟩) hS ?_
    simp only [Act.put, List.setIfInBounds_toArray, List.set_cons_zero, List.set_cons_succ, List.getElem_toArray, List.getElem_cons_succ, List.getElem_cons_zero]
    refine tkd 4 (esV aF) rfl (.inl ⟨by rfl, fun w' hw' => by have c := HSF.out w' hw'; go_simp⟩) hS ?_
    simp only [Act.put, List.setIfInBounds_toArray, List.set_cons_zero, List.set_cons_succ, List.getElem_toArray, List.getElem_cons_succ, List.getElem_cons_zero]
    refine wpAnyH_one (k := 5) rfl (by kernel_rfl) ?_
    go_wp2_with fail
    refine (errIs_0n (HG1.out.keep (H8.out.keep.trans (HSK.out _ hS))) (HG1.out.keep (H8.out.keep.trans (HSK.out _ hS))).bf hFR (HJ0.out.same (HSK.out _ hS))).mono ?_
    rintro e wb ⟨rfl, hk⟩
    have hS2 := HSI.out _ ((HSK.out _ hS).trans hk)
    clear hS hk
    go_wp2_with fail
    refine ⟨hS2, ?_⟩
    refine tka 6 (.bool false) rfl hS2 ?_
    simp only [Act.put, List.setIfInBounds_toArray, List.set_cons_zero, List.set_cons_succ, List.getElem_toArray, List.getElem_cons_succ, List.getElem_cons_zero]
    refine tka 7 (.pointer (some ⟨sb, 0, none⟩)) rfl hS2 ?_
    simp only [Act.put, List.setIfInBounds_toArray, List.set_cons_zero, List.set_cons_succ, List.getElem_toArray, List.getElem_cons_succ, List.getElem_cons_zero]
    refine tkb 8 (.pointer (some ⟨sb, 0, none⟩)) rfl hS2 ?_
    simp only [Act.put, List.setIfInBounds_toArray, List.set_cons_zero, List.set_cons_succ, List.getElem_toArray, List.getElem_cons_succ, List.getElem_cons_zero]
    refine tkb 9 (.pointer (some ⟨sb, 70, none⟩)) rfl hS2 ?_
    simp only [Act.put, List.setIfInBounds_toArray, List.set_cons_zero, List.set_cons_succ, List.getElem_toArray, List.getElem_cons_succ, List.getElem_cons_zero]
    refine tkd 10 (jeV j0) rfl (.inl ⟨by rfl, fun w' hw' => by have c := HS70.out w' hw'; go_simp⟩) hS2 ?_
    simp only [Act.put, List.setIfInBounds_toArray, List.set_cons_zero, List.set_cons_succ, List.getElem_toArray, List.getElem_cons_succ, List.getElem_cons_zero]
    refine tkd 11 (esV aR) rfl (.inl ⟨by rfl, fun w' hw' => by have c := HSR.out w' hw'; go_simp⟩) hS2 ?_
    simp only [Act.put, List.setIfInBounds_toArray, List.set_cons_zero, List.set_cons_succ, List.getElem_toArray, List.getElem_cons_succ, List.getElem_cons_zero]
    refine wpAnyH_one (k := 12) rfl (by kernel_rfl) ?_
    go_wp2_with fail
    refine (errIs_0y (HG1.out.keep (H8.out.keep.trans (HSK.out _ hS2))) (HG1.out.keep (H8.out.keep.trans (HSK.out _ hS2))).br rfl (HJ0.out.same (HSK.out _ hS2))).mono ?_
    rintro e wc ⟨rfl, hk⟩
    have hS3 := HSI.out _ ((HSK.out _ hS2).trans hk)
    clear hS2 hk
    go_wp2_with fail
    refine ⟨hS3, ?_⟩
    refine tka 13 (.bool true) rfl hS3 ?_
    simp only [Act.put, List.setIfInBounds_toArray, List.set_cons_zero, List.set_cons_succ, List.getElem_toArray, List.getElem_cons_succ, List.getElem_cons_zero]
    refine wpAnyH_done (by kernel_rfl) ?_ _
    have HKE := Lib.hid (HSK.out _ hS3)
    clear hS3 HSK HSI HS70 HSF HSR S
    have hbq := hbd
    go_wp2_with (first
      | ((with_reducible show wpList _ _ _ (⟨none, .store 36 (.tmp 2) (.tmp 39), _, _, _, _⟩ :: _) _ _); refine wpList_store_agg rfl 36 (.tmp 2) (.tmp 39) rfl w.heap.size 0 zc rfl rfl _ _ ((H8.out.keep.trans HKE.out).blk HRES.out id) (by simp) (sizeUbL hzl) hzo ?_; intro w20 hb4 hk4; have HB4 := Lib.hid hb4; have HK4 := Lib.hid hk4; clear hb4 hk4))
    refine bodyPost_ret (results_cell_row_tmp rfl _ _ w.heap.size _ _ _ _ rfl HB4.out ubUnder rfl (by rw [spl_size, List.size_toArray]; exact sizeUbL hzl)) rfl ?_
    rw [HUR.out]
    refine ⟨.slice none 0 0, ?_, World.ownsRow_nil _ _ _ _, ?_⟩
    · rw [spl_whole _ _ (by simp), HZ.out]; rfl
    · exact (HK1.out.trans (H8.out.keep.trans HKE.out)).trans' HK4.out (fun _ _ h => h) (fun i hi e => by omega)

end Go.Proofs.YtaiicjhnhbkgmaaGreatDoor

/-
  uber.Unpack, the whole contract.
  Conditions: those told.
-/
namespace Go.Proofs.YtaiicjhnhbkgmaaGreatDoor
open Go.RowKit Go.Maps Go.ChangeMaps
set_option maxRecDepth 100000
set_option linter.unusedVariables false
theorem StW.ub {w wr : World} {sb base p : Nat} {v : Value} {b : List UInt8} {at_ : Nat} {fe fa : Int} {uv : Value} {u : Ub} {er : Value} (h : StW w wr sb base p v b at_ fe fa uv u er) : wr.rangeAt sb 1 (ubCs uv u) :=
  range_mid (A := [.pointer (some ⟨p, 0, none⟩)]) (B := ubCs uv u) (C := [er]) (rangeAt_whole h.st)
set_option maxHeartbeats 8000000 in
theorem uunpack_good (w : World) (aF aR : Addr) (hg : ErrG w aF aR) (bv : Value) (b : List UInt8) (hr : Rd w 1 bv b.length (b.map vb)) (hl : b.length = 256) (hz : ¬ b = List.replicate 256 0) (hn0 : numsOk b) (hB : readB (rootB b) = true) :
    Calls Tryz.prog 44 #[bv] w (UUnpackPost w (unpackU b)) := by
  have hlt : ∀ g, bv.ownBlock = some g → g < w.heap.size := by
    obtain ⟨k, hk, hk2⟩ := hr.lt (by simp; omega)
    intro g hg
    rw [hg] at hk; cases hk; exact hk2
  obtain ⟨a, c, hv, -, -⟩ := hr.form
  rw [hl] at hv
  subst hv
  have HR := Lib.hid hr
  clear hr
  obtain ⟨zc, hzc, hzl, hzo⟩ : ∃ zc, ubCs (.slice none 0 0) zUb = zc ∧ zc.length = 69 ∧ ∀ u ∈ zc, u.oneCell' = true := ⟨_, rfl, rfl, oneCell_ub _⟩
  have hzv : ∀ w, (zeroValue 36).run Tryz.prog w = .ok (.agg zc.toArray) w := by rw [← hzc]; exact zeroValUb
  have hbd : ∀ w, (Instr.build 36 #[]).run Tryz.prog w = .ok (.agg zc.toArray) w := by rw [← hzc]; exact buildUbZ
  have HZ := Lib.hid hzc; clear hzc
  have HL := Lib.hid hl
  clear hl
  have HZN := Lib.hid hz
  go_enter Tryz.func44, Tryz.ntmps44
  go_wp2_with (first
    | (refine wpList_alloc_at rfl 36 rfl _ hzv zc.toArray rfl ?_)
    | ((with_reducible show wpList _ _ _ (⟨some 14, .makeSlice _ _ _, _, _, _, _⟩ :: _) _ _); refine wpList_make_one rfl (.const (.int .i64 256)) (.const (.int .i64 256)) 51 rfl w.heap.size 5 (.int .u8 0) 1 Tryz.underlying51 infoU8 rfl 256 rfl rfl (by omega) (by unfold maxLen; omega) (by simp) ?_; intro w2 hown2 hk2; rw [World.size_alloc] at hown2; have HO2 := Lib.hid (rd_zerosU hown2); have HK2 := Lib.hid hk2; clear hown2 hk2))
  obtain ⟨w1, hw1⟩ : ∃ w1, w.alloc (.cells zc.toArray 36) = w1 := ⟨_, rfl⟩
  have HK1 : Hid (Keep noBlk w w1) := Lib.hid (by rw [← hw1]; exact (Keep.refl _ _).alloc _)
  have HRES : Hid (w1.heap[w.heap.size]? = some (.cells zc.toArray 36 (0, 0))) := Lib.hid (by rw [← hw1]; exact heap_alloc_new _ _)
  have HG1 := Lib.hid (hg.keep HK1.out)
  clear hg
  rw [hw1] at HK2
  refine (beq_any w2 _ _ b (List.replicate 256 0) (HR.out.keep (HK1.out.trans HK2.out) fun _ _ => id) HO2.out false (decide_eq_false hz)).mono ?_
  rintro e w3 ⟨rfl, rfl⟩
  clear hz HO2 hw1
  go_wp2_with fail
  refine (ropen_any _ b w2 (HR.out.keep (HK1.out.trans HK2.out) fun _ _ => id) (by rw [HL.out]; omega)).mono ?_
  rintro e w3 ⟨p, v, rfl, hrd, hk3⟩
  have H4 : Hid (StW w1 (w3.alloc (.cells (stCs p (.slice none 0 0) zUb .nilIface).toArray 106)) w3.heap.size w2.heap.size p v b 0 0 0 (.slice none 0 0) zUb .nilIface) :=
    Lib.hid ⟨heap_alloc_new _ _, hrd.keep ((Keep.refl noBlk w3).alloc _) id (fun _ _ => id), rfl, rfl, (HK2.out.trans hk3).trans ((Keep.refl noBlk w3).alloc _), HK2.out.size, (HK2.out.trans hk3).size⟩
  obtain ⟨sb, hsb⟩ : ∃ x, w3.heap.size = x := ⟨_, rfl⟩
  clear hrd hk3
  go_wp2_with fail
  rw [stepsZero]
  rw [hsb] at H4
  refine (begins_any w1 _ sb w2.heap.size p v b _ _ _ H4.out HL.out).mono ?_
  rintro e w5 ⟨rfl, h5⟩
  clear H4 hsb
  go_wp2_with fail
  refine (numbers_any w1 w5 sb w2.heap.size p v b _ _ _ h5 HL.out).mono ?_
  rintro e w6 ⟨rfl, at2, fe, fa, x, y, h6, hn⟩
  clear h5
  go_wp2_with fail
  rw [if_pos hn0] at hn
  obtain ⟨rfl, rfl, rfl, rfl⟩ := hn
  refine (points_ok w1 w6 sb w2.heap.size p v b _ _ _ 48 95 0 fa 0 fa (rootB b) hB h6 (rawroot_ok w1 w6 sb w2.heap.size p v b _ _ _ HL.out fa)).mono ?_
  rintro e w7 ⟨rfl, uv2, h7, ho7⟩
  clear h6 hn0 hB
  go_wp2_with fail
  refine (ends_ok w1 w7 sb w2.heap.size p v b _ _ _ 95 fa h7).mono ?_
  rintro e w8 ⟨rfl, hk8⟩
  have H8 : Hid (StW w1 w8 sb w2.heap.size p v b 95 0 fa uv2 (ubOf b) .nilIface) := Lib.hid (h7.same hk8)
  have ho8 : w8.ownsRow w1.heap.size 70 2 uv2 (ubOf b).root.addrs.length (adCells (ubOf b).root.addrs) := hk8.owns ho7 (fun _ _ => id)
  obtain ⟨oa, ca, hv2, -, -⟩ := (Rd.of_owns ho8).form
  subst hv2
  have HO8 := Lib.hid ho8
  clear h7 hk8 ho7 ho8
  go_wp2_with fail
  obtain ⟨S, hS0⟩ : ∃ S : World → Prop, S = fun w' => Keep noBlk w8 w' := ⟨_, rfl⟩
  have HSK := Lib.hid (show ∀ w', S w' → Keep noBlk w8 w' from fun w' h => by rw [hS0] at h; exact h)
  have HSI := Lib.hid (show ∀ w', Keep noBlk w8 w' → S w' from fun w' h => by rw [hS0]; exact h)
  have HS70 := Lib.hid (show ∀ w', S w' → w'.cell? ⟨sb, 70, none⟩ = some (.nilIface) from fun w' h => by rw [hS0] at h; exact blk_cell (H8.out.same h).st (stCs_er _ _ _ _ H8.out.pool H8.out.sum))
  have HSF := Lib.hid (show ∀ w', S w' → w'.cell? ⟨0, 0, none⟩ = some (esV aF) from fun w' h => by rw [hS0] at h; exact (HG1.out.keep (H8.out.keep.trans h)).f)
  have HSR := Lib.hid (show ∀ w', S w' → w'.cell? ⟨1, 0, none⟩ = some (esV aR) from fun w' h => by rw [hS0] at h; exact (HG1.out.keep (H8.out.keep.trans h)).r)
  clear hS0
  have hS := HSI.out _ (Keep.refl noBlk w8).drew
  refine wp_region_held (S := S) (by kernel_rfl) ?_
  change wpAnyH _ _ _ _ _ _ _ _ w8.drew
  generalize w8.drew = wa at hS ⊢
  refine tka 0 (.pointer (some ⟨sb, 0, none⟩)) rfl hS ?_
  simp only [Act.put, List.setIfInBounds_toArray, List.set_cons_zero, List.set_cons_succ, List.getElem_toArray, List.getElem_cons_zero]
  refine tkb 1 (.pointer (some ⟨sb, 0, none⟩)) rfl hS ?_
  simp only [Act.put, List.setIfInBounds_toArray, List.set_cons_zero, List.set_cons_succ, List.getElem_toArray, List.getElem_cons_succ, List.getElem_cons_zero]
  refine tkb 2 (.pointer (some ⟨sb, 70, none⟩)) rfl hS ?_
  simp only [Act.put, List.setIfInBounds_toArray, List.set_cons_zero, List.set_cons_succ, List.getElem_toArray, List.getElem_cons_succ, List.getElem_cons_zero]
  refine tkd 3 (.nilIface) rfl (.inl ⟨by rfl, fun w' hw' => by have c := HS70.out w' hw'; go_simp⟩) hS ?_
  simp only [Act.put, List.setIfInBounds_toArray, List.set_cons_zero, List.set_cons_succ, List.getElem_toArray, List.getElem_cons_succ, List.getElem_cons_zero]
  refine tkd 4 (esV aF) rfl (.inl ⟨by rfl, fun w' hw' => by have c := HSF.out w' hw'; go_simp⟩) hS ?_
  simp only [Act.put, List.setIfInBounds_toArray, List.set_cons_zero, List.set_cons_succ, List.getElem_toArray, List.getElem_cons_succ, List.getElem_cons_zero]
  refine wpAnyH_one (k := 5) rfl (by kernel_rfl) ?_
  go_wp2_with fail
  refine (errIs_nil wa aF).mono ?_
  rintro e wb ⟨rfl, hk⟩
  have hS2 := HSI.out _ ((HSK.out _ hS).trans hk)
  clear hS hk
  go_wp2_with fail
  refine ⟨hS2, ?_⟩
  refine tka 6 (.bool false) rfl hS2 ?_
  simp only [Act.put, List.setIfInBounds_toArray, List.set_cons_zero, List.set_cons_succ, List.getElem_toArray, List.getElem_cons_succ, List.getElem_cons_zero]
  refine tka 7 (.pointer (some ⟨sb, 0, none⟩)) rfl hS2 ?_
  simp only [Act.put, List.setIfInBounds_toArray, List.set_cons_zero, List.set_cons_succ, List.getElem_toArray, List.getElem_cons_succ, List.getElem_cons_zero]
  refine tkb 8 (.pointer (some ⟨sb, 0, none⟩)) rfl hS2 ?_
  simp only [Act.put, List.setIfInBounds_toArray, List.set_cons_zero, List.set_cons_succ, List.getElem_toArray, List.getElem_cons_succ, List.getElem_cons_zero]
  refine tkb 9 (.pointer (some ⟨sb, 70, none⟩)) rfl hS2 ?_
  simp only [Act.put, List.setIfInBounds_toArray, List.set_cons_zero, List.set_cons_succ, List.getElem_toArray, List.getElem_cons_succ, List.getElem_cons_zero]
  refine tkd 10 (.nilIface) rfl (.inl ⟨by rfl, fun w' hw' => by have c := HS70.out w' hw'; go_simp⟩) hS2 ?_
  simp only [Act.put, List.setIfInBounds_toArray, List.set_cons_zero, List.set_cons_succ, List.getElem_toArray, List.getElem_cons_succ, List.getElem_cons_zero]
  refine tkd 11 (esV aR) rfl (.inl ⟨by rfl, fun w' hw' => by have c := HSR.out w' hw'; go_simp⟩) hS2 ?_
  simp only [Act.put, List.setIfInBounds_toArray, List.set_cons_zero, List.set_cons_succ, List.getElem_toArray, List.getElem_cons_succ, List.getElem_cons_zero]
  refine wpAnyH_one (k := 12) rfl (by kernel_rfl) ?_
  go_wp2_with fail
  refine (errIs_nil wb aR).mono ?_
  rintro e wc ⟨rfl, hk⟩
  have hS3 := HSI.out _ ((HSK.out _ hS2).trans hk)
  clear hS2 hk
  go_wp2_with fail
  refine ⟨hS3, ?_⟩
  refine tka 13 (.bool false) rfl hS3 ?_
  simp only [Act.put, List.setIfInBounds_toArray, List.set_cons_zero, List.set_cons_succ, List.getElem_toArray, List.getElem_cons_succ, List.getElem_cons_zero]
  refine wpAnyH_done (by kernel_rfl) ?_ _
  have HKE := Lib.hid (HSK.out _ hS3)
  clear hS3 HSK HSI HS70 HSF HSR S
  have H9 := Lib.hid (H8.out.same HKE.out)
  have HO9 := Lib.hid (HKE.out.owns HO8.out (fun _ _ => id))
  obtain ⟨m, hm⟩ : ∃ m, (ubOf b).root.addrs.length = m := ⟨_, rfl⟩
  have HM := Lib.hid hm
  rw [hm] at H9 HO9
  have HUV : Hid (UbV wc (.slice oa m ca) (ubOf b)) := Lib.hid ⟨⟨by rw [hm]; exact Rd.of_owns HO9.out, adsOf_ok _ _, ubOf_sum HL.out⟩, ubOf_pool HL.out⟩
  have HCP := Lib.hid (upack_any wc (.slice oa m ca) (ubOf b) HUV.out)
  have HUBR := Lib.hid H9.out.ub
  obtain ⟨uc, huc⟩ : ∃ x, ubCs (.slice oa m ca) (ubOf b) = x := ⟨_, rfl⟩
  have hul : uc.length = 69 := by rw [← huc]; exact ubCs_len (ubOf_sum HL.out) (ubOf_pool HL.out)
  have huo : ∀ u ∈ uc, u.oneCell' = true := by rw [← huc]; exact oneCell_ub _
  have HUC := Lib.hid huc
  rw [huc] at HCP HUBR
  clear H8 HO8 HKE hm huc
  go_wp2_with (first
    | ((with_reducible show wpList _ _ _ (⟨_, .load 36 (.tmp 43), _, _, _, _⟩ :: _) _ _); refine wpList_load_g (by rfl) 36 (.tmp 43) rfl (sb) 1 rfl uc _ HUBR.out ubUnder rfl (sizeUbL hul) ?_))
  refine HCP.out.mono ?_
  rintro e w10 ⟨pv, rfl, hop, hk10⟩
  have H10 := Lib.hid (H9.out.same hk10); have HO10 := Lib.hid (hk10.owns HO9.out (fun _ _ => id)); have HUB10 := Lib.hid (hk10.rangeAt HUBR.out)
  have HOP := Lib.hid hop
  obtain ⟨ap, cp, rfl, -, -⟩ := (Rd.of_owns hop).form
  clear HCP H9 HO9 hk10 HUBR hop
  obtain ⟨t, ht⟩ : ∃ t, (ubOf b).may = t := ⟨_, rfl⟩
  have HT := Lib.hid ht
  rw [ht]
  clear ht
  cases t
  · have HUR := Lib.hid (show unpackU b = (zUb, 11) by unfold unpackU; rw [if_neg (by rw [HL.out]; simp), if_neg HZN.out, if_neg (by rw [HT.out]; simp)])
    go_wp2_with (first
      | ((with_reducible show wpList _ _ _ (⟨none, .store 36 (.tmp 2) (.tmp 56), _, _, _, _⟩ :: _) _ _); refine wpList_store_agg rfl 36 (.tmp 2) (.tmp 56) rfl w.heap.size 0 zc rfl rfl _ _ (H10.out.keep.blk HRES.out id) (by simp) (sizeUbL hzl) hzo ?_; intro w20 hb4 hk4; have HB4 := Lib.hid hb4; have HK4 := Lib.hid hk4; clear hb4 hk4))
    refine bodyPost_ret (results_cell_row_tmp rfl _ _ w.heap.size _ _ _ _ rfl HB4.out ubUnder rfl (by rw [spl_size, List.size_toArray]; exact sizeUbL hzl)) rfl ?_
    rw [HUR.out]
    refine ⟨.slice none 0 0, ?_, World.ownsRow_nil _ _ _ _, ?_⟩
    · rw [spl_whole _ _ (by simp), HZ.out]; rfl
    · exact (HK1.out.trans H10.out.keep).trans' HK4.out (fun _ _ h => h) (fun i hi e => by omega)
  · obtain ⟨q, hq⟩ : ∃ q, decide (packU (ubOf b) = b) = q := ⟨_, rfl⟩
    have HQ := Lib.hid hq
    go_wp2_with fail
    refine (beq_any w10 _ _ (packU (ubOf b)) b (Rd.of_owns HOP.out) (by have := HR.out.keep (HK1.out.trans H10.out.keep) (fun _ _ => id); exact this) q hq).mono ?_
    rintro e w11 ⟨rfl, rfl⟩
    clear hq
    cases q
    · have HUR := Lib.hid (show unpackU b = (zUb, 11) by unfold unpackU; rw [if_neg (by rw [HL.out]; simp), if_neg HZN.out, if_neg (by intro h; exact of_decide_eq_false HQ.out h.2)])
      go_wp2_with (first
        | ((with_reducible show wpList _ _ _ (⟨none, .store 36 (.tmp 2) (.tmp 56), _, _, _, _⟩ :: _) _ _); refine wpList_store_agg rfl 36 (.tmp 2) (.tmp 56) rfl w.heap.size 0 zc rfl rfl _ _ (H10.out.keep.blk HRES.out id) (by simp) (sizeUbL hzl) hzo ?_; intro w20 hb4 hk4; have HB4 := Lib.hid hb4; have HK4 := Lib.hid hk4; clear hb4 hk4))
      refine bodyPost_ret (results_cell_row_tmp rfl _ _ w.heap.size _ _ _ _ rfl HB4.out ubUnder rfl (by rw [spl_size, List.size_toArray]; exact sizeUbL hzl)) rfl ?_
      rw [HUR.out]
      refine ⟨.slice none 0 0, ?_, World.ownsRow_nil _ _ _ _, ?_⟩
      · rw [spl_whole _ _ (by simp), HZ.out]; rfl
      · exact (HK1.out.trans H10.out.keep).trans' HK4.out (fun _ _ h => h) (fun i hi e => by omega)
    · have HUR := Lib.hid (show unpackU b = (ubOf b, 0) by unfold unpackU; rw [if_neg (by rw [HL.out]; simp), if_neg HZN.out, if_pos ⟨HT.out, of_decide_eq_true HQ.out⟩])
      go_wp2_with (first
        | ((with_reducible show wpList _ _ _ (⟨_, .load 36 (.tmp 59), _, _, _, _⟩ :: _) _ _); refine wpList_load_g (by rfl) 36 (.tmp 59) rfl (sb) 1 rfl uc _ HUB10.out ubUnder rfl (sizeUbL hul) ?_)
        | ((with_reducible show wpList _ _ _ (⟨none, .store 36 (.tmp 2) (.tmp 60), _, _, _, _⟩ :: _) _ _); refine wpList_store_agg rfl 36 (.tmp 2) (.tmp 60) rfl w.heap.size 0 uc rfl rfl _ _ (H10.out.keep.blk HRES.out id) (by rw [List.size_toArray, hzl, hul]; exact Nat.le_refl _) (sizeUbL hul) huo ?_; intro w20 hb4 hk4; have HB4 := Lib.hid hb4; have HK4 := Lib.hid hk4; clear hb4 hk4))
      have hlz : 0 + uc.length = zc.toArray.size := by rw [List.size_toArray, hzl, hul]
      refine bodyPost_ret (results_cell_row_tmp rfl _ _ w.heap.size _ _ _ _ rfl HB4.out ubUnder rfl (by rw [spl_size, List.size_toArray]; exact sizeUbL hzl)) rfl ?_
      rw [HUR.out]
      have hws : w.heap.size < w1.heap.size := lt_of_block HRES.out
      refine ⟨.slice oa m ca, ?_, ?_, ?_⟩
      · rw [spl_whole _ _ (by rw [List.size_toArray, hzl, hul]), ← HUC.out]; rfl
      · rw [HM.out]
        exact ownsRow_mono (HK4.out.owns HO10.out (fun g hg e => by have := owns_base HO10.out hg; omega)) (by omega)
      · exact (HK1.out.trans H10.out.keep).trans' HK4.out (fun _ _ h => h) (fun i hi e => by omega)
/-- Unpack. -/
theorem uunpack_any (w : World) (aF aR : Addr) (hg : ErrG w aF aR) (bv : Value) (b : List UInt8) (hr : Rd w 1 bv b.length (b.map vb)) (hb : b.length ≤ 65536) :
    Calls Tryz.prog 44 #[bv] w (UUnpackPost w (unpackU b)) := by
  by_cases hl : b.length = 256
  · by_cases hz : b = List.replicate 256 0
    · exact uunpack_zero w bv b hr hl hz
    · by_cases hn0 : numsOk b
      · rcases hB : readB (rootB b) with _ | _
        · exact uunpack_root w aF aR hg bv b hr hl hz hn0 hB
        · exact uunpack_good w aF aR hg bv b hr hl hz hn0 hB
      · exact uunpack_nums w aF aR hg bv b hr hl hz hn0
  · have e : unpackU b = (zUb, 4) := by unfold unpackU; rw [if_pos hl]
    rw [e]
    exact uunpack_len w bv b hr hb hl

end Go.Proofs.YtaiicjhnhbkgmaaGreatDoor
