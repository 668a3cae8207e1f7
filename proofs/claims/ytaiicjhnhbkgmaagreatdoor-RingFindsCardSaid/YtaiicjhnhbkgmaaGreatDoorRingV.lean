/-
  RingFinds' walk.
  Conditions: none.
-/
import Derived.Test.YtaiicjhnhbkgmaaGreatDoorRingU
import Derived.Test.YtaiicjhnhbkgmaaGreatDoorRingK
import Derived.Test.YtaiicjhnhbkgmaaGreatDoorRingA
import Derived.Test.YtaiicjhnhbkgmaaGreatDoorArgsRows
namespace Go.Proofs.YtaiicjhnhbkgmaaGreatDoor
open Go.RowKit Go.Maps Go.ChangeMaps
set_option maxRecDepth 100000
set_option linter.unusedVariables false

theorem foundA_four (hs : List (List UInt8)) (pool : List UInt8) : (foundA hs pool).1.length ≤ 4 := by
  unfold foundA
  split
  · exact found_four _ _
  · exact Nat.zero_le _
set_option maxHeartbeats 16000000 in
theorem ringFinds_walk (w : World) (aF aR : Addr) (hg : ErrG w aF aR) (v : Value) (hs : List (List UInt8)) (hr : RowsB w v hs) (pool : List UInt8) (hpl : pool.length = 32) (t : Int) (ht1 : -9223372036854775808 ≤ t) (ht2 : t ≤ 9223372036854775807) :
    Calls Tryz.prog 5 #[v, .agg (pool.map vb).toArray, .int .i64 t] w (TherePost w true) := by
  obtain ⟨oa, ca, hv, hlm⟩ := hr.form
  subst hv
  unfold maxLen at hlm
  have HR := Lib.hid hr; have HG := Lib.hid hg; have HK := Lib.hid (Keep.refl noBlk w)
  have hpc : (pool.map vb).length = 32 := by rw [List.length_map]; exact hpl
  have HPC := Lib.hid (oneCell_vb pool)
  obtain ⟨pcs, hpcs⟩ : ∃ l, pool.map vb = l := ⟨_, rfl⟩
  have HPS := Lib.hid hpcs
  rw [hpcs] at hpc HPC ⊢
  obtain ⟨n, hn⟩ : ∃ n, hs.length = n := ⟨_, rfl⟩
  have HN := Lib.hid hn
  rw [hn] at hlm ⊢
  obtain ⟨w1, hw1, k1, hb1, s1⟩ := alloc_facts w pcs.toArray 32
  have HPB := Lib.hid hb1
  obtain ⟨pb, hpb⟩ : ∃ b, w.heap.size = b := ⟨_, rfl⟩
  have HPN := Lib.hid hpb
  rw [hpb] at HPB
  have hs1 : w1.heap.size = pb + 1 := by omega
  have HS1 := Lib.hid hs1
  have HR := Lib.hid (HR.out.keep k1); have HG := Lib.hid (HG.out.keep k1); have HK := Lib.hid (HK.out.trans k1)
  have HL := Lib.hid (long_any w1 (.slice oa n ca) (.slice none 0 0) hs [] (by rw [← hn]; exact HR.out) (Rd.nil _ _) (fun p hp => by cases hp))
  clear hr hg hpcs hn k1 hb1 s1 hs1
  obtain ⟨lb, hlb⟩ : ∃ b, longB hs [] = b := ⟨_, rfl⟩
  rw [hlb] at HL
  go_enter Tryz.func5, Tryz.ntmps5
  go_wp2_with fail
  refine HL.out.mono ?_
  rintro e w2 ⟨rfl, hk⟩
  have HR := Lib.hid (HR.out.keep hk)
  have HG := Lib.hid (HG.out.keep hk)
  have HK := Lib.hid (HK.out.trans hk)
  have HPB := Lib.hid (hk.blk HPB.out id)
  clear hk hw1 HL
  cases lb
  · obtain ⟨h600, -, h8, -⟩ := long_no hlb
    have H6 := Lib.hid h600
    have H64 : Hid (∀ L ∈ hs, L.length ≤ 65536) := Lib.hid (fun L hL => by have := h600 L hL; omega)
    rw [HN.out] at h8
    clear h600 hlb
    obtain ⟨r, hr⟩ : ∃ r, foundA hs pool = r := ⟨_, rfl⟩
    have HFA := Lib.hid hr
    clear hr
    go_wp2_with fail
    refine (lentLists_any w2 _ hs (by have h := HR.out; rw [HN.out] at h; exact h) (by rw [HN.out]; exact h8) H6.out).mono ?_
    rintro e w3 ⟨lv, es, rfl, hle, hes, hk⟩
    have HR := Lib.hid (HR.out.keep hk)
    have HG := Lib.hid (HG.out.keep hk)
    have HK := Lib.hid (HK.out.trans hk)
    have HPB := Lib.hid (hk.blk HPB.out id)
    clear hk
    have HLE := Lib.hid hle; have HES := Lib.hid hes
    have hlen : es.length = n := by have h := congrArg List.length hes; rw [List.length_map, HN.out] at h; exact h
    have HEN := Lib.hid hlen
    obtain ⟨la, lc, hv_, -, -⟩ := hle.rd.form
    rw [hlen] at hv_
    subst hv_
    have HLR := Lib.hid (by have h := hle.rows; rw [hes] at h; exact h)
    clear hle hes hlen
    have HR_A := HR
    have HG_A := HG
    have HK_A := HK
    have HPB_A := HPB
    have HLE_A := HLE
    have HLR_A := HLR
    have HKS_A := Lib.hid (Keep.refl noBlk w3)
    go_wp2_with ((with_reducible show wpList _ _ _ (⟨_, .load 32 (.tmp 4), _, _, _, _⟩ :: _) _ _); refine wpList_load_mid rfl 32 (.tmp 4) rfl pb 0 rfl pcs _ (rangeAt_whole HPB.out) Tryz.underlying32 rfl (sizeIDL hpc) ?_)
    have hC := found_any w3 aF aR HG.out _ hs HLR.out pool hpl H64.out
    rw [HPS.out, HFA.out] at hC
    refine hC.mono ?_
    rintro e w4 ⟨va, qa, rfl, ho, hq, hu, hk⟩
    clear hC
    have HR := Lib.hid (HR.out.keep hk)
    have HG := Lib.hid (HG.out.keep hk)
    have HK := Lib.hid (HK.out.trans hk)
    have HPB := Lib.hid (hk.blk HPB.out id)
    have HLE := Lib.hid (HLE.out.keep hk)
    have HLR := Lib.hid (HLR.out.keep hk)
    have HKS_A := Lib.hid (HKS_A.out.trans hk)
    obtain ⟨na, hn_⟩ : ∃ n, qa.length = n := ⟨_, rfl⟩
    have hn4_ : na ≤ 4 := by
      have h := congrArg List.length hq
      rw [List.length_map, hn_] at h
      rw [h, ← HFA.out]; exact foundA_four _ _
    obtain ⟨aa, ca, hv_, -, -⟩ := (Rd.of_owns ho).form
    rw [hn_] at hv_
    subst hv_
    have HQa := Lib.hid hq; have HNQa := Lib.hid hn_; have HN4a := Lib.hid hn4_
    have HOa := Lib.hid ho; have HUa := Lib.hid hu
    clear hk ho hq hu hn_ hn4_
    have HBa : Hid (∀ j, (Value.slice aa na ca).ownBlock = some j → j < w4.heap.size) := Lib.hid (fun j hj => by obtain ⟨cur, hc⟩ := owns_block HOa.out hj; exact lt_of_block hc)
    have HBb : Hid (∀ q ∈ qa, ∀ j, q.1.ownBlock = some j → j < w4.heap.size) := Lib.hid (fun q hq j hj => by obtain ⟨cur, hc⟩ := owns_block (HUa.out q hq).2.2.2 hj; exact lt_of_block hc)
    go_wp2_with ((with_reducible show wpList _ _ _ (⟨_, .load 32 (.tmp 4), _, _, _, _⟩ :: _) _ _); refine wpList_load_mid rfl 32 (.tmp 4) rfl pb 0 rfl pcs _ (rangeAt_whole HPB.out) Tryz.underlying32 rfl (sizeIDL hpc) ?_)
    have hC := rfound_any w4 _ hs (by have h := HR.out; rw [HN.out] at h; exact h) pool hpl H64.out
    rw [HPS.out, HFA.out] at hC
    refine hC.mono ?_
    rintro e w5 ⟨vb, qb, rfl, ho, hq, hu, hk⟩
    clear hC
    have HR := Lib.hid (HR.out.keep hk)
    have HG := Lib.hid (HG.out.keep hk)
    have HK := Lib.hid (HK.out.trans hk)
    have HPB := Lib.hid (hk.blk HPB.out id)
    have HLE := Lib.hid (HLE.out.keep hk)
    have HLR := Lib.hid (HLR.out.keep hk)
    have HKS_A := Lib.hid (HKS_A.out.trans hk)
    have HOa := Lib.hid (hk.owns HOa.out fun _ _ => id)
    have HUa := Lib.hid (HUa.out.keep hk)
    obtain ⟨nb, hn_⟩ : ∃ n, qb.length = n := ⟨_, rfl⟩
    have hn4_ : nb ≤ 4 := by
      have h := congrArg List.length hq
      rw [List.length_map, hn_] at h
      rw [h, ← HFA.out]; exact foundA_four _ _
    obtain ⟨ab, cb, hv_, -, -⟩ := (Rd.of_owns ho).form
    rw [hn_] at hv_
    subst hv_
    have HQb := Lib.hid hq; have HNQb := Lib.hid hn_; have HN4b := Lib.hid hn4_
    have HOb := Lib.hid ho; have HUb := Lib.hid hu
    clear hk ho hq hu hn_ hn4_
    go_wp2_with fail
    refine (sameUbs_any w5 _ _ qa qb (by have h := Rd.of_owns HOa.out; rw [HNQa.out] at h ⊢; exact h) (by have h := Rd.of_owns HOb.out; rw [HNQb.out] at h ⊢; exact h) HUa.out.V HUb.out.V (by rw [HQa.out, HQb.out]) (by rw [HNQa.out]; have := HN4a.out; omega)).mono ?_
    rintro e w6 ⟨rfl, hk⟩
    have HR := Lib.hid (HR.out.keep hk)
    have HG := Lib.hid (HG.out.keep hk)
    have HK := Lib.hid (HK.out.trans hk)
    have HPB := Lib.hid (hk.blk HPB.out id)
    have HLE := Lib.hid (HLE.out.keep hk)
    have HLR := Lib.hid (HLR.out.keep hk)
    have HKS_A := Lib.hid (HKS_A.out.trans hk)
    have HOa := Lib.hid (hk.owns HOa.out fun _ _ => id)
    have HUa := Lib.hid (HUa.out.keep hk)
    have HOb := Lib.hid (hk.owns HOb.out fun _ _ => id)
    have HUb := Lib.hid (HUb.out.keep hk)
    clear hk
    go_wp2_with fail
    refine (overUbs_any w6 _ w4.heap.size _ qa (by have h := HOa.out; exact h) HUa.out ⟨HBa.out, HBb.out⟩).mono ?_
    rintro e w7 ⟨rfl, hk⟩
    have HOb2 := Lib.hid (hk.owns HOb.out (fun i hi e => by have h1 := owns_base HOb.out hi; have h2 := e.2; omega))
    have HUb2 : Hid (UbsO w7 w4.heap.size qb) := Lib.hid (HUb.out.far hk (fun q hq i hi e => by have h1 := owns_base (HUb.out q hq).2.2.2 hi; have h2 := e.2; omega))
    have HKS_A := Lib.hid (HKS_A.out.trans' hk (U := noBlk) (fun _ _ h => h) (fun i hi e => by have h1 := e.1; omega))
    have HR := Lib.hid (HR_A.out.keep HKS_A.out)
    have HG := Lib.hid (HG_A.out.keep HKS_A.out)
    have HK := Lib.hid (HK_A.out.trans HKS_A.out)
    have HPB := Lib.hid (HKS_A.out.blk HPB_A.out id)
    have HLE := Lib.hid (HLE_A.out.keep HKS_A.out)
    have HLR := Lib.hid (HLR_A.out.keep HKS_A.out)
    clear hk
    go_wp2_with ((with_reducible show wpList _ _ _ (⟨_, .load 32 (.tmp 4), _, _, _, _⟩ :: _) _ _); refine wpList_load_mid rfl 32 (.tmp 4) rfl pb 0 rfl pcs _ (rangeAt_whole HPB.out) Tryz.underlying32 rfl (sizeIDL hpc) ?_)
    have hC := found_any w7 aF aR HG.out _ hs HLR.out pool hpl H64.out
    rw [HPS.out, HFA.out] at hC
    refine hC.mono ?_
    rintro e w8 ⟨vc, qc, rfl, ho, hq, hu, hk⟩
    clear hC
    have HR := Lib.hid (HR.out.keep hk)
    have HG := Lib.hid (HG.out.keep hk)
    have HK := Lib.hid (HK.out.trans hk)
    have HPB := Lib.hid (hk.blk HPB.out id)
    have HLE := Lib.hid (HLE.out.keep hk)
    have HLR := Lib.hid (HLR.out.keep hk)
    have HKS_A := Lib.hid (HKS_A.out.trans hk)
    have HOb2 := Lib.hid (hk.owns HOb2.out fun _ _ => id)
    have HUb2 := Lib.hid (HUb2.out.keep hk)
    obtain ⟨nc, hn_⟩ : ∃ n, qc.length = n := ⟨_, rfl⟩
    have hn4_ : nc ≤ 4 := by
      have h := congrArg List.length hq
      rw [List.length_map, hn_] at h
      rw [h, ← HFA.out]; exact foundA_four _ _
    obtain ⟨ac, cc, hv_, -, -⟩ := (Rd.of_owns ho).form
    rw [hn_] at hv_
    subst hv_
    have HQc := Lib.hid hq; have HNQc := Lib.hid hn_; have HN4c := Lib.hid hn4_
    have HOc := Lib.hid ho; have HUc := Lib.hid hu
    clear hk ho hq hu hn_ hn4_
    obtain ⟨un, hun⟩ : ∃ x, (if hs.length = 4 then (usedN hs : Int) else 0) = x := ⟨_, rfl⟩
    obtain ⟨ue, hue⟩ : ∃ x, (if hs.length = 4 then (0 : Int) else 2) = x := ⟨_, rfl⟩
    have HUN := Lib.hid hun; have HUE := Lib.hid hue
    clear hun hue
    obtain ⟨sn, hsn⟩ : ∃ x, slotN t = x := ⟨_, rfl⟩
    obtain ⟨sb, hsb⟩ : ∃ x, slotB t = x := ⟨_, rfl⟩
    have HSN := Lib.hid hsn; have HSB := Lib.hid hsb
    clear hsn hsb
    go_wp2_with fail
    refine (used_any w8 _ hs HLR.out H6.out).mono ?_
    rintro e w9 ⟨rfl, hk⟩
    have HR := Lib.hid (HR.out.keep hk)
    have HG := Lib.hid (HG.out.keep hk)
    have HK := Lib.hid (HK.out.trans hk)
    have HPB := Lib.hid (hk.blk HPB.out id)
    have HLE := Lib.hid (HLE.out.keep hk)
    have HLR := Lib.hid (HLR.out.keep hk)
    have HKS_A := Lib.hid (HKS_A.out.trans hk)
    have HOb2 := Lib.hid (hk.owns HOb2.out fun _ _ => id)
    have HUb2 := Lib.hid (HUb2.out.keep hk)
    have HOc := Lib.hid (hk.owns HOc.out fun _ _ => id)
    have HUc := Lib.hid (HUc.out.keep hk)
    clear hk
    rw [HUN.out, HUE.out]
    go_wp2_with fail
    refine (rused_any w9 _ hs (by have h := HR.out; rw [HN.out] at h; exact h) H6.out).mono ?_
    rintro e wa ⟨rfl, hk⟩
    have HR := Lib.hid (HR.out.keep hk)
    have HG := Lib.hid (HG.out.keep hk)
    have HK := Lib.hid (HK.out.trans hk)
    have HPB := Lib.hid (hk.blk HPB.out id)
    have HLE := Lib.hid (HLE.out.keep hk)
    have HLR := Lib.hid (HLR.out.keep hk)
    have HKS_A := Lib.hid (HKS_A.out.trans hk)
    have HOb2 := Lib.hid (hk.owns HOb2.out fun _ _ => id)
    have HUb2 := Lib.hid (HUb2.out.keep hk)
    have HOc := Lib.hid (hk.owns HOc.out fun _ _ => id)
    have HUc := Lib.hid (HUc.out.keep hk)
    clear hk
    rw [HUN.out, HUE.out]
    go_wp2_with fail
    refine (slot_any wa t ht1 ht2).mono ?_
    rintro e wb ⟨rfl, hk⟩
    have HR := Lib.hid (HR.out.keep hk)
    have HG := Lib.hid (HG.out.keep hk)
    have HK := Lib.hid (HK.out.trans hk)
    have HPB := Lib.hid (hk.blk HPB.out id)
    have HLE := Lib.hid (HLE.out.keep hk)
    have HLR := Lib.hid (HLR.out.keep hk)
    have HKS_A := Lib.hid (HKS_A.out.trans hk)
    have HOb2 := Lib.hid (hk.owns HOb2.out fun _ _ => id)
    have HUb2 := Lib.hid (HUb2.out.keep hk)
    have HOc := Lib.hid (hk.owns HOc.out fun _ _ => id)
    have HUc := Lib.hid (HUc.out.keep hk)
    clear hk
    rw [HSN.out, HSB.out]
    go_wp2_with fail
    refine (rslot_any wb t ht1 ht2).mono ?_
    rintro e wc ⟨rfl, hk⟩
    have HR := Lib.hid (HR.out.keep hk)
    have HG := Lib.hid (HG.out.keep hk)
    have HK := Lib.hid (HK.out.trans hk)
    have HPB := Lib.hid (hk.blk HPB.out id)
    have HLE := Lib.hid (HLE.out.keep hk)
    have HLR := Lib.hid (HLR.out.keep hk)
    have HKS_A := Lib.hid (HKS_A.out.trans hk)
    have HOb2 := Lib.hid (hk.owns HOb2.out fun _ _ => id)
    have HUb2 := Lib.hid (HUb2.out.keep hk)
    have HOc := Lib.hid (hk.owns HOc.out fun _ _ => id)
    have HUc := Lib.hid (HUc.out.keep hk)
    clear hk
    rw [HSN.out, HSB.out]
    have heb : ∀ w, (binOp .eql 4 (.bool sb) (.bool sb)).run Tryz.prog w = .ok (.bool true) w := fun w => by cases sb <;> kernel_rfl
    go_wp2_with fail
    refine (sameUbs_any wc _ _ qc qb (by have h := Rd.of_owns HOc.out; rw [HNQc.out] at h ⊢; exact h) (by have h := Rd.of_owns HOb2.out; rw [HNQb.out] at h ⊢; exact h) HUc.out.V HUb2.out.V (by rw [HQc.out, HQb.out]) (by rw [HNQc.out]; have := HN4c.out; omega)).mono ?_
    rintro e wd ⟨rfl, hk⟩
    have HR := Lib.hid (HR.out.keep hk)
    have HG := Lib.hid (HG.out.keep hk)
    have HK := Lib.hid (HK.out.trans hk)
    have HPB := Lib.hid (hk.blk HPB.out id)
    have HLE := Lib.hid (HLE.out.keep hk)
    have HLR := Lib.hid (HLR.out.keep hk)
    have HKS_A := Lib.hid (HKS_A.out.trans hk)
    have HOb2 := Lib.hid (hk.owns HOb2.out fun _ _ => id)
    have HUb2 := Lib.hid (HUb2.out.keep hk)
    have HOc := Lib.hid (hk.owns HOc.out fun _ _ => id)
    have HUc := Lib.hid (HUc.out.keep hk)
    clear hk
    go_wp2_with fail
    refine (keptLists_any wd _ _ hs es HLE.out HES.out (by have h := HR.out; rw [HN.out] at h; exact h) (by rw [HN.out]; exact h8)).mono ?_
    rintro e we ⟨rfl, hk⟩
    have HR := Lib.hid (HR.out.keep hk)
    have HG := Lib.hid (HG.out.keep hk)
    have HK := Lib.hid (HK.out.trans hk)
    have HPB := Lib.hid (hk.blk HPB.out id)
    have HLE := Lib.hid (HLE.out.keep hk)
    have HLR := Lib.hid (HLR.out.keep hk)
    have HKS_A := Lib.hid (HKS_A.out.trans hk)
    have HOb2 := Lib.hid (hk.owns HOb2.out fun _ _ => id)
    have HUb2 := Lib.hid (HUb2.out.keep hk)
    have HOc := Lib.hid (hk.owns HOc.out fun _ _ => id)
    have HUc := Lib.hid (HUc.out.keep hk)
    clear hk
    go_wp2_with fail
    refine (awakeR_any we aF aR HG.out).mono ?_
    rintro e wf ⟨rfl, hk⟩
    have HR := Lib.hid (HR.out.keep hk)
    have HG := Lib.hid (HG.out.keep hk)
    have HK := Lib.hid (HK.out.trans hk)
    have HPB := Lib.hid (hk.blk HPB.out id)
    have HLE := Lib.hid (HLE.out.keep hk)
    have HLR := Lib.hid (HLR.out.keep hk)
    have HKS_A := Lib.hid (HKS_A.out.trans hk)
    have HOb2 := Lib.hid (hk.owns HOb2.out fun _ _ => id)
    have HUb2 := Lib.hid (HUb2.out.keep hk)
    have HOc := Lib.hid (hk.owns HOc.out fun _ _ => id)
    have HUc := Lib.hid (HUc.out.keep hk)
    clear hk
    go_wp2_with fail
    go_ret
    exact ⟨rfl, HK.out⟩
  · go_wp2_with fail
    refine (awakeR_any w2 aF aR HG.out).mono ?_
    rintro e w3 ⟨rfl, hk⟩
    have HR := Lib.hid (HR.out.keep hk)
    have HG := Lib.hid (HG.out.keep hk)
    have HK := Lib.hid (HK.out.trans hk)
    have HPB := Lib.hid (hk.blk HPB.out id)
    clear hk
    go_wp2_with fail
    go_ret
    exact ⟨rfl, HK.out⟩

end Go.Proofs.YtaiicjhnhbkgmaaGreatDoor

/-
  What comes in: rows of rows of bytes.
  Conditions: none.
-/
namespace Go.Proofs.YtaiicjhnhbkgmaaGreatDoor
open Go.ChangeShapes Go.WideShapes Go.ChangeAt Go.RowKit
set_option maxRecDepth 100000
set_option linter.unusedVariables false

theorem cellsLB : Tryz.prog.cellsOf 51 = 1 := by kernel_rfl
section
variable {H : Type} {enc : TypeId × Value → H} {w : World} {base : Nat} {spare : Nat → Bool} {held : Bool} {fuel : Nat}
theorem lists_of_trod {a : Option Addr} {len cap : Nat} {x : DataW H × List MemPlace} (h : DataW.trod enc Tryz.prog w base spare held fuel 41 [.slice a len cap] = some x) :
    ∃ l : List (List UInt8), l.length = len ∧ RowsB w (.slice a len cap) l := by
  obtain ⟨l, h1, h2, h3⟩ := rows_of_trod (α := Value × List UInt8) (f := fun p => [p.1]) (ok := fun p => Rd w 1 p.1 p.2.length (p.2.map vb)) Tryz.underlying41 cellsLB (by decide) (fun y hy => rfl) (fun n cs x hx => by
    rcases Go.Deep.open_slice Tryz.underlying51 hx with ⟨hcs, _⟩ | ⟨y, ln, c, m, n', D, Pl, hcs, _⟩
    · exact ⟨(.slice none 0 0, []), Rd.nil _ _, hcs⟩
    · subst hcs
      obtain ⟨L, hL, hr⟩ := bytes_of_trod hx
      exact ⟨(_, L), by rw [hL]; exact hr, rfl⟩) h
  have e : (l.flatMap fun p : Value × List UInt8 => [p.1]) = l.map fun p => p.1 := by
    rw [← List.flatMap_singleton' (l.map fun p => p.1), List.flatMap_map]
  rw [e] at h3
  refine ⟨l.map (·.2), by simpa using h1, ⟨l.map (·.1), by rw [List.length_map, h1]; exact h3, fun i L hi => ?_⟩⟩
  rw [List.getElem?_map] at hi
  obtain ⟨p, hp, rfl⟩ := Option.map_eq_some_iff.1 hi
  exact ⟨p.1, by rw [List.getElem?_map, hp]; rfl, h2 p (List.mem_of_getElem? hp)⟩
end
end Go.Proofs.YtaiicjhnhbkgmaaGreatDoor
