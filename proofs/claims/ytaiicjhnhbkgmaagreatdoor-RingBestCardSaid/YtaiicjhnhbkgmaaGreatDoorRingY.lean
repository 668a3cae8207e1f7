/-
  RingBest's walk.
  Conditions: none.
-/
import Derived.Test.YtaiicjhnhbkgmaaGreatDoorRingX
namespace Go.Proofs.YtaiicjhnhbkgmaaGreatDoor
open Go.RowKit Go.Maps Go.ChangeMaps
set_option maxRecDepth 100000
set_option linter.unusedVariables false

set_option maxHeartbeats 16000000 in
theorem ringBest_walk (w : World) (aF aR : Addr) (hg : ErrG w aF aR) (v : Value) (ps : List (Value × Ub)) (hV : UbsV w ps) (hr : Rd w 69 v ps.length (ubRow ps)) : Calls Tryz.prog 3 #[v] w (TherePost w true) := by
  obtain ⟨oa, ca, hv, -, -⟩ := hr.form
  subst hv
  have HR := Lib.hid hr; have HG := Lib.hid hg; have HK := Lib.hid (Keep.refl noBlk w); have HV := Lib.hid hV
  obtain ⟨n, hn⟩ : ∃ n, ps.length = n := ⟨_, rfl⟩
  have HN := Lib.hid hn
  have HL := Lib.hid (long_any w (.slice none 0 0) (.slice oa ps.length ca) [] ps ⟨[], Rd.nil _ _, fun i L h => by simp at h⟩ hr hV)
  rw [hn] at HR HL ⊢
  obtain ⟨lb, hlb⟩ : ∃ b, longB [] ps = b := ⟨_, rfl⟩
  rw [hlb] at HL
  clear hr hg hV hn
  go_enter Tryz.func3, Tryz.ntmps3
  go_wp2_with fail
  refine HL.out.mono ?_
  rintro e w1 ⟨rfl, hk⟩
  have HR := Lib.hid (HR.out.keep hk fun _ _ => id)
  have HG := Lib.hid (HG.out.keep hk)
  have HK := Lib.hid (HK.out.trans hk)
  have HV := Lib.hid (HV.out.keep hk)
  clear hk HL
  cases lb
  · obtain ⟨-, ha20, -, hn20⟩ := long_no hlb
    have HA : Hid (∀ p ∈ ps, p.2.root.addrs.length ≤ 65536) := Lib.hid (fun p hp => by have := ha20 p hp; omega)
    rw [HN.out] at hn20
    clear ha20 hlb
    go_wp2_with fail
    refine (copyUbs_any w1 _ ps (by rw [HN.out]; exact HR.out) HV.out (by rw [HN.out]; omega) HA.out).mono ?_
    rintro e w3 ⟨vi, qi, rfl, ho, hq, hu, hk⟩
    have HR := Lib.hid (HR.out.keep hk fun _ _ => id)
    have HG := Lib.hid (HG.out.keep hk)
    have HK := Lib.hid (HK.out.trans hk)
    have HV := Lib.hid (HV.out.keep hk)
    have hni : qi.length = n := by have h := congrArg List.length hq; rw [List.length_map, List.length_map, HN.out] at h; exact h
    rw [hni] at ho
    obtain ⟨ai, ci, hv_, -, -⟩ := (Rd.of_owns ho).form
    subst hv_
    have HOi := Lib.hid ho; have HUi := Lib.hid hu; have HQi := Lib.hid hq; have HNi := Lib.hid hni
    have HAi : Hid (∀ p ∈ qi, p.2.root.addrs.length ≤ 65536) := Lib.hid (fun p hp => by
      have h1 : p.2 ∈ qi.map (·.2) := List.mem_map.2 ⟨p, hp, rfl⟩
      rw [hq] at h1
      obtain ⟨p2, h2, h3⟩ := List.mem_map.1 h1
      rw [← h3]; exact HA.out p2 h2)
    clear hk ho hq hu hni
    go_wp2_with fail
    have HR_A := HR
    have HG_A := HG
    have HK_A := HK
    have HV_A := HV
    have HOi_A := HOi
    have HUi_A := HUi
    have HKS_A := Lib.hid (Keep.refl noBlk w3)
    refine (best_any w3 _ qi (by rw [HNi.out]; exact Rd.of_owns HOi.out) HUi.out.V (by rw [HNi.out]; omega) HAi.out).mono ?_
    rintro e w4 ⟨va, qa, rfl, ho, hb, hu, hk, hlen⟩
    have HR := Lib.hid (HR.out.keep hk fun _ _ => id)
    have HG := Lib.hid (HG.out.keep hk)
    have HK := Lib.hid (HK.out.trans hk)
    have HV := Lib.hid (HV.out.keep hk)
    have HOi := Lib.hid (hk.owns HOi.out fun _ _ => id)
    have HUi := Lib.hid (HUi.out.keep hk)
    have HKS_A := Lib.hid (HKS_A.out.trans hk)
    obtain ⟨na, hn_⟩ : ∃ n, qa.length = n := ⟨_, rfl⟩
    rw [hn_] at ho hlen
    have hn4_ : na ≤ 64 := by rw [List.length_map] at hlen; rw [HNi.out] at hlen; omega
    obtain ⟨aa, cA, hv_, -, -⟩ := (Rd.of_owns ho).form
    subst hv_
    rw [HQi.out] at hb
    have HBa := Lib.hid hb; have HNQa := Lib.hid hn_; have HN4a := Lib.hid hn4_
    have HOa := Lib.hid ho; have HUa := Lib.hid hu
    clear hk ho hb hu hn_ hn4_ hlen
    have HBa2 : Hid (∀ j, (Value.slice aa na cA).ownBlock = some j → j < w4.heap.size) := Lib.hid (fun j hj => by obtain ⟨cur, hc⟩ := owns_block HOa.out hj; exact lt_of_block hc)
    have HBb2 : Hid (∀ q ∈ qa, ∀ j, q.1.ownBlock = some j → j < w4.heap.size) := Lib.hid (fun q hq j hj => by obtain ⟨cur, hc⟩ := owns_block (HUa.out q hq).2.2.2 hj; exact lt_of_block hc)
    go_wp2_with fail
    refine (rbest_any w4 _ ps (by rw [HN.out]; exact HR.out) HV.out (by rw [HN.out]; omega) HA.out).mono ?_
    rintro e w5 ⟨vb, qb, rfl, ho, hb, hu, hk, hlen⟩
    have HR := Lib.hid (HR.out.keep hk fun _ _ => id)
    have HG := Lib.hid (HG.out.keep hk)
    have HK := Lib.hid (HK.out.trans hk)
    have HV := Lib.hid (HV.out.keep hk)
    have HOi := Lib.hid (hk.owns HOi.out fun _ _ => id)
    have HUi := Lib.hid (HUi.out.keep hk)
    have HKS_A := Lib.hid (HKS_A.out.trans hk)
    have HOa := Lib.hid (hk.owns HOa.out fun _ _ => id)
    have HUa := Lib.hid (HUa.out.keep hk)
    obtain ⟨nb, hn_⟩ : ∃ n, qb.length = n := ⟨_, rfl⟩
    rw [hn_] at ho hlen
    have hn4_ : nb ≤ 64 := by rw [List.length_map] at hlen; rw [HN.out] at hlen; omega
    obtain ⟨ab, cb, hv_, -, -⟩ := (Rd.of_owns ho).form
    subst hv_
    skip
    have HBb := Lib.hid hb; have HNQb := Lib.hid hn_; have HN4b := Lib.hid hn4_
    have HOb := Lib.hid ho; have HUb := Lib.hid hu
    clear hk ho hb hu hn_ hn4_ hlen
    go_wp2_with fail
    refine (sameUbs_any w5 _ _ qa qb (by have h := Rd.of_owns HOa.out; rw [HNQa.out]; exact h) (by have h := Rd.of_owns HOb.out; rw [HNQb.out]; exact h) HUa.out.V HUb.out.V (HBa.out.unique HBb.out) (by rw [HNQa.out]; have := HN4a.out; omega)).mono ?_
    rintro e w6 ⟨rfl, hk⟩
    have HR := Lib.hid (HR.out.keep hk fun _ _ => id)
    have HG := Lib.hid (HG.out.keep hk)
    have HK := Lib.hid (HK.out.trans hk)
    have HV := Lib.hid (HV.out.keep hk)
    have HOi := Lib.hid (hk.owns HOi.out fun _ _ => id)
    have HUi := Lib.hid (HUi.out.keep hk)
    have HKS_A := Lib.hid (HKS_A.out.trans hk)
    have HOa := Lib.hid (hk.owns HOa.out fun _ _ => id)
    have HUa := Lib.hid (HUa.out.keep hk)
    have HOb := Lib.hid (hk.owns HOb.out fun _ _ => id)
    have HUb := Lib.hid (HUb.out.keep hk)
    clear hk
    go_wp2_with fail
    refine (overUbs_any w6 _ w4.heap.size _ qa (by rw [HNQa.out]; exact HOa.out) HUa.out ⟨HBa2.out, HBb2.out⟩).mono ?_
    rintro e w7 ⟨rfl, hk⟩
    have HOb2 := Lib.hid (hk.owns HOb.out (fun i hi e => by have h1 := owns_base HOb.out hi; have h2 := e.2; omega))
    have HUb2 : Hid (UbsO w7 w4.heap.size qb) := Lib.hid (HUb.out.far hk (fun q hq i hi e => by have h1 := owns_base (HUb.out q hq).2.2.2 hi; have h2 := e.2; omega))
    have HKS_A := Lib.hid (HKS_A.out.trans' hk (U := noBlk) (fun _ _ h => h) (fun i hi e => by have h1 := e.1; omega))
    have HR := Lib.hid (HR_A.out.keep HKS_A.out fun _ _ => id)
    have HG := Lib.hid (HG_A.out.keep HKS_A.out)
    have HK := Lib.hid (HK_A.out.trans HKS_A.out)
    have HV := Lib.hid (HV_A.out.keep HKS_A.out)
    have HOi := Lib.hid (HKS_A.out.owns HOi_A.out fun _ _ => id)
    have HUi := Lib.hid (HUi_A.out.keep HKS_A.out)
    clear hk
    go_wp2_with fail
    refine (sameUbs_any w7 _ _ qi ps (by rw [HNi.out]; exact Rd.of_owns HOi.out) (by rw [HN.out]; exact HR.out) HUi.out.V HV.out HQi.out (by rw [HNi.out]; omega)).mono ?_
    rintro e w8 ⟨rfl, hk⟩
    have HR := Lib.hid (HR.out.keep hk fun _ _ => id)
    have HG := Lib.hid (HG.out.keep hk)
    have HK := Lib.hid (HK.out.trans hk)
    have HV := Lib.hid (HV.out.keep hk)
    have HOi := Lib.hid (hk.owns HOi.out fun _ _ => id)
    have HUi := Lib.hid (HUi.out.keep hk)
    have HKS_A := Lib.hid (HKS_A.out.trans hk)
    have HOb2 := Lib.hid (hk.owns HOb2.out fun _ _ => id)
    have HUb2 := Lib.hid (HUb2.out.keep hk)
    clear hk
    go_wp2_with fail
    refine (best_any w8 _ qi (by rw [HNi.out]; exact Rd.of_owns HOi.out) HUi.out.V (by rw [HNi.out]; omega) HAi.out).mono ?_
    rintro e w9 ⟨vc, qc, rfl, ho, hb, hu, hk, hlen⟩
    have HR := Lib.hid (HR.out.keep hk fun _ _ => id)
    have HG := Lib.hid (HG.out.keep hk)
    have HK := Lib.hid (HK.out.trans hk)
    have HV := Lib.hid (HV.out.keep hk)
    have HOi := Lib.hid (hk.owns HOi.out fun _ _ => id)
    have HUi := Lib.hid (HUi.out.keep hk)
    have HKS_A := Lib.hid (HKS_A.out.trans hk)
    have HOb2 := Lib.hid (hk.owns HOb2.out fun _ _ => id)
    have HUb2 := Lib.hid (HUb2.out.keep hk)
    obtain ⟨nc, hn_⟩ : ∃ n, qc.length = n := ⟨_, rfl⟩
    rw [hn_] at ho hlen
    have hn4_ : nc ≤ 64 := by rw [List.length_map] at hlen; rw [HNi.out] at hlen; omega
    obtain ⟨ac, cc, hv_, -, -⟩ := (Rd.of_owns ho).form
    subst hv_
    rw [HQi.out] at hb
    have HBc := Lib.hid hb; have HNQc := Lib.hid hn_; have HN4c := Lib.hid hn4_
    have HOc := Lib.hid ho; have HUc := Lib.hid hu
    clear hk ho hb hu hn_ hn4_ hlen
    go_wp2_with fail
    refine (sameUbs_any w9 _ _ qc qb (by have h := Rd.of_owns HOc.out; rw [HNQc.out]; exact h) (by have h := Rd.of_owns HOb2.out; rw [HNQb.out]; exact h) HUc.out.V HUb2.out.V (HBc.out.unique HBb.out) (by rw [HNQc.out]; have := HN4c.out; omega)).mono ?_
    rintro e wa ⟨rfl, hk⟩
    have HR := Lib.hid (HR.out.keep hk fun _ _ => id)
    have HG := Lib.hid (HG.out.keep hk)
    have HK := Lib.hid (HK.out.trans hk)
    have HV := Lib.hid (HV.out.keep hk)
    have HOi := Lib.hid (hk.owns HOi.out fun _ _ => id)
    have HUi := Lib.hid (HUi.out.keep hk)
    have HKS_A := Lib.hid (HKS_A.out.trans hk)
    have HOb2 := Lib.hid (hk.owns HOb2.out fun _ _ => id)
    have HUb2 := Lib.hid (HUb2.out.keep hk)
    have HOc := Lib.hid (hk.owns HOc.out fun _ _ => id)
    have HUc := Lib.hid (HUc.out.keep hk)
    clear hk
    go_wp2_with fail
    refine (awakeR_any wa aF aR HG.out).mono ?_
    rintro e wb ⟨rfl, hk⟩
    have HR := Lib.hid (HR.out.keep hk fun _ _ => id)
    have HG := Lib.hid (HG.out.keep hk)
    have HK := Lib.hid (HK.out.trans hk)
    have HV := Lib.hid (HV.out.keep hk)
    have HOi := Lib.hid (hk.owns HOi.out fun _ _ => id)
    have HUi := Lib.hid (HUi.out.keep hk)
    have HKS_A := Lib.hid (HKS_A.out.trans hk)
    have HOb2 := Lib.hid (hk.owns HOb2.out fun _ _ => id)
    have HUb2 := Lib.hid (HUb2.out.keep hk)
    have HOc := Lib.hid (hk.owns HOc.out fun _ _ => id)
    have HUc := Lib.hid (HUc.out.keep hk)
    clear hk
    go_wp2_with fail
    go_ret
    exact ⟨rfl, HK.out⟩
  · go_wp2_with fail
    refine (awakeR_any w1 aF aR HG.out).mono ?_
    rintro e w3 ⟨rfl, hk⟩
    have HR := Lib.hid (HR.out.keep hk fun _ _ => id)
    have HG := Lib.hid (HG.out.keep hk)
    have HK := Lib.hid (HK.out.trans hk)
    have HV := Lib.hid (HV.out.keep hk)
    clear hk
    go_wp2_with fail
    go_ret
    exact ⟨rfl, HK.out⟩

end Go.Proofs.YtaiicjhnhbkgmaaGreatDoor
