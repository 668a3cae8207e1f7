/-
  the law's long.
  Conditions: none.
-/
import Derived.Test.YtaiicjhnhbkgmaaGreatDoorRingO
namespace Go.Proofs.YtaiicjhnhbkgmaaGreatDoor
open Go.RowKit Go.Maps Go.ChangeMaps
set_option maxRecDepth 100000
set_option linter.unusedVariables false

def longB (hs : List (List UInt8)) (ps : List (Value × Ub)) : Bool := hs.any (fun L => decide (600 < L.length)) || (ps.any (fun p => decide (20 < p.2.root.addrs.length)) || (decide (8 < hs.length) || decide (20 < ps.length)))
theorem long_no {hs : List (List UInt8)} {ps : List (Value × Ub)} (h : longB hs ps = false) : (∀ L ∈ hs, L.length ≤ 600) ∧ (∀ p ∈ ps, p.2.root.addrs.length ≤ 20) ∧ hs.length ≤ 8 ∧ ps.length ≤ 20 := by
  unfold longB at h
  simp only [Bool.or_eq_false_iff, List.any_eq_false, decide_eq_false_iff_not, decide_eq_true_eq] at h
  obtain ⟨h1, h2, h3, h4⟩ := h
  exact ⟨fun L hL => Nat.le_of_not_lt (h1 L hL), fun p hp => Nat.le_of_not_lt (h2 p hp), Nat.le_of_not_lt h3, Nat.le_of_not_lt h4⟩
theorem long_is {hs : List (List UInt8)} {ps : List (Value × Ub)} (h1 : ∀ L ∈ hs, L.length ≤ 600) (h2 : ∀ p ∈ ps, p.2.root.addrs.length ≤ 20) : longB hs ps = (decide (8 < hs.length) || decide (20 < ps.length)) := by
  unfold longB
  have a : hs.any (fun L => decide (600 < L.length)) = false := by
    rw [List.any_eq_false]; intro L hL; have := h1 L hL; simp; omega
  have b : ps.any (fun p => decide (20 < p.2.root.addrs.length)) = false := by
    rw [List.any_eq_false]; intro p hp; have := h2 p hp; simp; omega
  rw [a, b]; rfl
set_option maxHeartbeats 8000000 in
theorem long_any (w : World) (v1 v2 : Value) (hs : List (List UInt8)) (ps : List (Value × Ub)) (hr1 : RowsB w v1 hs) (hr2 : Rd w 69 v2 ps.length (ubRow ps)) (hV : UbsV w ps) : Calls Tryz.prog 9 #[v1, v2] w (TherePost w (longB hs ps)) := by
  obtain ⟨oa, ca, hv, hm1⟩ := hr1.form
  subst hv
  obtain ⟨ob, cb, hv, hm2, hm3⟩ := hr2.form
  subst hv
  obtain ⟨n1, hn1⟩ : ∃ n, hs.length = n := ⟨_, rfl⟩
  obtain ⟨n2, hn2⟩ : ∃ n, ps.length = n := ⟨_, rfl⟩
  have HN1 := Lib.hid hn1; have HN2 := Lib.hid hn2; have HR1 := Lib.hid hr1; have HR2 := Lib.hid hr2; have HV := Lib.hid hV; have HL := Lib.hid hV.lens
  rw [hn1] at hm1 ⊢
  rw [hn2] at hm2 ⊢
  unfold maxLen at hm1 hm3
  have hm4 : n2 ≤ 9223372036854775807 := by omega
  clear hr1 hr2 hV hn1 hn2 hm2 hm3
  go_enter Tryz.func9, Tryz.ntmps9
  go_wp2_with fail
  go_loopw [5] (fun i wr => ∃ k : Nat, k ≤ n1 ∧ i = .int .i64 k ∧ Hid (∀ L ∈ hs.take k, L.length ≤ 600) ∧ Hid (Keep noBlk w wr)) (fun i _ => n1 - (intOf i).toNat)
  case atStart => exact ⟨0, Nat.zero_le _, rfl, Lib.hid (by intro L hL; cases hL), Lib.hid (Keep.refl _ _)⟩
  case round =>
  obtain ⟨k, hk, rfl, HA, HK⟩ := hrel
  by_cases hlt : k < n1
  · have hki : (k : Int) < (n1 : Int) := by omega
    have hk0 : (0 : Int) ≤ (k : Int) := by omega
    obtain ⟨L, hL⟩ : ∃ L, hs[k]? = some L := ⟨hs[k]'(by rw [HN1.out]; exact hlt), List.getElem?_eq_getElem _⟩
    obtain ⟨gb, go, gc, ua, uc, hv, hc, -⟩ := (HR1.out.keep HK.out).at hL
    have e1 : oa = some ⟨gb, go, none⟩ := by cases hv; rfl
    subst e1
    have HTK : Hid (hs.take (k + 1) = hs.take k ++ [L]) := Lib.hid (by rw [List.take_add_one, hL]; rfl)
    have HLM := Lib.hid (List.mem_of_getElem? hL)
    obtain ⟨nl, hnl⟩ : ∃ n, L.length = n := ⟨_, rfl⟩
    have HNL := Lib.hid hnl
    rw [hnl] at hc
    clear hv hL hnl
    by_cases hx : 600 < nl
    · have HB : Hid (longB hs ps = true) := Lib.hid (by unfold longB; rw [List.any_eq_true.2 ⟨L, HLM.out, decide_eq_true (by rw [HNL.out]; exact hx)⟩]; rfl)
      rw [HB.out]
      have hxi : (600 : Int) < (nl : Int) := by omega
      go_wp2_with fail
      go_ret
      exact ⟨rfl, HK.out⟩
    · have hxi : ¬ (600 : Int) < (nl : Int) := by omega
      have hxd : decide ((600 : Int) < (nl : Int)) = false := decide_eq_false hxi
      go_wp2_with fail
      go_roundw
      case rel => exact ⟨k + 1, by omega, by go_num, Lib.hid (fun M hM => by
        rw [HTK.out] at hM
        rcases List.mem_append.1 hM with h | h
        · exact HA.out M h
        · rw [List.mem_singleton.1 h, HNL.out]; omega), HK⟩
      case measure => simp [intOf]; omega
  · obtain rfl : n1 = k := by omega
    have HA1 : Hid (∀ L ∈ hs, L.length ≤ 600) := Lib.hid (by have h := HA.out; rw [List.take_of_length_le (by rw [HN1.out]; exact Nat.le_refl _)] at h; exact h)
    go_wp2_with fail
    clear HA
    go_loopw [6] (fun i wr => ∃ k : Nat, k ≤ n2 ∧ i = .int .i64 k ∧ Hid (∀ p ∈ ps.take k, p.2.root.addrs.length ≤ 20) ∧ Hid (Keep noBlk w wr)) (fun i _ => n2 - (intOf i).toNat)
    case atStart => exact ⟨0, Nat.zero_le _, rfl, Lib.hid (by intro L hL; cases hL), HK⟩
    case round =>
    clear HK
    obtain ⟨j, hj, rfl, HA, HK⟩ := hrel
    by_cases hjt : j < n2
    · have hji : (j : Int) < (n2 : Int) := by omega
      have hj0 : (0 : Int) ≤ (j : Int) := by omega
      obtain ⟨p, hp⟩ : ∃ p, ps[j]? = some p := ⟨ps[j]'(by rw [HN2.out]; exact hjt), List.getElem?_eq_getElem _⟩
      obtain ⟨g, o, cap, hv, hat⟩ := rd_ub HL.out (HR2.out.keep HK.out fun _ _ => id) hp
      have e1 : ob = some ⟨g, o, none⟩ := by cases hv; rfl
      subst e1
      obtain ⟨pa, pc, hpv, -, -⟩ := (HV.out p (List.mem_of_getElem? hp)).root.rd.form
      have hc := hat 1 p.1 rfl
      rw [hpv] at hc
      have HTK : Hid (ps.take (j + 1) = ps.take j ++ [p]) := Lib.hid (by rw [List.take_add_one, hp]; rfl)
      have HLM := Lib.hid (List.mem_of_getElem? hp)
      obtain ⟨nl, hnl⟩ : ∃ n, p.2.root.addrs.length = n := ⟨_, rfl⟩
      have HNL := Lib.hid hnl
      rw [hnl] at hc
      clear hv hat hp hnl hpv
      by_cases hx : 20 < nl
      · have HB : Hid (longB hs ps = true) := Lib.hid (by unfold longB; rw [List.any_eq_true.2 ⟨p, HLM.out, decide_eq_true (by rw [HNL.out]; exact hx)⟩]; simp)
        rw [HB.out]
        have hxi : (20 : Int) < (nl : Int) := by omega
        go_wp2_with fail
        go_ret
        exact ⟨rfl, HK.out⟩
      · have hxi : ¬ (20 : Int) < (nl : Int) := by omega
        have hxd : decide ((20 : Int) < (nl : Int)) = false := decide_eq_false hxi
        go_wp2_with fail
        go_roundw
        case rel => exact ⟨j + 1, by omega, by go_num, Lib.hid (fun M hM => by
          rw [HTK.out] at hM
          rcases List.mem_append.1 hM with h | h
          · exact HA.out M h
          · rw [List.mem_singleton.1 h, HNL.out]; omega), HK⟩
        case measure => simp [intOf]; omega
    · obtain rfl : n2 = j := by omega
      have HA2 : Hid (∀ p ∈ ps, p.2.root.addrs.length ≤ 20) := Lib.hid (by have h := HA.out; rw [List.take_of_length_le (by rw [HN2.out]; exact Nat.le_refl _)] at h; exact h)
      have HB := Lib.hid (long_is HA1.out HA2.out)
      by_cases h8 : 8 < n1
      · have h8i : (8 : Int) < (n1 : Int) := by omega
        skip
        go_wp2_with fail
        go_ret
        exact ⟨by rw [HB.out, HN1.out, decide_eq_true h8]; rfl, HK.out⟩
      · have h8i : decide ((8 : Int) < (n1 : Int)) = false := decide_eq_false (by omega)
        by_cases h20 : 20 < n2
        · have h20i : (20 : Int) < (n2 : Int) := by omega
          skip
          go_wp2_with fail
          go_ret
          exact ⟨by rw [HB.out, HN1.out, HN2.out, decide_eq_false h8, decide_eq_true h20]; rfl, HK.out⟩
        · have h20i : decide ((20 : Int) < (n2 : Int)) = false := decide_eq_false (by omega)
          skip
          go_wp2_with fail
          go_ret
          exact ⟨by rw [HB.out, HN1.out, HN2.out, decide_eq_false h8, decide_eq_false h20]; rfl, HK.out⟩

end Go.Proofs.YtaiicjhnhbkgmaaGreatDoor
