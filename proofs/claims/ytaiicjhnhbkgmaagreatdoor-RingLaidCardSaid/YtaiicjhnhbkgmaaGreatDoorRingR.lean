/-
  RingTurns' walk.
  Conditions: none.
-/
import Derived.Test.YtaiicjhnhbkgmaaGreatDoorRingQ
namespace Go.Proofs.YtaiicjhnhbkgmaaGreatDoor
open Go.RowKit Go.Maps Go.ChangeMaps
set_option maxRecDepth 100000
set_option linter.unusedVariables false

theorem slot_in {t : Int} (h1 : 1 ≤ t) (h2 : t ≤ 2147483648) : slotB t = true ∧ slotN t = 1 + t % 4 := by
  have h : slotB t = true := by unfold slotB; rw [decide_eq_true h1, decide_eq_true h2]; rfl
  exact ⟨h, by unfold slotN; rw [if_pos h]⟩
theorem slot_off {t : Int} (h : ¬ (1 ≤ t ∧ t ≤ 2147483648)) : slotB t = false ∧ slotN t = 0 := by
  have e : slotB t = false := by
    cases e : slotB t
    · rfl
    · unfold slotB at e; simp only [Bool.and_eq_true, decide_eq_true_eq] at e; exact absurd e h
  exact ⟨e, by unfold slotN; rw [e]; rfl⟩
set_option maxHeartbeats 8000000 in
theorem ringTurns_walk (w : World) (aF aR : Addr) (hg : ErrG w aF aR) (t : Int) (h1 : -9223372036854775808 ≤ t) (h2 : t ≤ 9223372036854775807) : Calls Tryz.prog 7 #[.int .i64 t] w (TherePost w true) := by
  have HG := Lib.hid hg
  clear hg
  have HK0 := Lib.hid (ringKnown_walk w aF aR HG.out)
  by_cases hin : 1 ≤ t ∧ t ≤ 2147483648
  · obtain ⟨hb, hn⟩ := slot_in hin.1 hin.2
    obtain ⟨n, hn_⟩ : ∃ n, slotN t = n := ⟨_, rfl⟩
    have hn1 : decide (n < 1) = false := decide_eq_false (by omega)
    have hn4 : decide (4 < n) = false := decide_eq_false (by omega)
    have ht1 : decide (t < 1) = false := decide_eq_false (by omega)
    have ht2 : decide (2147483648 < t) = false := decide_eq_false (by omega)
    have HN := Lib.hid hn; have HN_ := Lib.hid hn_; have HI := Lib.hid hin
    have HS := Lib.hid (fun w => slot_any w t h1 h2)
    have HB := Lib.hid hb
    have hti := hin.1
    have htx := hin.2
    clear hb hn hn_ hin h1 h2
    go_enter Tryz.func7, Tryz.ntmps7
    go_wp2_with fail
    refine HK0.out.mono ?_
    rintro e w1 ⟨rfl, hk⟩
    have HK := Lib.hid hk
    clear hk
    go_wp2_with fail
    refine (HS.out w1).mono ?_
    rintro e w2 ⟨rfl, hk⟩
    rw [HB.out, HN_.out]
    have HK := Lib.hid (HK.out.trans hk)
    clear hk
    go_wp2_with fail
    go_loopw [6] (fun i wr => ∃ k : Nat, 1 ≤ k ∧ k ≤ 4 ∧ i = .int .i64 k ∧ Hid (Keep noBlk w wr)) (fun i _ => 4 - (intOf i).toNat)
    case atStart => exact ⟨1, by omega, by omega, rfl, HK⟩
    case round =>
    clear HK
    obtain ⟨k, hk1, hk4, rfl, HK⟩ := hrel
    by_cases hgo : k < 4 ∧ t + k ≤ 2147483648
    · have hki : (k : Int) < 4 := by omega
      have htk : t + (k : Int) ≤ 2147483648 := hgo.2
      have hk0 : (1 : Int) ≤ (k : Int) := by omega
      obtain ⟨hsb, hsn⟩ := slot_in (t := t + k) (by omega) htk
      obtain ⟨m, hm_⟩ : ∃ m, slotN (t + k) = m := ⟨_, rfl⟩
      have hmn : (m == n) = false := by
        have h5 := HN.out; have h6 := HN_.out
        have h7 : ¬ m = n := by omega
        simpa using h7
      have HSK := Lib.hid (fun w => slot_any w (t + k) (by omega) (by omega))
      have HSB := Lib.hid hsb; have HM := Lib.hid hm_
      clear hsb hsn hm_
      go_wp2_with fail
      refine (HSK.out wr).mono ?_
      rintro e w3 ⟨rfl, hk⟩
      rw [HSB.out, HM.out]
      have HK := Lib.hid (HK.out.trans hk)
      clear hk
      go_wp2_with fail
      go_roundw
      case rel => exact ⟨k + 1, by omega, by omega, by go_num, HK⟩
      case measure => simp [intOf]; omega
    · have hor : (k : Int) < 4 → ¬ t + (k : Int) ≤ 2147483648 := by omega
      by_cases hk : k < 4
      · have hki : (k : Int) < 4 := by omega
        have hne := hor hki
        have hgt : 2147483648 < t + (k : Int) := by omega
        have h4 : 2147483648 < t + 4 := by omega
        have hsl := slot_off (t := t + 4) (by omega)
        have HSL := Lib.hid hsl
        have HS4 := Lib.hid (fun w => slot_any w (t + 4) (by omega) (by omega))
        clear hsl
        go_wp2_with fail
        refine (HS4.out wr).mono ?_
        rintro e w3 ⟨rfl, hk⟩
        rw [HSL.out.1, HSL.out.2]
        have HK := Lib.hid (HK.out.trans hk)
        clear hk
        go_wp2_with fail
        go_ret
        exact ⟨rfl, HK.out⟩
      · obtain rfl : k = 4 := by omega
        by_cases h4 : t + 4 ≤ 2147483648
        · have hsl := slot_in (t := t + 4) (by omega) h4
          have hee : 1 + (t + 4) % 4 = n := by have h5 := HN.out; have h6 := HN_.out; omega
          rw [hee] at hsl
          have h44 : decide (2147483648 < t + 4) = false := decide_eq_false (by omega)
          have HSL := Lib.hid hsl
          have HS4 := Lib.hid (fun w => slot_any w (t + 4) (by omega) (by omega))
          clear hsl
          go_wp2_with fail
          refine (HS4.out wr).mono ?_
          rintro e w3 ⟨rfl, hk⟩
          rw [HSL.out.1, HSL.out.2]
          have HK := Lib.hid (HK.out.trans hk)
          clear hk
          go_wp2_with fail
          go_ret
          exact ⟨rfl, HK.out⟩
        · have hsl := slot_off (t := t + 4) (by omega)
          have h44 : 2147483648 < t + 4 := by omega
          have HSL := Lib.hid hsl
          have HS4 := Lib.hid (fun w => slot_any w (t + 4) (by omega) (by omega))
          clear hsl
          go_wp2_with fail
          refine (HS4.out wr).mono ?_
          rintro e w3 ⟨rfl, hk⟩
          rw [HSL.out.1, HSL.out.2]
          have HK := Lib.hid (HK.out.trans hk)
          clear hk
          go_wp2_with fail
          go_ret
          exact ⟨rfl, HK.out⟩
  · obtain ⟨hb, hn⟩ := slot_off hin
    have HS := Lib.hid (fun w => slot_any w t h1 h2)
    have HI := Lib.hid hin
    have HB := Lib.hid hb; have HN := Lib.hid hn
    clear hb hn hin
    by_cases ht : t < 1
    · go_enter Tryz.func7, Tryz.ntmps7
      go_wp2_with fail
      refine HK0.out.mono ?_
      rintro e w1 ⟨rfl, hk⟩
      have HK := Lib.hid hk
      clear hk
      go_wp2_with fail
      refine (HS.out w1).mono ?_
      rintro e w2 ⟨rfl, hk⟩
      rw [HB.out, HN.out]
      have HK := Lib.hid (HK.out.trans hk)
      clear hk
      go_wp2_with fail
      go_ret
      exact ⟨rfl, HK.out⟩
    · have ht2 : 2147483648 < t := by have := HI.out; omega
      go_enter Tryz.func7, Tryz.ntmps7
      go_wp2_with fail
      refine HK0.out.mono ?_
      rintro e w1 ⟨rfl, hk⟩
      have HK := Lib.hid hk
      clear hk
      go_wp2_with fail
      refine (HS.out w1).mono ?_
      rintro e w2 ⟨rfl, hk⟩
      rw [HB.out, HN.out]
      have HK := Lib.hid (HK.out.trans hk)
      clear hk
      go_wp2_with fail
      go_ret
      exact ⟨rfl, HK.out⟩

end Go.Proofs.YtaiicjhnhbkgmaaGreatDoor
