/-
  AllocNone: what is none answers nothing.
  Conditions: none but those of the given statement.
-/
import Derived.Test.YtfjklgbakhjjiaaLawA
namespace Go.Proofs.Ytfjklgbakhjjiaa
open Go.RowKit Go.Maps Go.ChangeMaps
set_option maxRecDepth 100000
set_option linter.unusedVariables false

set_option maxHeartbeats 16000000 in
theorem allocNone_walk (w : World) (vt : Value) (th : List Bool) (ht : Rd w 1 vt th.length (th.map Value.bool)) (cp : Int) (v : Value) (l : List Ad) (ho : AdsOk l) (hr : Rd w 2 v l.length (adCells l)) (x : Ad) :
    Calls Try.prog 4 #[vt, .int .i64 cp, v, .agg (adCs x).toArray] w (TherePost w true) := by
  obtain ⟨oa, ca, rfl, -, -⟩ := ht.form
  obtain ⟨ob, cb, rfl, -, -⟩ := hr.form
  have hm1 : th.length ≤ maxLen := by obtain ⟨_, a', c', h1, h2, h3, -⟩ := ht; omega
  have hm2 : l.length ≤ maxLen := by obtain ⟨_, a', c', h1, h2, h3, -⟩ := hr; omega
  unfold maxLen at hm1 hm2
  obtain ⟨n, hn⟩ : ∃ n, th.length = n := ⟨_, rfl⟩
  obtain ⟨m, hm⟩ : ∃ n, l.length = n := ⟨_, rfl⟩
  rw [hn] at hm1 ⊢
  rw [hm] at hm2 ⊢
  clear ht hr hn hm
  have CW := Lib.hid (fun w => (awakeA_any w).mono fun e w' (h : TherePost w true e w') => (show e = .returned (.bool true) ∧ Keep noBlk w w' from h))
  obtain ⟨w0, hw0, hk0, hb0, hs0⟩ := alloc_facts w (adCs x).toArray 50
  have HBX := Lib.hid hb0; have HK := Lib.hid hk0
  have hbz : ∀ w, (Instr.build 53 #[]).run Try.prog w = .ok (.agg #[.int .i64 0, .slice none 0 0]) w := fun w => by kernel_rfl
  clear hk0 hb0 hs0
  by_cases h12 : 12 < n
  · have hi : (12 : Int) < (n : Int) := by omega
    have d1 : decide ((12 : Int) < (n : Int)) = true := decide_eq_true hi
    go_enter Try.func4, Try.ntmps4
    go_wp2_with fail
    clear hw0
    refine (CW.out _).mono ?_
    rintro e wq41 ⟨rfl, hk⟩
    have HK := Lib.hid (HK.out.trans hk)
    clear hk
    go_wp2_with fail
    go_ret
    exact ⟨rfl, HK.out⟩
  · by_cases h40 : 40 < m
    · have hi : ¬ (12 : Int) < (n : Int) := by omega
      have hj : (40 : Int) < (m : Int) := by omega
      have d1 : decide ((12 : Int) < (n : Int)) = false := decide_eq_false hi
      have d2 : decide ((40 : Int) < (m : Int)) = true := decide_eq_true hj
      go_enter Try.func4, Try.ntmps4
      go_wp2_with fail
      clear hw0
      refine (CW.out _).mono ?_
      rintro e wq41 ⟨rfl, hk⟩
      have HK := Lib.hid (HK.out.trans hk)
      clear hk
      go_wp2_with fail
      go_ret
      exact ⟨rfl, HK.out⟩
    · have hi : ¬ (12 : Int) < (n : Int) := by omega
      have hj : ¬ (40 : Int) < (m : Int) := by omega
      have d1 : decide ((12 : Int) < (n : Int)) = false := decide_eq_false hi
      have d2 : decide ((40 : Int) < (m : Int)) = false := decide_eq_false hj
      obtain ⟨w1, hw1, hk1, hb1, hs1⟩ := alloc_facts w0 #[.int .i64 0, .slice none 0 0] 53
      obtain ⟨w2, hw2, hk2, hb2, hs2⟩ := alloc_facts w1 #[.pointer none, .pointer (some ⟨w0.heap.size, 0, none⟩)] 27
      have hT : TopIs w2 w0.heap.size 0 none 0 := hk2.blk hb1 id
      have HT := Lib.hid hT; have HB2 := Lib.hid hb2
      have HBX := Lib.hid (hk2.blk (hk1.blk HBX.out id) id); have HK := Lib.hid ((HK.out.trans hk1).trans hk2)
      clear hk1 hb1 hs1 hk2 hb2 hs2 hT
      go_enter Try.func4, Try.ntmps4
      go_wp2_with fail
      clear hw0
      try clear hw1
      try clear hw2
      obtain ⟨A, hA⟩ : ∃ A, w0.heap.size = A := ⟨_, rfl⟩
      obtain ⟨B, hB⟩ : ∃ B, w1.heap.size = B := ⟨_, rfl⟩
      rw [hA] at HT
      rw [hA, hB] at HB2
      rw [hB]
      clear hA hB
      go_loopw [11] (fun i wr => ∃ k : Nat, k ≤ 2 ∧ i = .int .i64 k ∧ Hid (Keep noBlk w2 wr)) (fun i _ => 2 - (intOf i).toNat)
      case atStart => exact ⟨0, Nat.zero_le _, rfl, Lib.hid (Keep.refl _ _)⟩
      case round =>
      obtain ⟨k, hk, rfl, HKL⟩ := hrel
      by_cases hlt : k < 2
      · have hki : (k : Int) < 2 := by omega
        have hk0 : (0 : Int) ≤ (k : Int) := by omega
        obtain ⟨p, hp, hcp⟩ : ∃ p, IsNone wr p ∧ wr.cell? ⟨B, k, none⟩ = some p := by
          have hb := HKL.out.blk HB2.out id
          have hk2 : k = 0 ∨ k = 1 := by omega
          rcases hk2 with rfl | rfl
          · exact ⟨_, .inl rfl, blk_cell hb rfl⟩
          · exact ⟨_, .inr ⟨A, rfl, HT.out.keep HKL.out id⟩, blk_cell hb rfl⟩
        have HP := Lib.hid hp
        have HBX := Lib.hid (HKL.out.blk HBX.out id)
        clear hp
        go_wp2_with fail
        refine (take_none wr p HP.out _ _).mono ?_
        rintro e w3 ⟨rfl, rfl⟩
        go_wp2_with fail
        refine (room_none _ p HP.out _ _).mono ?_
        rintro e w3 ⟨rfl, rfl⟩
        go_wp2_with fail
        refine (mark_none _ p HP.out _).mono ?_
        rintro e w3 ⟨rfl, rfl⟩
        go_wp2_with fail
        refine (release_none _ p HP.out _).mono ?_
        rintro e w3 ⟨rfl, rfl⟩
        go_wp2_with (first
          | ((with_reducible show wpList _ _ _ (⟨_, .load 50 (.tmp 7), _, _, _, _⟩ :: _) _ _); refine wpList_load_mid rfl 50 (.tmp 7) rfl w.heap.size 0 rfl (adCs x) _ (rangeAt_whole HBX.out) adUnder rfl sizeAd ?_))
        refine (has_none _ p HP.out x).mono ?_
        rintro e w4 ⟨rfl, hk4⟩
        have HP4 := Lib.hid (HP.out.keep hk4); have HK4 := Lib.hid (HKL.out.trans hk4)
        clear hk4 HP HKL HBX hcp
        go_wp2_with fail
        refine (free_none _ p HP4.out).mono ?_
        rintro e w5 ⟨rfl, rfl⟩
        go_wp2_with fail
        refine (used_none _ p HP4.out).mono ?_
        rintro e w5 ⟨rfl, rfl⟩
        go_wp2_with fail
        go_roundw
        case rel => exact ⟨k + 1, by omega, by go_num, HK4⟩
        case measure => simp [intOf]; omega
      · obtain rfl : k = 2 := by omega
        have HKF := Lib.hid (HK.out.trans HKL.out)
        go_wp2_with fail
        refine (CW.out _).mono ?_
        rintro e w3 ⟨rfl, hk3⟩
        have HKG := Lib.hid (HKF.out.trans hk3)
        clear hk3
        go_wp2_with fail
        go_ret
        exact ⟨rfl, HKG.out⟩

end Go.Proofs.Ytfjklgbakhjjiaa
