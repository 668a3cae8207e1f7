/-
  place.Check, place.Choose.
  Conditions: none.
-/
import Derived.Test.YtfjklgbakhjjiaaPlaceP
namespace Go.Proofs.Ytfjklgbakhjjiaa
open Go.RowKit Go.Maps Go.ChangeMaps
set_option maxRecDepth 100000
set_option linter.unusedVariables false

def oddI (x : Int) : Bool := decide (x < 0) || decide (4096 < x)
theorem check1_any (w : World) (x : Int) : Calls Try.prog 83 #[.int .i64 x] w fun e w' => e = .returned (.bool (oddI x)) ∧ w = w' := by
  by_cases h : x < 0
  · have e : oddI x = true := by unfold oddI; rw [decide_eq_true h]; rfl
    rw [e]
    go_enter Try.func83, Try.ntmps83
    go_wp2_with fail
    go_ret
    exact ⟨rfl, rfl⟩
  · have e : oddI x = decide (4096 < x) := by unfold oddI; rw [decide_eq_false h]; rfl
    rw [e]
    obtain ⟨bb, hbb⟩ : ∃ b, decide (4096 < x) = b := ⟨_, rfl⟩
    have hd : decide (x < 0) = false := decide_eq_false h
    go_enter Try.func83, Try.ntmps83
    go_wp2_with fail
    go_ret
    exact ⟨rfl, rfl⟩
def OddPost (w : World) (b : Bool) (e : Ending) (w' : World) : Prop := ∃ r : Int, e = .returned (.int .i64 r) ∧ (b = true → 0 ≤ r) ∧ (b = false → r < 0) ∧ Keep noBlk w w'
set_option maxHeartbeats 4000000 in
theorem indexF_any (w : World) (v : Value) (l : List Int) (hr : Rd w 1 v l.length (l.map fun x => .int .i64 x)) (h8 : l.length ≤ 65536) : Calls Try.prog 94 #[v, .func (.func 83) #[] #[]] w (OddPost w (l.any oddI)) := by
  obtain ⟨oa, ca, rfl, -, -⟩ := hr.form
  obtain ⟨n, hn⟩ : ∃ n, l.length = n := ⟨_, rfl⟩
  obtain ⟨ab, hab⟩ : ∃ b, l.any oddI = b := ⟨_, rfl⟩
  have HAB := Lib.hid hab
  rw [hab]
  clear hab
  have HN := Lib.hid hn; have HR := Lib.hid hr
  rw [hn] at HR h8 ⊢
  clear hr hn
  go_enter Try.func94, Try.ntmps94
  go_wp2_with fail
  go_loopw [8] (fun i wr => ∃ k : Nat, k ≤ n ∧ i = .int .i64 k ∧ Hid ((l.take k).any oddI = false) ∧ Hid (Keep noBlk w wr)) (fun i _ => n - (intOf i).toNat)
  case atStart => exact ⟨0, Nat.zero_le _, rfl, Lib.hid (by simp), Lib.hid (Keep.refl _ _)⟩
  case round =>
  obtain ⟨k, hk, rfl, HT, HK⟩ := hrel
  by_cases hlt : k < n
  · have hki : (k : Int) < (n : Int) := by omega
    have hk0 : (0 : Int) ≤ (k : Int) := by omega
    obtain ⟨x, hx⟩ : ∃ x, l[k]? = some x := ⟨l[k]'(by rw [HN.out]; exact hlt), List.getElem?_eq_getElem _⟩
    have hr := HR.out.keep HK.out fun _ _ => id
    rw [← HN.out] at hr
    obtain ⟨p, o, cap, hv, hcx⟩ := rd_int hr hx
    rw [HN.out] at hv
    have e1 : oa = some ⟨p, o, none⟩ := by cases hv; rfl
    subst e1
    have HX := Lib.hid hx
    have HC := check1_any wr x
    obtain ⟨bb, hbb⟩ : ∃ b, oddI x = b := ⟨_, rfl⟩
    rw [hbb] at HC
    have HC := Lib.hid HC; have HBB := Lib.hid hbb
    clear hr hv hx hbb
    go_wp2_with fail
    refine HC.out.mono ?_
    rintro e w4 ⟨rfl, rfl⟩
    cases bb
    · have HT2 : Hid ((l.take (k + 1)).any oddI = false) := Lib.hid (by rw [List.take_add_one, HX.out, List.any_append, HT.out]; simpa using HBB.out)
      go_wp2_with fail
      go_roundw
      case rel => exact ⟨k + 1, by omega, by go_num, HT2, HK⟩
      case measure => simp [intOf]; omega
    · have ha : ab = true := by rw [← HAB.out]; exact List.any_eq_true.2 ⟨x, List.mem_of_getElem? HX.out, HBB.out⟩
      subst ha
      go_wp2_with fail
      go_ret
      exact ⟨_, rfl, fun _ => hk0, (fun h => by cases h), HK.out⟩
  · obtain rfl : n = k := by omega
    have ha : ab = false := by
      have h := HT.out
      rw [List.take_of_length_le (by rw [HN.out]; exact Nat.le_refl _)] at h
      rw [← HAB.out]
      exact h
    subst ha
    go_wp2_with fail
    go_ret
    exact ⟨_, rfl, (fun h => by cases h), (fun _ => by decide), HK.out⟩
theorem containsF_any (w : World) (v : Value) (l : List Int) (hr : Rd w 1 v l.length (l.map fun x => .int .i64 x)) (h8 : l.length ≤ 65536) : Calls Try.prog 84 #[v, .func (.func 83) #[] #[]] w fun e w' => e = .returned (.bool (l.any oddI)) ∧ Keep noBlk w w' := by
  have HC := Lib.hid (indexF_any w v l hr h8)
  obtain ⟨bb, hbb⟩ : ∃ b, l.any oddI = b := ⟨_, rfl⟩
  rw [hbb] at HC ⊢
  clear hr h8 hbb
  go_enter Try.func84, Try.ntmps84
  go_wp2_with fail
  refine HC.out.mono ?_
  rintro e w2 ⟨r, rfl, h1, h2, hk⟩
  have HK := Lib.hid hk
  clear hk HC
  cases bb
  · have hr0 : ¬ 0 ≤ r := by have := h2 rfl; omega
    have hd : decide (0 ≤ r) = false := decide_eq_false hr0
    clear h1 h2
    go_wp2_with fail
    go_ret
    exact ⟨rfl, HK.out⟩
  · have hr0 : 0 ≤ r := h1 rfl
    have hd : decide (0 ≤ r) = true := decide_eq_true hr0
    clear h1 h2
    go_wp2_with fail
    go_ret
    exact ⟨rfl, HK.out⟩
theorem okFree_odd (fr : List Int) : okFree fr = !fr.any oddI := by
  unfold okFree oddI
  rw [Bool.eq_iff_iff, Bool.not_eq_true', List.any_eq_false, List.all_eq_true]
  refine forall_congr' fun x => forall_congr' fun _ => ?_
  rw [Bool.and_eq_true, decide_eq_true_eq, decide_eq_true_eq, Bool.or_eq_true, decide_eq_true_eq, decide_eq_true_eq]
  omega
def CheckPost (w : World) (b : Bool) (e : Ending) (w' : World) : Prop := e = .returned (.int .i64 (if b then 0 else 2)) ∧ Keep noBlk w w'
set_option maxHeartbeats 8000000 in
theorem pcheck_any (w : World) (v vt : Value) (fr : List Int) (th : List Bool) (cp : Int) (hr : Rd w 1 v fr.length (fr.map fun x => .int .i64 x)) (ht : Rd w 1 vt th.length (th.map Value.bool)) :
    Calls Try.prog 72 #[v, vt, .int .i64 cp] w (CheckPost w (checkB fr th cp)) := by
  have HCF := Lib.hid (fun (h : fr.length ≤ 65536) => containsF_any w v fr hr h)
  obtain ⟨oa, ca, rfl, -, -⟩ := hr.form
  obtain ⟨ta, tc, rfl, -, -⟩ := ht.form
  have hm1 : fr.length ≤ maxLen := by obtain ⟨_, a', c', h1, h2, h3, -⟩ := hr; omega
  have hm2 : th.length ≤ maxLen := by obtain ⟨_, a', c', h1, h2, h3, -⟩ := ht; omega
  unfold maxLen at hm1 hm2
  have hck : checkB fr th cp = (decide (2 ≤ fr.length) && decide (fr.length ≤ 8) && decide (th.length = fr.length) && decide (1 ≤ cp) && decide (cp ≤ 3) && !fr.any oddI) := by unfold checkB; rw [okFree_odd]
  rw [hck]
  obtain ⟨n, hn⟩ : ∃ n, fr.length = n := ⟨_, rfl⟩
  obtain ⟨q, hq⟩ : ∃ n, th.length = n := ⟨_, rfl⟩
  obtain ⟨od, hod⟩ : ∃ b, fr.any oddI = b := ⟨_, rfl⟩
  rw [hn, hod] at HCF
  rw [hn] at hm1 ⊢
  rw [hq] at hm2 ⊢
  rw [hod]
  clear hr ht hck hn hq hod
  have HK0 := Lib.hid (Keep.refl noBlk w)
  by_cases h1 : 2 ≤ n
  · by_cases h2 : n ≤ 8
    · by_cases h3 : q = n
      · subst h3
        have i1 : ¬ (q : Int) < 2 := by omega
        have i2 : ¬ (8 : Int) < (q : Int) := by omega
        have d1 : decide ((q : Int) < 2) = false := decide_eq_false i1
        have d2 : decide ((8 : Int) < (q : Int)) = false := decide_eq_false i2
        rw [decide_eq_true h1, decide_eq_true h2, decide_eq_true (rfl : q = q)]
        by_cases h4 : 1 ≤ cp
        · by_cases h5 : cp ≤ 3
          · have i3 : ¬ cp < 1 := by omega
            have i4 : ¬ 3 < cp := by omega
            have d3 : decide (cp < 1) = false := decide_eq_false i3
            have d4 : decide (3 < cp) = false := decide_eq_false i4
            rw [decide_eq_true h4, decide_eq_true h5]
            have HC := Lib.hid (HCF.out (by omega))
            go_enter Try.func72, Try.ntmps72
            go_wp2_with fail
            refine HC.out.mono ?_
            rintro e w2 ⟨rfl, hk⟩
            have HK := Lib.hid hk
            clear hk HC
            cases od
            · go_wp2_with fail
              go_ret
              exact ⟨rfl, HK.out⟩
            · go_wp2_with fail
              go_ret
              exact ⟨rfl, HK.out⟩
          · have i3 : ¬ cp < 1 := by omega
            have i4 : 3 < cp := by omega
            have d3 : decide (cp < 1) = false := decide_eq_false i3
            have d4 : decide (3 < cp) = true := decide_eq_true i4
            rw [decide_eq_true h4, decide_eq_false h5]
            go_enter Try.func72, Try.ntmps72
            go_wp2_with fail
            go_ret
            exact ⟨rfl, HK0.out⟩
        · have i3 : cp < 1 := by omega
          have d3 : decide (cp < 1) = true := decide_eq_true i3
          rw [decide_eq_false h4]
          go_enter Try.func72, Try.ntmps72
          go_wp2_with fail
          go_ret
          exact ⟨rfl, HK0.out⟩
      · have i1 : ¬ (n : Int) < 2 := by omega
        have i2 : ¬ (8 : Int) < (n : Int) := by omega
        have i3 : (q : Int) ≠ (n : Int) := by omega
        have d1 : decide ((n : Int) < 2) = false := decide_eq_false i1
        have d2 : decide ((8 : Int) < (n : Int)) = false := decide_eq_false i2
        have hb1 : ((q : Int) != (n : Int)) = true := bne_iff_ne.2 i3
        have hb2 : ((q : Int) == (n : Int)) = false := beq_false_of_ne i3
        rw [decide_eq_true h1, decide_eq_true h2, decide_eq_false h3]
        go_enter Try.func72, Try.ntmps72
        go_wp2_with fail
        go_ret
        exact ⟨rfl, HK0.out⟩
    · have i1 : ¬ (n : Int) < 2 := by omega
      have i2 : (8 : Int) < (n : Int) := by omega
      have d1 : decide ((n : Int) < 2) = false := decide_eq_false i1
      have d2 : decide ((8 : Int) < (n : Int)) = true := decide_eq_true i2
      rw [decide_eq_true h1, decide_eq_false h2]
      go_enter Try.func72, Try.ntmps72
      go_wp2_with fail
      go_ret
      exact ⟨rfl, HK0.out⟩
  · have i1 : (n : Int) < 2 := by omega
    have d1 : decide ((n : Int) < 2) = true := decide_eq_true i1
    rw [decide_eq_false h1]
    go_enter Try.func72, Try.ntmps72
    go_wp2_with fail
    go_ret
    exact ⟨rfl, HK0.out⟩
/-- What Choose answers. -/
def ChPost (w : World) (fr : List Int) (th : List Bool) (cp : Int) (e : Ending) (w' : World) : Prop :=
  if checkB fr th cp then
    match chooseL fr th cp.toNat with
    | none => e = .returned (.tuple #[.slice none 0 0, .int .i64 15]) ∧ Keep noBlk w w'
    | some l => ∃ v, e = .returned (.tuple #[v, .int .i64 0]) ∧ NewR w w' v l ∧ Keep noBlk w w'
  else e = .returned (.tuple #[.slice none 0 0, .int .i64 2]) ∧ Keep noBlk w w'
theorem NewR.of {w w1 w2 : World} {v : Value} {l : List Nat} (h : NewR w1 w2 v l) (k : Keep noBlk w w1) : NewR w w2 v l := ⟨h.1, fun b hb => Nat.le_trans k.size (h.2 b hb)⟩
set_option maxHeartbeats 8000000 in
theorem pchoose_any (w : World) (v vt : Value) (fr : List Int) (th : List Bool) (cp : Int) (hr : Rd w 1 v fr.length (fr.map fun x => .int .i64 x)) (ht : Rd w 1 vt th.length (th.map Value.bool)) :
    Calls Try.prog 51 #[v, vt, .int .i64 cp] w (ChPost w fr th cp) := by
  have HC := Lib.hid (pcheck_any w v vt fr th cp hr ht)
  obtain ⟨bb, hbb⟩ : ∃ b, checkB fr th cp = b := ⟨_, rfl⟩
  have HCH := Lib.hid (fun (h : bb = true) (wx : World) (k : Keep noBlk w wx) => by
    rw [← hbb] at h
    obtain ⟨h1, h2, h3, h4, h5, -⟩ := checkB_true h
    have := choose_any wx v vt fr th cp.toNat (hr.keep k fun _ _ => id) (ht.keep k fun _ _ => id) h2 h3 (by omega) (by omega)
    rwa [Int.toNat_of_nonneg (by omega)] at this)
  have HBB := Lib.hid hbb
  rw [hbb] at HC
  obtain ⟨oa, ca, rfl, -, -⟩ := hr.form
  obtain ⟨ta, tc, rfl, -, -⟩ := ht.form
  clear hr ht hbb
  cases bb
  · have HP : Hid (∀ w', Keep noBlk w w' → ∀ e, e = .returned (.tuple #[.slice none 0 0, .int .i64 2]) → ChPost w fr th cp e w') := Lib.hid (fun w' k e he => by unfold ChPost; rw [HBB.out, if_neg (by decide)]; exact ⟨he, k⟩)
    clear HCH
    go_enter Try.func51, Try.ntmps51
    go_wp2_with fail
    refine HC.out.mono ?_
    rintro e w2 ⟨rfl, hk⟩
    have HK := Lib.hid hk
    clear hk HC
    go_wp2_with fail
    go_ret2
    exact HP.out _ HK.out _ rfl
  · obtain ⟨o, ho⟩ : ∃ o, chooseL fr th cp.toNat = o := ⟨_, rfl⟩
    have HO := Lib.hid ho
    rw [ho] at HCH
    clear ho
    have HP1 : Hid (o = none → ∀ w', Keep noBlk w w' → ∀ e, e = .returned (.tuple #[.slice none 0 0, .int .i64 15]) → ChPost w fr th cp e w') := Lib.hid (fun h w' k e he => by unfold ChPost; rw [HBB.out, if_pos rfl, HO.out, h]; exact ⟨he, k⟩)
    have HP2 : Hid (∀ l, o = some l → ∀ v w', NewR w w' v l → Keep noBlk w w' → ∀ e, e = .returned (.tuple #[v, .int .i64 0]) → ChPost w fr th cp e w') := Lib.hid (fun l h v w' hn k e he => by unfold ChPost; rw [HBB.out, if_pos rfl, HO.out, h]; exact ⟨v, he, hn, k⟩)
    clear HBB HO
    go_enter Try.func51, Try.ntmps51
    go_wp2_with fail
    refine HC.out.mono ?_
    rintro e w2 ⟨rfl, hk⟩
    have HK := Lib.hid hk
    clear hk HC
    go_wp2_with fail
    refine (HCH.out (by simp) _ HK.out).mono ?_
    intro e w3 hpost
    cases o with
    | none =>
      obtain ⟨rfl, hk⟩ := hpost
      have HK2 := Lib.hid (HK.out.trans hk)
      clear hk HCH
      go_wp2_with fail
      go_ret2
      exact HP1.out (by simp) _ HK2.out _ rfl
    | some l =>
      obtain ⟨v, rfl, hnr, hk⟩ := hpost
      have HNR := Lib.hid (hnr.of HK.out)
      have HK2 := Lib.hid (HK.out.trans hk)
      obtain ⟨va, vc, rfl, -, -⟩ := hnr.1.form
      clear hk HCH hnr
      go_wp2_with fail
      go_ret2
      exact HP2.out l rfl _ _ HNR.out HK2.out _ rfl

end Go.Proofs.Ytfjklgbakhjjiaa
