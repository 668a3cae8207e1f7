/-
  long, total: the laws' helpers.
  Conditions: none.
-/
import Derived.Test.YtfjklgbakhjjiaaApartL
import Derived.Test.YtfjklgbakhjjiaaArgsAct
import Derived.Test.YtfjklgbakhjjiaaLawA
namespace Go.Proofs.Ytfjklgbakhjjiaa
open Go.RowKit Go.Maps Go.ChangeMaps
set_option maxRecDepth 100000
set_option linter.unusedVariables false

def longA (l : List ActV) : Bool := l.any (fun x => decide (12 < x.th.length) || decide (40 < x.l.length)) || decide (60 < l.length)
theorem longA_false {l : List ActV} (h : longA l = false) : l.length ≤ 60 ∧ ∀ x ∈ l, x.th.length ≤ 12 ∧ x.l.length ≤ 40 := by
  unfold longA at h
  simp only [Bool.or_eq_false_iff, decide_eq_false_iff_not, List.any_eq_false, Bool.or_eq_true, decide_eq_true_eq] at h
  exact ⟨by omega, fun x hx => by have := h.1 x hx; omega⟩
set_option maxHeartbeats 8000000 in
theorem longA_any (w : World) (v : Value) (l : List ActV) (ho : ∀ x ∈ l, ActOk w x) (hr : Rd w 5 v l.length (actCells l)) : Calls Try.prog 8 #[v] w (TherePost w (longA l)) := by
  obtain ⟨oa, ca, rfl, -, -⟩ := hr.form
  have hlm : l.length ≤ maxLen := by obtain ⟨_, a', c', h1, h2, h3, -⟩ := hr; omega
  unfold maxLen at hlm
  obtain ⟨bb, hbb⟩ : ∃ b, longA l = b := ⟨_, rfl⟩
  have HBB := Lib.hid hbb
  obtain ⟨n, hn⟩ : ∃ n, l.length = n := ⟨_, rfl⟩
  have HN := Lib.hid hn; have HR := Lib.hid hr; have HOK := Lib.hid ho
  rw [hn] at HR hlm ⊢
  rw [hbb]
  clear hr hn hbb ho
  go_enter Try.func8, Try.ntmps8
  go_wp2_with fail
  go_loopw [3] (fun t wr => ∃ k : Nat, k ≤ n ∧ t = .int .i64 k ∧ Hid (((l.take k).any fun x => decide (12 < x.th.length) || decide (40 < x.l.length)) = false) ∧ wr = w) (fun t _ => n - (intOf t).toNat)
  case atStart => exact ⟨0, Nat.zero_le _, rfl, Lib.hid (by simp), rfl⟩
  case round =>
  obtain ⟨k, hk, rfl, HT, rfl⟩ := hrel
  by_cases hlt : k < n
  · have hki : (k : Int) < (n : Int) := by omega
    have hk0 : (0 : Int) ≤ (k : Int) := by omega
    obtain ⟨x, hx⟩ : ∃ x, l[k]? = some x := ⟨l[k]'(by rw [HN.out]; exact hlt), List.getElem?_eq_getElem _⟩
    have hr2 := HR.out
    rw [← HN.out] at hr2
    obtain ⟨g, o, cap, hv, hc⟩ := rd_act hr2 hx
    rw [HN.out] at hv
    have e1 : oa = some ⟨g, o, none⟩ := by cases hv; rfl
    subst e1
    obtain ⟨-, -, -, hrt, -, hrl⟩ := HOK.out x (List.mem_of_getElem? hx)
    have h3 := hc 3 x.vt rfl
    have h4 := hc 4 x.vl rfl
    obtain ⟨xa, xc, e2, -, -⟩ := hrt.form
    obtain ⟨ya, yc, e3, -, -⟩ := hrl.form
    rw [e2] at h3
    rw [e3] at h4
    obtain ⟨q1, hq1⟩ : ∃ q, x.th.length = q := ⟨_, rfl⟩
    obtain ⟨q2, hq2⟩ : ∃ q, x.l.length = q := ⟨_, rfl⟩
    rw [hq1] at h3
    rw [hq2] at h4
    have HXE := Lib.hid hx; have HQ1 := Lib.hid hq1; have HQ2 := Lib.hid hq2
    clear hr2 hv hc hrt hrl e2 e3 hx hq1 hq2
    by_cases hb : 12 < q1 ∨ 40 < q2
    · have hbt : bb = true := by
        rw [← HBB.out]
        unfold longA
        rw [Bool.or_eq_true, List.any_eq_true]
        refine .inl ⟨x, List.mem_of_getElem? HXE.out, ?_⟩
        rw [HQ1.out, HQ2.out, Bool.or_eq_true, decide_eq_true_eq, decide_eq_true_eq]
        exact hb
      subst hbt
      by_cases h12 : 12 < q1
      · have hi : (12 : Int) < (q1 : Int) := by omega
        have d1 : decide ((12 : Int) < (q1 : Int)) = true := decide_eq_true hi
        go_wp2_with fail
        go_ret
        exact ⟨rfl, Keep.refl _ _⟩
      · have hi : ¬ (12 : Int) < (q1 : Int) := by omega
        have hj : (40 : Int) < (q2 : Int) := by omega
        have d1 : decide ((12 : Int) < (q1 : Int)) = false := decide_eq_false hi
        have d2 : decide ((40 : Int) < (q2 : Int)) = true := decide_eq_true hj
        go_wp2_with fail
        go_ret
        exact ⟨rfl, Keep.refl _ _⟩
    · have hi : ¬ (12 : Int) < (q1 : Int) := by omega
      have hj : ¬ (40 : Int) < (q2 : Int) := by omega
      have d1 : decide ((12 : Int) < (q1 : Int)) = false := decide_eq_false hi
      have d2 : decide ((40 : Int) < (q2 : Int)) = false := decide_eq_false hj
      have HT2 : Hid (((l.take (k + 1)).any fun x => decide (12 < x.th.length) || decide (40 < x.l.length)) = false) := Lib.hid (by
        rw [List.take_add_one, HXE.out, List.any_append, HT.out]
        show (false || ((decide (12 < x.th.length) || decide (40 < x.l.length)) || false)) = false
        rw [HQ1.out, HQ2.out, decide_eq_false (by omega), decide_eq_false (by omega)]
        rfl)
      go_wp2_with fail
      go_roundw
      case rel => exact ⟨k + 1, by omega, by go_num, HT2, trivial⟩
      case measure => simp [intOf]; omega
  · obtain rfl : n = k := by omega
    have hbf : bb = decide (60 < n) := by
      rw [← HBB.out]
      unfold longA
      have h := HT.out
      rw [List.take_of_length_le (by rw [HN.out]; exact Nat.le_refl _)] at h
      rw [h, HN.out]
      rfl
    by_cases h60 : 60 < n
    · have hi : (60 : Int) < (n : Int) := by omega
      have hbt : bb = true := by rw [hbf, decide_eq_true h60]
      have d1 : decide ((60 : Int) < (n : Int)) = true := decide_eq_true hi
      subst hbt
      clear hbf
      go_wp2_with fail
      go_ret
      exact ⟨rfl, Keep.refl _ _⟩
    · have hi : ¬ (60 : Int) < (n : Int) := by omega
      have hbt : bb = false := by rw [hbf, decide_eq_false h60]
      have d1 : decide ((60 : Int) < (n : Int)) = false := decide_eq_false hi
      subst hbt
      clear hbf
      go_wp2_with fail
      go_ret
      exact ⟨rfl, Keep.refl _ _⟩
/-- How many are free in all. -/
def freeS (L : List Ad) (D Z : Nat) : Nat := ((List.range D).map fun d => (freeTo L d Z).length).sum
theorem freeS_succ (L : List Ad) (D Z : Nat) : freeS L (D + 1) Z = freeS L D Z + (freeTo L D Z).length := by unfold freeS; rw [List.range_succ, List.map_append, List.sum_append]; simp
theorem freeS_le (L : List Ad) (D Z : Nat) : freeS L D Z ≤ D * Z := by
  induction D with
  | zero => simp [freeS]
  | succ D ih => rw [freeS_succ, Nat.succ_mul]; have := freeTo_len L D Z; omega
set_option maxHeartbeats 8000000 in
theorem total_any (w : World) (lo a b D Z : Nat) (c : Nat → Option Nat) (L : List Ad) (h : LedIs w lo a b c D Z L) : Calls Try.prog 35 #[.pointer (some ⟨a, 0, none⟩)] w (fun e w' => e = .returned (.int .i64 (freeS L D Z : Int)) ∧ Keep noBlk w w') := by
  have HF := Lib.hid (ledFree_any w lo a b D Z c L h)
  have hbd := h.bd
  obtain ⟨fr, hfr⟩ : ∃ fr, freeN L D Z = fr := ⟨_, rfl⟩
  have HFE := Lib.hid hfr
  have HFL : Hid (fr.length = D) := Lib.hid (by rw [← hfr]; exact freeN_len L D Z)
  rw [hfr] at HF
  clear h hfr
  go_enter Try.func35, Try.ntmps35
  go_wp2_with fail
  refine HF.out.mono ?_
  rintro e w2 ⟨v, rfl, hov, hk⟩
  rw [HFL.out] at hov
  obtain ⟨fa, fc, rfl, -, -⟩ := (Rd.of_owns hov).form
  have HR := Lib.hid (Rd.of_owns hov); have HK := Lib.hid hk
  clear hov hk HF
  go_wp2_with fail
  go_loopw [4, 5] (fun s i wr => ∃ (k t : Nat), k ≤ D ∧ t ≤ k * 4096 ∧ s = .int .i64 t ∧ i = .int .i64 k ∧ Hid (freeS L k Z = t) ∧ wr = w2) (fun _ i _ => D - (intOf i).toNat)
  case atStart => exact ⟨0, 0, Nat.zero_le _, Nat.zero_le _, rfl, rfl, Lib.hid rfl, rfl⟩
  case round =>
  obtain ⟨k, t, hk, ht, rfl, rfl, HS, rfl⟩ := hrel
  by_cases hlt : k < D
  · have hki : (k : Int) < (D : Int) := by omega
    have hk0 : (0 : Int) ≤ (k : Int) := by omega
    have hx : fr[k]? = some (((freeTo L k Z).length : Nat) : Int) := by
      rw [← HFE.out]
      unfold freeN
      rw [List.getElem?_map, List.getElem?_range hlt]
      rfl
    obtain ⟨q, hq⟩ : ∃ q, (freeTo L k Z).length = q := ⟨_, rfl⟩
    have hq4 : q ≤ 4096 := by rw [← hq]; have := freeTo_len L k Z; omega
    have HS2 : Hid (freeS L (k + 1) Z = t + q) := Lib.hid (by rw [freeS_succ, HS.out, hq])
    rw [hq] at hx
    have hr2 := HR.out
    rw [← HFL.out] at hr2
    obtain ⟨p, o, cap, hv, hcx⟩ := rd_int hr2 hx
    rw [HFL.out] at hv
    have e1 : fa = some ⟨p, o, none⟩ := by cases hv; rfl
    subst e1
    clear hx hq hr2 hv
    go_wp2_with fail
    go_roundw
    case rel => exact ⟨k + 1, t + q, by omega, by omega, by go_num, by go_num, HS2, trivial⟩
    case measure => simp [intOf]; omega
  · obtain rfl : D = k := by omega
    have HS2 : Hid (freeS L D Z = t) := HS
    have HP : Hid (∀ e, e = .returned (.int .i64 (t : Int)) → e = Ending.returned (.int .i64 (freeS L D Z : Int))) := Lib.hid (fun e he => by rw [HS2.out]; exact he)
    go_wp2_with fail
    go_ret
    exact ⟨HP.out _ rfl, HK.out⟩

end Go.Proofs.Ytfjklgbakhjjiaa
