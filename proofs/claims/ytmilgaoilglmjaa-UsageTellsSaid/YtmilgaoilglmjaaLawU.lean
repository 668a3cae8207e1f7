/-
  The laws' helper long.
  Conditions: none.
-/
import Derived.Test.YtmilgaoilglmjaaHoldU
namespace Go.Proofs.Ytmilgaoilglmjaa
open Go.RowKit Go.Maps Go.ChangeMaps
set_option maxRecDepth 100000
set_option linter.unusedVariables false

/-- More than is gone through here? -/
def longB (hs : List (List Ad)) (dr : List Int) : Bool := hs.any (fun L => decide (100 < L.length)) || (decide (20 < hs.length) || decide (40 < dr.length))
theorem longB_false {hs : List (List Ad)} {dr : List Int} (h : longB hs dr = false) : hs.length ≤ 20 ∧ (∀ L ∈ hs, L.length ≤ 100) ∧ dr.length ≤ 40 := by
  unfold longB at h
  simp only [Bool.or_eq_false_iff, decide_eq_false_iff_not, List.any_eq_false, decide_eq_true_eq] at h
  exact ⟨by omega, fun L hL => by have := h.1 L hL; omega, by omega⟩
theorem flat100 {hs : List (List Ad)} (h100 : ∀ L ∈ hs, L.length ≤ 100) : hs.flatten.length ≤ 100 * hs.length := by
  induction hs with
  | nil => simp
  | cons L hs ih =>
    have h1 := h100 L (List.mem_cons_self ..)
    have h2 := ih fun M hM => h100 M (List.mem_cons_of_mem _ hM)
    rw [List.flatten_cons, List.length_append, List.length_cons]
    omega
set_option maxHeartbeats 4000000 in
theorem longU_any (w : World) (v vd : Value) (hs : List (List Ad)) (dr : List Int) (hr : Rows2 w v hs) (hrd : Rd w 1 vd dr.length (dr.map fun x => .int .i64 x)) : Calls Try.prog 7 #[v, vd] w (TherePost w (longB hs dr)) := by
  obtain ⟨oa, ca, rfl, hlm⟩ := hr.form
  unfold maxLen at hlm
  obtain ⟨n, hn⟩ : ∃ n, hs.length = n := ⟨_, rfl⟩
  obtain ⟨da, dc, rfl, -, -⟩ := hrd.form
  obtain ⟨dn, hdn⟩ : ∃ n, dr.length = n := ⟨_, rfl⟩
  have HN := Lib.hid hn; have HR := Lib.hid hr; have HND := Lib.hid hdn
  have hdl : dr.length ≤ maxLen := by obtain ⟨_, a', c', h1, h2, h3, -⟩ := hrd; omega
  unfold maxLen at hdl
  obtain ⟨bb, hbb⟩ : ∃ b, longB hs dr = b := ⟨_, rfl⟩
  have HBB := Lib.hid hbb
  rw [hn] at HR hlm ⊢
  rw [hdn] at hdl ⊢
  rw [hbb]
  clear hr hrd hdn hn hbb
  go_enter Try.func7, Try.ntmps7
  go_wp2_with fail
  go_loopw [5] (fun t wr => ∃ k : Nat, k ≤ n ∧ t = .int .i64 k ∧ Hid (∀ (j : Nat) (L : List Ad), j < k → hs[j]? = some L → L.length ≤ 100) ∧ Hid (Keep noBlk w wr)) (fun t _ => n - (intOf t).toNat)
  case atStart => exact ⟨0, Nat.zero_le _, rfl, Lib.hid (fun j L h => absurd h (Nat.not_lt_zero _)), Lib.hid (Keep.refl _ _)⟩
  case round =>
  obtain ⟨k, hk, rfl, HT, HK⟩ := hrel
  by_cases hlt : k < n
  · have hki : (k : Int) < (n : Int) := by omega
    have hk0 : (0 : Int) ≤ (k : Int) := by omega
    obtain ⟨L, hL⟩ : ∃ L, hs[k]? = some L := ⟨hs[k]'(by rw [HN.out]; exact hlt), List.getElem?_eq_getElem _⟩
    have HLE := Lib.hid hL
    have hr2 := HR.out.keep HK.out
    obtain ⟨g, o, cap, a, c, hv, hcell, hrd⟩ := hr2.at hL
    rw [HN.out] at hv
    have e1 : oa = some ⟨g, o, none⟩ := by cases hv; rfl
    subst e1
    obtain ⟨q, hq⟩ : ∃ q, L.length = q := ⟨_, rfl⟩
    have HQ := Lib.hid hq
    rw [hq] at hcell
    clear hr2 hv hrd hq hL
    by_cases h100 : 100 < q
    · have hqi : (100 : Int) < (q : Int) := by omega
      have hb : bb = true := by
        rw [← HBB.out]
        unfold longB
        rw [Bool.or_eq_true, List.any_eq_true]
        exact Or.inl ⟨L, List.mem_of_getElem? HLE.out, decide_eq_true (by rw [HQ.out]; exact h100)⟩
      subst hb
      go_wp2_with fail
      go_ret
      exact ⟨rfl, HK.out⟩
    · have hqi : ¬ (100 : Int) < (q : Int) := by omega
      have HTE : Hid (∀ (j : Nat) (L : List Ad), j < k + 1 → hs[j]? = some L → L.length ≤ 100) := Lib.hid (fun j M hj hM => by
        rcases Nat.lt_succ_iff_lt_or_eq.1 hj with h | h
        · exact HT.out j M h hM
        · subst h
          have e := HLE.out
          rw [hM] at e
          cases e
          rw [HQ.out]
          omega)
      go_wp2_with fail
      go_roundw
      case rel => exact ⟨k + 1, by omega, by go_num, HTE, HK⟩
      case measure => simp [intOf]; omega
  · obtain rfl : k = n := by omega
    have hany : hs.any (fun L => decide (100 < L.length)) = false := by
      rw [List.any_eq_false]
      intro L hL
      obtain ⟨j, hj⟩ := List.getElem?_of_mem hL
      have h1 := (List.getElem?_eq_some_iff.1 hj).1
      have := HT.out j L (by rw [← HN.out]; exact h1) hj
      simp only [decide_eq_true_eq]
      omega
    have HB : Hid ((decide (20 < k) || decide (40 < dn)) = bb) := Lib.hid (by
      rw [← HBB.out]
      unfold longB
      rw [hany, HN.out, HND.out]
      rfl)
    clear hany
    by_cases h20 : 20 < k
    · have hki : (20 : Int) < (k : Int) := by omega
      have hb : bb = true := by rw [← HB.out, decide_eq_true h20]; rfl
      subst hb
      go_wp2_with fail
      go_ret
      exact ⟨rfl, HK.out⟩
    · have hki : ¬ (20 : Int) < (k : Int) := by omega
      by_cases h40 : 40 < dn
      · have hdi : (40 : Int) < (dn : Int) := by omega
        have hb : bb = true := by rw [← HB.out, decide_eq_true h40, Bool.or_true]
        subst hb
        go_wp2_with fail
        go_ret
        exact ⟨rfl, HK.out⟩
      · have hdi : ¬ (40 : Int) < (dn : Int) := by omega
        have hb : bb = false := by rw [← HB.out, decide_eq_false h20, decide_eq_false h40]; rfl
        subst hb
        go_wp2_with fail
        go_ret
        exact ⟨rfl, HK.out⟩

end Go.Proofs.Ytmilgaoilglmjaa
