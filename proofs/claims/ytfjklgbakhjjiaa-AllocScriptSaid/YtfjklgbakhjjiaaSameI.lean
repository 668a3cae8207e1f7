/-
  SameInts.
  Conditions: none.
-/
import Derived.Test.YtfjklgbakhjjiaaSortP
namespace Go.Proofs.Ytfjklgbakhjjiaa
open Go.RowKit Go.Maps Go.ChangeMaps
set_option maxRecDepth 100000
set_option linter.unusedVariables false

set_option maxHeartbeats 4000000 in
theorem sameInts_any (w : World) (v v2 : Value) (l m : List Int) (hl : Rd w 1 v l.length (l.map fun x => .int .i64 x)) (hm : Rd w 1 v2 m.length (m.map fun x => .int .i64 x)) : Calls Try.prog 16 #[v, v2] w (TherePost w (decide (l = m))) := by
  obtain ⟨la, lc, rfl, -, -⟩ := hl.form
  obtain ⟨ma, mc, rfl, -, -⟩ := hm.form
  have hlx : l.length ≤ maxLen := by obtain ⟨_, a', c', h1, h2, h3, -⟩ := hl; omega
  unfold maxLen at hlx
  obtain ⟨bb, hbb⟩ : ∃ b, decide (l = m) = b := ⟨_, rfl⟩
  have HBB := Lib.hid hbb
  rw [hbb]
  clear hbb
  obtain ⟨n, hn⟩ : ∃ n, l.length = n := ⟨_, rfl⟩
  obtain ⟨q, hq⟩ : ∃ n, m.length = n := ⟨_, rfl⟩
  have HL := Lib.hid hl; have HM := Lib.hid hm; have HN := Lib.hid hn; have HQ := Lib.hid hq
  rw [hn] at HL hlx ⊢
  rw [hq] at HM ⊢
  clear hl hm hn hq
  by_cases hne : n = q
  · subst hne
    go_enter Try.func16, Try.ntmps16
    go_wp2_with fail
    go_loopw [5] (fun t wr => ∃ k : Nat, k ≤ n ∧ t = .int .i64 k ∧ Hid (l.take k = m.take k) ∧ Hid (Keep noBlk w wr)) (fun t _ => n - (intOf t).toNat)
    case atStart => exact ⟨0, Nat.zero_le _, rfl, Lib.hid (by simp), Lib.hid (Keep.refl _ _)⟩
    case round =>
    obtain ⟨k, hk, rfl, HT, HK⟩ := hrel
    by_cases hlt : k < n
    · have hki : (k : Int) < (n : Int) := by omega
      have hk0 : (0 : Int) ≤ (k : Int) := by omega
      obtain ⟨x, hx⟩ : ∃ x, l[k]? = some x := ⟨l[k]'(by rw [HN.out]; exact hlt), List.getElem?_eq_getElem _⟩
      obtain ⟨y, hy⟩ : ∃ x, m[k]? = some x := ⟨m[k]'(by rw [HQ.out]; exact hlt), List.getElem?_eq_getElem _⟩
      have hr := HL.out.keep HK.out fun _ _ => id
      rw [← HN.out] at hr
      obtain ⟨p, o, cap, hv, hc⟩ := rd_int hr hx
      rw [HN.out] at hv
      have e1 : la = some ⟨p, o, none⟩ := by cases hv; rfl
      subst e1
      have hr2 := HM.out.keep HK.out fun _ _ => id
      rw [← HQ.out] at hr2
      obtain ⟨p2, o2, cap2, hv2, hc2⟩ := rd_int hr2 hy
      rw [HQ.out] at hv2
      have e1 : ma = some ⟨p2, o2, none⟩ := by cases hv2; rfl
      subst e1
      have HX := Lib.hid hx; have HY := Lib.hid hy
      obtain ⟨bi, hbi⟩ : ∃ b, (x != y) = b := ⟨_, rfl⟩
      have HBI := Lib.hid hbi
      clear hr hr2 hv hv2 hx hy hbi
      go_wp2_with fail
      obtain ⟨S, hS0⟩ : ∃ S : World → Prop, S = fun w' => Keep noBlk wr w' := ⟨_, rfl⟩
      have HSE := Lib.hid (show ∀ w', S w' → Keep noBlk wr w' from fun w' h => by rw [hS0] at h; exact h)
      have HSI := Lib.hid (show ∀ w', Keep noBlk wr w' → S w' from fun w' h => by rw [hS0]; exact h)
      have hS : S wr.drew := by rw [hS0]; exact (Keep.refl _ _).drew
      clear hS0
      refine wp_region_held (S := S) (by kernel_rfl) ?_
      change wpAnyH _ _ _ _ _ _ _ _ wr.drew
      generalize wr.drew = wq41 at hS ⊢
      refine tka 0 (.slice (some ⟨p, o, none⟩) n lc) rfl hS ?_
      simp only [Act.put, List.setIfInBounds_toArray, List.set_cons_zero, List.set_cons_succ, List.getElem_toArray, List.getElem_cons_zero]
      refine tna 1 (.int .i64 (k : Int)) rfl hS ?_
      refine tnb 2 (.pointer (some ⟨p, o + k, none⟩)) rfl hS ?_
      refine tnd 3 (.int .i64 x) rfl (.inl ⟨by rfl, fun w' hw' => by have c := (HSE.out w' hw').cell hc id; go_simp⟩) hS ?_
      refine tna 4 (.slice (some ⟨p2, o2, none⟩) n mc) rfl hS ?_
      refine tna 5 (.int .i64 (k : Int)) rfl hS ?_
      refine tnb 6 (.pointer (some ⟨p2, o2 + k, none⟩)) rfl hS ?_
      refine tnd 7 (.int .i64 y) rfl (.inl ⟨by rfl, fun w' hw' => by have c := (HSE.out w' hw').cell hc2 id; go_simp⟩) hS ?_
      refine tnd 8 (.bool bi) rfl (.inl ⟨by rfl, fun _ _ => by have e := HBI.out; subst e; go_simp⟩) hS ?_
      refine wpAnyH_done (by kernel_rfl) ?_ _
      have HKR := Lib.hid (HSE.out _ hS)
      clear hS HSE HSI
      have HK := Lib.hid (HK.out.trans HKR.out)
      clear HKR hc hc2
      cases bi
      · have e : x = y := by simpa using HBI.out
        have HTE : Hid (l.take (k + 1) = m.take (k + 1)) := Lib.hid (by rw [List.take_add_one, List.take_add_one, HT.out, HX.out, HY.out, e])
        go_wp2_with fail
        go_roundw
        case rel => exact ⟨k + 1, by omega, by go_num, HTE, HK⟩
        case measure => simp [intOf]; omega
      · have e : x ≠ y := by simpa using HBI.out
        have hb : bb = false := by
          rw [← HBB.out]
          refine decide_eq_false fun e2 => e ?_
          have h := HX.out
          rw [e2, HY.out] at h
          exact (Option.some.inj h).symm
        subst hb
        go_wp2_with fail
        go_ret
        exact ⟨rfl, HK.out⟩
    · obtain rfl : k = n := by omega
      have hb : bb = true := by
        rw [← HBB.out]
        have h := HT.out
        rw [List.take_of_length_le (by rw [HN.out]; exact Nat.le_refl _), List.take_of_length_le (by rw [HQ.out]; exact Nat.le_refl _)] at h
        exact decide_eq_true h
      subst hb
      go_wp2_with fail
      go_ret
      exact ⟨rfl, HK.out⟩
  · have hd : decide ((n : Int) = (q : Int)) = false := decide_eq_false (by omega)
    have hni : (n : Int) ≠ (q : Int) := by omega
    have hb1 : ((n : Int) != (q : Int)) = true := bne_iff_ne.2 hni
    have hb2 : ((n : Int) == (q : Int)) = false := beq_false_of_ne hni
    have hb : bb = false := by rw [← HBB.out]; exact decide_eq_false fun e => hne (by rw [← HN.out, ← HQ.out, e])
    subst hb
    go_enter Try.func16, Try.ntmps16
    go_wp2_with fail
    go_ret
    exact ⟨rfl, Keep.refl _ _⟩

end Go.Proofs.Ytfjklgbakhjjiaa
