/-
  The document's Sort: each once, rising.
  Conditions: at most 65,536 addresses.
-/
import Derived.Test.YtfjklgbakhjjiaaCanonAddr
import Derived.Test.YtfjklgbakhjjiaaMayAddr
import Derived.Test.YtfjklgbakhjjiaaHasAddr
import Derived.Test.YtfjklgbakhjjiaaKeyAddr
namespace Go.Proofs.Ytfjklgbakhjjiaa
open Go.RowKit Go.Maps Go.ChangeMaps
set_option maxRecDepth 100000
set_option linter.unusedVariables false

theorem rlessC (a b : Ad) (w : World) : Calls Try.prog 64 #[.agg (adCs a).toArray, .agg (adCs b).toArray] w fun e w' => e = .returned (.bool (adLt a b)) ∧ Keep noBlk w w' := rless_any a b w
theorem owned_at {w : World} {base m c : Nat} {a : Option Addr} {U : List Ad} (h : w.ownsRow base 50 2 (.slice a m c) m (adCells U)) (hm : U.length = m) {q : Nat} {y : Ad} (hy : U[q]? = some y) : ∃ g, a = some ⟨g, 0, none⟩ ∧ w.rangeAt g (0 + q * 2) (adCs y) := by
  have hr := Rd.of_owns h
  rw [← hm] at hr
  obtain ⟨g, o, cap, hv, hat⟩ := rd_ad hr hy
  have e2 : a = some ⟨g, o, none⟩ := by injection hv
  rcases h.2 with ⟨h1, -⟩ | ⟨g', cap', cur, h1, -⟩
  · have e1 : a = none := by injection h1
    rw [e1] at e2; cases e2
  · have e1 : a = some ⟨g', 0, none⟩ := by injection h1
    rw [e1] at e2
    cases e2
    exact ⟨_, e1, hat⟩
theorem adCells_take (U : List Ad) (q : Nat) : (adCells U).take (q * 2) = adCells (U.take q) := by
  rcases Nat.le_total q U.length with h | h
  · have : adCells U = adCells (U.take q) ++ adCells (U.drop q) := by rw [← adCells_append, List.take_append_drop]
    rw [this, List.take_append_of_le_length (by rw [adCells_len, List.length_take]; omega), List.take_of_length_le (by rw [adCells_len, List.length_take]; omega)]
  · rw [List.take_of_length_le h, List.take_of_length_le (by rw [adCells_len]; omega)]
theorem adCells_drop (U : List Ad) (q : Nat) : (adCells U).drop (q * 2) = adCells (U.drop q) := by
  rcases Nat.le_total q U.length with h | h
  · have : adCells U = adCells (U.take q) ++ adCells (U.drop q) := by rw [← adCells_append, List.take_append_drop]
    rw [this, List.drop_append_of_le_length (by rw [adCells_len, List.length_take]; omega), List.drop_of_length_le (by rw [adCells_len, List.length_take]; omega), List.nil_append]
  · rw [List.drop_of_length_le h, List.drop_of_length_le (by rw [adCells_len]; omega)]; rfl

set_option maxHeartbeats 16000000 in
theorem rsort_any (w : World) (v : Value) (xs : List Ad) (hr : Rd w 2 v xs.length (adCells xs)) (hl : xs.length ≤ 65536) : Calls Try.prog 41 #[v] w (ListPost w (canon xs)) := by
  obtain ⟨oa, ca, rfl, -, hmm⟩ := hr.form
  have hmx_n : xs.length ≤ maxLen := by have h := hr.2; obtain ⟨a', cap', h1, h2, h3, -⟩ := h; omega
  unfold maxLen at hmx_n
  clear hmm
  have HR := Lib.hid hr
  obtain ⟨n, hn_n⟩ : ∃ n, xs.length = n := ⟨_, rfl⟩
  have HN := Lib.hid hn_n
  rw [hn_n] at HR hmx_n
  try rw [hn_n]
  clear hr hn_n
  have hn20 : n ≤ 65536 := by rw [← HN.out]; exact hl
  go_enter Try.func41, Try.ntmps41
  go_wp2_with fail
  go_loopw [3, 4] (fun t i wr => ∃ (k m : Nat) (pa : Option Addr) (pc : Nat), k ≤ n ∧ m ≤ k ∧ i = .int .i64 k ∧ t = .slice pa m pc ∧ Hid ((canon (xs.take k)).length = m) ∧ Hid (wr.ownsRow w.heap.size 50 2 (.slice pa m pc) m (adCells (canon (xs.take k)))) ∧ Hid (Keep noBlk w wr)) (fun _ i _ => n - (intOf i).toNat)
  case atStart => exact ⟨0, 0, none, 0, Nat.zero_le _, Nat.le_refl _, rfl, rfl, Lib.hid (by rw [List.take_zero, canon_nil]; rfl), Lib.hid (by rw [List.take_zero, canon_nil]; exact World.ownsRow_nil _ _ _ _), Lib.hid (Keep.refl _ _)⟩
  case round =>
  obtain ⟨k, m, pa, pc, hk, hmk, rfl, rfl, HM, HO, HKA⟩ := hrel
  by_cases hlt : k < n
  · have HKW := Lib.hid (Keep.refl noBlk w)
    have HR := Lib.hid (HR.out.keep HKA.out fun _ _ => id)
    have HKW := Lib.hid (HKW.out.trans HKA.out)
    obtain ⟨x, h_x⟩ : ∃ x, xs[k]? = some x := ⟨xs[k]'(by rw [HN.out]; exact hlt), List.getElem?_eq_getElem _⟩
    have h_r := HR.out
    rw [← HN.out] at h_r
    obtain ⟨g, o, cap', h_v, h_at⟩ := rd_ad h_r h_x
    have e1 : oa = some ⟨g, o, none⟩ := by cases h_v; rfl
    subst e1
    have HX := Lib.hid h_at; have HE := Lib.hid h_x
    clear h_x h_r h_v h_at
    obtain ⟨U, hU⟩ : ∃ U, canon (xs.take k) = U := ⟨_, rfl⟩
    have HTX : Hid (canon (xs.take (k + 1)) = insA x U) := Lib.hid (by rw [List.take_add_one, HE.out, ← hU]; exact (canon_snoc _ _).symm)
    rw [hU] at HM HO
    clear hU
    obtain ⟨p, hp⟩ : ∃ p, ahead x U = p := ⟨_, rfl⟩
    have hpm : p ≤ m := by rw [← hp, ← HM.out]; exact ahead_le x U
    have HLT : Hid (∀ q, q < p → ∃ y, U[q]? = some y ∧ adLt y x = true) := Lib.hid (fun q h => ahead_lt (by rw [hp]; exact h))
    have HAT : Hid (∀ y, U[p]? = some y → adLt y x = false) := Lib.hid (fun y h => ahead_at (by rw [hp]; exact h))
    have HINS : Hid (U[p]? = some x → insA x U = U) := Lib.hid (fun h => by unfold insA; rw [hp, if_pos h])
    have HINN : Hid (U[p]? ≠ some x → insA x U = U.take p ++ x :: U.drop p) := Lib.hid (fun h => by unfold insA; rw [hp, if_neg h])
    clear hp
    have HU := Lib.hid (Rd.of_owns HO.out)
    have hki : (k : Int) < (n : Int) := by omega
    have hk0 : (0 : Int) ≤ (k : Int) := by omega
    obtain ⟨wo, rfl⟩ : ∃ wo : World, wo = wr := ⟨_, rfl⟩
    have hpc : m ≤ pc := by obtain ⟨_, a', c', hv, h1, h2, -⟩ := HU.out; cases hv; exact h1
    have hpmx : pc ≤ 9223372036854775807 := by obtain ⟨_, a', c', hv, h1, h2, -⟩ := HU.out; cases hv; exact h2
    have hsz := HKA.out.size
    go_wp2_with fail
    by_cases hpl : p < m
    · by_cases hsame : U[p]? = some x
      · go_loopw [5] (fun j w2 => ∃ q, q ≤ p ∧ j = .int .i64 q ∧ Hid (Keep noBlk wo w2)) (fun j _ => p - (intOf j).toNat)
        case atStart => exact ⟨0, Nat.zero_le _, rfl, Lib.hid (Keep.refl _ _)⟩
        case round =>
        obtain ⟨q, hq, rfl, HKI⟩ := hrel
        have HKO := Lib.hid (Keep.refl noBlk wo)
        by_cases hlt2 : q < p
        · have HR := Lib.hid (HR.out.keep HKI.out fun _ _ => id)
          have HKW := Lib.hid (HKW.out.trans HKI.out)
          have HX := Lib.hid (HKI.out.rangeAt HX.out)
          have HU := Lib.hid (HU.out.keep HKI.out fun _ _ => id)
          have HKO := Lib.hid (HKO.out.trans HKI.out)
          obtain ⟨y, hy, hyx⟩ := HLT.out q hlt2
          obtain ⟨gu, rfl, h_at⟩ := owned_at HO.out HM.out hy
          have HY := Lib.hid (HKI.out.rangeAt h_at)
          have hC := fun w => rlessC y x w
          rw [hyx] at hC
          have HC := Lib.hid hC
          have hq0 : (0 : Int) ≤ (q : Int) := by omega
          have hqm : (q : Int) < (m : Int) := by omega
          have hqn : q < m := by omega
          clear hy hyx h_at hC
          go_wp2_with fail
          obtain ⟨S, hS0⟩ : ∃ S : World → Prop, S = fun w' => Keep noBlk wr w' := ⟨_, rfl⟩
          have HSE := Lib.hid (show ∀ w', S w' → Keep noBlk wr w' from fun w' h => by rw [hS0] at h; exact h)
          have HSI := Lib.hid (show ∀ w', Keep noBlk wr w' → S w' from fun w' h => by rw [hS0]; exact h)
          have hS : S wr.drew := by rw [hS0]; exact (Keep.refl _ _).drew
          clear hS0
          refine wp_region_held (S := S) (by kernel_rfl) ?_
          change wpAnyH _ _ _ _ _ _ _ _ wr.drew
          generalize wr.drew = w1 at hS ⊢
          refine tka 0 (.int .i64 q) rfl hS ?_
          simp only [Act.put, List.setIfInBounds_toArray, List.set_cons_zero, List.set_cons_succ, List.getElem_toArray, List.getElem_cons_zero]
          refine tna 1 (.slice (some ⟨gu, 0, none⟩) m pc) rfl hS ?_
          refine tnb 2 (.int .i64 m) rfl hS ?_
          refine tnb 3 (.bool true) rfl hS ?_
          refine tna 4 (.bool true) rfl hS ?_
          refine tna 5 (.slice (some ⟨gu, 0, none⟩) m pc) rfl hS ?_
          refine tna 6 (.int .i64 q) rfl hS ?_
          refine tnb 7 (.pointer (some ⟨gu, 0 + q * 2, none⟩)) rfl hS ?_
          refine tnd 8 (.agg (adCs y).toArray) rfl (yieldsIf_load_mid (by rfl) 50 (.tmp 19) rfl (gu) (0 + q * 2) rfl (adCs y) _ (fun w' h => (HSE.out w' h).rangeAt HY.out) adUnder rfl sizeAd) hS ?_
          refine tna 9 (.slice (some ⟨g, o, none⟩) n ca) rfl hS ?_
          refine tna 10 (.int .i64 k) rfl hS ?_
          refine tnb 11 (.pointer (some ⟨g, o + k * 2, none⟩)) rfl hS ?_
          refine tnd 12 (.agg (adCs x).toArray) rfl (yieldsIf_load_mid (by rfl) 50 (.tmp 23) rfl (g) (o + k * 2) rfl (adCs x) _ (fun w' h => (HSE.out w' h).rangeAt HX.out) adUnder rfl sizeAd) hS ?_
          refine wpAnyH_one (k := 13) rfl (by kernel_rfl) ?_
          go_wp2_with fail
          refine (HC.out _).mono ?_
          rintro e w2 ⟨rfl, hk⟩
          have hS1 := HSI.out _ ((HSE.out _ hS).trans hk)
          clear hS hk
          go_wp2_with fail
          refine ⟨hS1, ?_⟩
          refine tna 14 (.bool true) rfl hS1 ?_
          refine wpAnyH_done (by kernel_rfl) ?_ _
          have HKR := Lib.hid (HSE.out _ hS1)
          clear hS1 HSE HSI
          have HR := Lib.hid (HR.out.keep HKR.out fun _ _ => id)
          have HKW := Lib.hid (HKW.out.trans HKR.out)
          have HX := Lib.hid (HKR.out.rangeAt HX.out)
          have HU := Lib.hid (HU.out.keep HKR.out fun _ _ => id)
          have HKO := Lib.hid (HKO.out.trans HKR.out)
          go_wp2_with fail
          go_roundw
          case rel => exact ⟨q + 1, by omega, by go_num, HKO⟩
          case measure => simp [intOf]; omega
        · obtain rfl : q = p := by omega
          have HR := Lib.hid (HR.out.keep HKI.out fun _ _ => id)
          have HKW := Lib.hid (HKW.out.trans HKI.out)
          have HX := Lib.hid (HKI.out.rangeAt HX.out)
          have HU := Lib.hid (HU.out.keep HKI.out fun _ _ => id)
          have HKO := Lib.hid (HKO.out.trans HKI.out)
          have hq0 : (0 : Int) ≤ (q : Int) := by omega
          obtain ⟨y, hy⟩ : ∃ y, U[q]? = some y := ⟨U[q]'(by rw [HM.out]; exact hpl), List.getElem?_eq_getElem _⟩
          have hyx := HAT.out y hy
          obtain ⟨gu, rfl, h_at⟩ := owned_at HO.out HM.out hy
          have HY := Lib.hid (HKI.out.rangeAt h_at)
          have hC := fun w => rlessC y x w
          rw [hyx] at hC
          have HC := Lib.hid hC
          have hqm : (q : Int) < (m : Int) := by omega
          have hqn : q < m := by omega
          have hqe : ¬ (q : Int) = (m : Int) := by omega
          have hqd : decide ((q : Int) = (m : Int)) = false := decide_eq_false hqe
          have HYE := Lib.hid hy
          clear hy hyx h_at hC
          go_wp2_with fail
          obtain ⟨S, hS0⟩ : ∃ S : World → Prop, S = fun w' => Keep noBlk wr w' := ⟨_, rfl⟩
          have HSE := Lib.hid (show ∀ w', S w' → Keep noBlk wr w' from fun w' h => by rw [hS0] at h; exact h)
          have HSI := Lib.hid (show ∀ w', Keep noBlk wr w' → S w' from fun w' h => by rw [hS0]; exact h)
          have hS : S wr.drew := by rw [hS0]; exact (Keep.refl _ _).drew
          clear hS0
          refine wp_region_held (S := S) (by kernel_rfl) ?_
          change wpAnyH _ _ _ _ _ _ _ _ wr.drew
          generalize wr.drew = w1 at hS ⊢
          refine tka 0 (.int .i64 q) rfl hS ?_
          simp only [Act.put, List.setIfInBounds_toArray, List.set_cons_zero, List.set_cons_succ, List.getElem_toArray, List.getElem_cons_zero]
          refine tna 1 (.slice (some ⟨gu, 0, none⟩) m pc) rfl hS ?_
          refine tnb 2 (.int .i64 m) rfl hS ?_
          refine tnb 3 (.bool true) rfl hS ?_
          refine tna 4 (.bool true) rfl hS ?_
          refine tna 5 (.slice (some ⟨gu, 0, none⟩) m pc) rfl hS ?_
          refine tna 6 (.int .i64 q) rfl hS ?_
          refine tnb 7 (.pointer (some ⟨gu, 0 + q * 2, none⟩)) rfl hS ?_
          refine tnd 8 (.agg (adCs y).toArray) rfl (yieldsIf_load_mid (by rfl) 50 (.tmp 19) rfl (gu) (0 + q * 2) rfl (adCs y) _ (fun w' h => (HSE.out w' h).rangeAt HY.out) adUnder rfl sizeAd) hS ?_
          refine tna 9 (.slice (some ⟨g, o, none⟩) n ca) rfl hS ?_
          refine tna 10 (.int .i64 k) rfl hS ?_
          refine tnb 11 (.pointer (some ⟨g, o + k * 2, none⟩)) rfl hS ?_
          refine tnd 12 (.agg (adCs x).toArray) rfl (yieldsIf_load_mid (by rfl) 50 (.tmp 23) rfl (g) (o + k * 2) rfl (adCs x) _ (fun w' h => (HSE.out w' h).rangeAt HX.out) adUnder rfl sizeAd) hS ?_
          refine wpAnyH_one (k := 13) rfl (by kernel_rfl) ?_
          go_wp2_with fail
          refine (HC.out _).mono ?_
          rintro e w2 ⟨rfl, hk⟩
          have hS1 := HSI.out _ ((HSE.out _ hS).trans hk)
          clear hS hk
          go_wp2_with fail
          refine ⟨hS1, ?_⟩
          refine tna 14 (.bool false) rfl hS1 ?_
          refine wpAnyH_done (by kernel_rfl) ?_ _
          have HKR := Lib.hid (HSE.out _ hS1)
          clear hS1 HSE HSI
          have HR := Lib.hid (HR.out.keep HKR.out fun _ _ => id)
          have HKW := Lib.hid (HKW.out.trans HKR.out)
          have HX := Lib.hid (HKR.out.rangeAt HX.out)
          have HU := Lib.hid (HU.out.keep HKR.out fun _ _ => id)
          have HKO := Lib.hid (HKO.out.trans HKR.out)
          have HY := Lib.hid (HKR.out.rangeAt HY.out)
          have hne : decide (y = x) = true := by
            have h := hsame
            rw [HYE.out] at h
            exact decide_eq_true (Option.some.inj h)
          have HNE : Hid (∀ w', Sem.run Try.prog (binOp .neq 50 (.agg (adCs y).toArray) (.agg (adCs x).toArray)) w' = .ok (.bool false) w') := Lib.hid (fun w' => by have := neqAd y x w'; rwa [hne] at this)
          clear hne
          go_wp2_with fail
          obtain ⟨S, hS0⟩ : ∃ S : World → Prop, S = fun w' => Keep noBlk w2 w' := ⟨_, rfl⟩
          have HSE := Lib.hid (show ∀ w', S w' → Keep noBlk w2 w' from fun w' h => by rw [hS0] at h; exact h)
          have HSI := Lib.hid (show ∀ w', Keep noBlk w2 w' → S w' from fun w' h => by rw [hS0]; exact h)
          have hS : S w2.drew := by rw [hS0]; exact (Keep.refl _ _).drew
          clear hS0
          refine wp_region_held (S := S) (by kernel_rfl) ?_
          change wpAnyH _ _ _ _ _ _ _ _ w2.drew
          generalize w2.drew = w3 at hS ⊢
          refine tka 0 (.int .i64 q) rfl hS ?_
          simp only [Act.put, List.setIfInBounds_toArray, List.set_cons_zero, List.set_cons_succ, List.getElem_toArray, List.getElem_cons_zero]
          refine tna 1 (.slice (some ⟨gu, 0, none⟩) m pc) rfl hS ?_
          refine tnb 2 (.int .i64 m) rfl hS ?_
          refine tnb 3 (.bool false) rfl hS ?_
          refine tna 4 (.bool false) rfl hS ?_
          refine tna 5 (.slice (some ⟨gu, 0, none⟩) m pc) rfl hS ?_
          refine tna 6 (.int .i64 q) rfl hS ?_
          refine tnb 7 (.pointer (some ⟨gu, 0 + q * 2, none⟩)) rfl hS ?_
          refine tnd 8 (.agg (adCs y).toArray) rfl (yieldsIf_load_mid (by rfl) 50 (.tmp 36) rfl (gu) (0 + q * 2) rfl (adCs y) _ (fun w' h => (HSE.out w' h).rangeAt HY.out) adUnder rfl sizeAd) hS ?_
          refine tna 9 (.slice (some ⟨g, o, none⟩) n ca) rfl hS ?_
          refine tna 10 (.int .i64 k) rfl hS ?_
          refine tnb 11 (.pointer (some ⟨g, o + k * 2, none⟩)) rfl hS ?_
          refine tnd 12 (.agg (adCs x).toArray) rfl (yieldsIf_load_mid (by rfl) 50 (.tmp 40) rfl (g) (o + k * 2) rfl (adCs x) _ (fun w' h => (HSE.out w' h).rangeAt HX.out) adUnder rfl sizeAd) hS ?_
          refine tnd 13 (.bool false) rfl (yieldsIf_neq_agg (by rfl) 50 (.tmp 37) (.tmp 41) 50 rfl (adCs y).toArray (adCs x).toArray rfl rfl adGuard HNE.out) hS ?_
          refine tna 14 (.bool false) rfl hS ?_
          refine wpAnyH_done (by kernel_rfl) ?_ _
          have HKR := Lib.hid (HSE.out _ hS)
          clear hS HSE HSI
          have HR := Lib.hid (HR.out.keep HKR.out fun _ _ => id)
          have HKW := Lib.hid (HKW.out.trans HKR.out)
          have HX := Lib.hid (HKR.out.rangeAt HX.out)
          have HU := Lib.hid (HU.out.keep HKR.out fun _ _ => id)
          have HKO := Lib.hid (HKO.out.trans HKR.out)
          have HY := Lib.hid (HKR.out.rangeAt HY.out)
          have HUE : Hid (insA x U = U) := Lib.hid (HINS.out hsame)
          go_wp2_with fail
          go_roundw
          case rel => exact ⟨k + 1, m, _, _, by omega, by omega, by go_num, rfl, Lib.hid (by rw [HTX.out, HUE.out]; exact HM.out), Lib.hid (by rw [HTX.out, HUE.out]; exact HKO.out.owns HO.out fun _ _ => id), HKW⟩
          case measure => simp [intOf]; omega
      · have hput : U[p]? ≠ some x := hsame
        go_loopw [5] (fun j w2 => ∃ q, q ≤ p ∧ j = .int .i64 q ∧ Hid (Keep noBlk wo w2)) (fun j _ => p - (intOf j).toNat)
        case atStart => exact ⟨0, Nat.zero_le _, rfl, Lib.hid (Keep.refl _ _)⟩
        case round =>
        obtain ⟨q, hq, rfl, HKI⟩ := hrel
        have HKO := Lib.hid (Keep.refl noBlk wo)
        by_cases hlt2 : q < p
        · have HR := Lib.hid (HR.out.keep HKI.out fun _ _ => id)
          have HKW := Lib.hid (HKW.out.trans HKI.out)
          have HX := Lib.hid (HKI.out.rangeAt HX.out)
          have HU := Lib.hid (HU.out.keep HKI.out fun _ _ => id)
          have HKO := Lib.hid (HKO.out.trans HKI.out)
          obtain ⟨y, hy, hyx⟩ := HLT.out q hlt2
          obtain ⟨gu, rfl, h_at⟩ := owned_at HO.out HM.out hy
          have HY := Lib.hid (HKI.out.rangeAt h_at)
          have hC := fun w => rlessC y x w
          rw [hyx] at hC
          have HC := Lib.hid hC
          have hq0 : (0 : Int) ≤ (q : Int) := by omega
          have hqm : (q : Int) < (m : Int) := by omega
          have hqn : q < m := by omega
          clear hy hyx h_at hC
          go_wp2_with fail
          obtain ⟨S, hS0⟩ : ∃ S : World → Prop, S = fun w' => Keep noBlk wr w' := ⟨_, rfl⟩
          have HSE := Lib.hid (show ∀ w', S w' → Keep noBlk wr w' from fun w' h => by rw [hS0] at h; exact h)
          have HSI := Lib.hid (show ∀ w', Keep noBlk wr w' → S w' from fun w' h => by rw [hS0]; exact h)
          have hS : S wr.drew := by rw [hS0]; exact (Keep.refl _ _).drew
          clear hS0
          refine wp_region_held (S := S) (by kernel_rfl) ?_
          change wpAnyH _ _ _ _ _ _ _ _ wr.drew
          generalize wr.drew = w1 at hS ⊢
          refine tka 0 (.int .i64 q) rfl hS ?_
          simp only [Act.put, List.setIfInBounds_toArray, List.set_cons_zero, List.set_cons_succ, List.getElem_toArray, List.getElem_cons_zero]
          refine tna 1 (.slice (some ⟨gu, 0, none⟩) m pc) rfl hS ?_
          refine tnb 2 (.int .i64 m) rfl hS ?_
          refine tnb 3 (.bool true) rfl hS ?_
          refine tna 4 (.bool true) rfl hS ?_
          refine tna 5 (.slice (some ⟨gu, 0, none⟩) m pc) rfl hS ?_
          refine tna 6 (.int .i64 q) rfl hS ?_
          refine tnb 7 (.pointer (some ⟨gu, 0 + q * 2, none⟩)) rfl hS ?_
          refine tnd 8 (.agg (adCs y).toArray) rfl (yieldsIf_load_mid (by rfl) 50 (.tmp 19) rfl (gu) (0 + q * 2) rfl (adCs y) _ (fun w' h => (HSE.out w' h).rangeAt HY.out) adUnder rfl sizeAd) hS ?_
          refine tna 9 (.slice (some ⟨g, o, none⟩) n ca) rfl hS ?_
          refine tna 10 (.int .i64 k) rfl hS ?_
          refine tnb 11 (.pointer (some ⟨g, o + k * 2, none⟩)) rfl hS ?_
          refine tnd 12 (.agg (adCs x).toArray) rfl (yieldsIf_load_mid (by rfl) 50 (.tmp 23) rfl (g) (o + k * 2) rfl (adCs x) _ (fun w' h => (HSE.out w' h).rangeAt HX.out) adUnder rfl sizeAd) hS ?_
          refine wpAnyH_one (k := 13) rfl (by kernel_rfl) ?_
          go_wp2_with fail
          refine (HC.out _).mono ?_
          rintro e w2 ⟨rfl, hk⟩
          have hS1 := HSI.out _ ((HSE.out _ hS).trans hk)
          clear hS hk
          go_wp2_with fail
          refine ⟨hS1, ?_⟩
          refine tna 14 (.bool true) rfl hS1 ?_
          refine wpAnyH_done (by kernel_rfl) ?_ _
          have HKR := Lib.hid (HSE.out _ hS1)
          clear hS1 HSE HSI
          have HR := Lib.hid (HR.out.keep HKR.out fun _ _ => id)
          have HKW := Lib.hid (HKW.out.trans HKR.out)
          have HX := Lib.hid (HKR.out.rangeAt HX.out)
          have HU := Lib.hid (HU.out.keep HKR.out fun _ _ => id)
          have HKO := Lib.hid (HKO.out.trans HKR.out)
          go_wp2_with fail
          go_roundw
          case rel => exact ⟨q + 1, by omega, by go_num, HKO⟩
          case measure => simp [intOf]; omega
        · obtain rfl : q = p := by omega
          have HR := Lib.hid (HR.out.keep HKI.out fun _ _ => id)
          have HKW := Lib.hid (HKW.out.trans HKI.out)
          have HX := Lib.hid (HKI.out.rangeAt HX.out)
          have HU := Lib.hid (HU.out.keep HKI.out fun _ _ => id)
          have HKO := Lib.hid (HKO.out.trans HKI.out)
          have hq0 : (0 : Int) ≤ (q : Int) := by omega
          obtain ⟨y, hy⟩ : ∃ y, U[q]? = some y := ⟨U[q]'(by rw [HM.out]; exact hpl), List.getElem?_eq_getElem _⟩
          have hyx := HAT.out y hy
          obtain ⟨gu, rfl, h_at⟩ := owned_at HO.out HM.out hy
          have HY := Lib.hid (HKI.out.rangeAt h_at)
          have hC := fun w => rlessC y x w
          rw [hyx] at hC
          have HC := Lib.hid hC
          have hqm : (q : Int) < (m : Int) := by omega
          have hqn : q < m := by omega
          have hqe : ¬ (q : Int) = (m : Int) := by omega
          have hqd : decide ((q : Int) = (m : Int)) = false := decide_eq_false hqe
          have HYE := Lib.hid hy
          clear hy hyx h_at hC
          go_wp2_with fail
          obtain ⟨S, hS0⟩ : ∃ S : World → Prop, S = fun w' => Keep noBlk wr w' := ⟨_, rfl⟩
          have HSE := Lib.hid (show ∀ w', S w' → Keep noBlk wr w' from fun w' h => by rw [hS0] at h; exact h)
          have HSI := Lib.hid (show ∀ w', Keep noBlk wr w' → S w' from fun w' h => by rw [hS0]; exact h)
          have hS : S wr.drew := by rw [hS0]; exact (Keep.refl _ _).drew
          clear hS0
          refine wp_region_held (S := S) (by kernel_rfl) ?_
          change wpAnyH _ _ _ _ _ _ _ _ wr.drew
          generalize wr.drew = w1 at hS ⊢
          refine tka 0 (.int .i64 q) rfl hS ?_
          simp only [Act.put, List.setIfInBounds_toArray, List.set_cons_zero, List.set_cons_succ, List.getElem_toArray, List.getElem_cons_zero]
          refine tna 1 (.slice (some ⟨gu, 0, none⟩) m pc) rfl hS ?_
          refine tnb 2 (.int .i64 m) rfl hS ?_
          refine tnb 3 (.bool true) rfl hS ?_
          refine tna 4 (.bool true) rfl hS ?_
          refine tna 5 (.slice (some ⟨gu, 0, none⟩) m pc) rfl hS ?_
          refine tna 6 (.int .i64 q) rfl hS ?_
          refine tnb 7 (.pointer (some ⟨gu, 0 + q * 2, none⟩)) rfl hS ?_
          refine tnd 8 (.agg (adCs y).toArray) rfl (yieldsIf_load_mid (by rfl) 50 (.tmp 19) rfl (gu) (0 + q * 2) rfl (adCs y) _ (fun w' h => (HSE.out w' h).rangeAt HY.out) adUnder rfl sizeAd) hS ?_
          refine tna 9 (.slice (some ⟨g, o, none⟩) n ca) rfl hS ?_
          refine tna 10 (.int .i64 k) rfl hS ?_
          refine tnb 11 (.pointer (some ⟨g, o + k * 2, none⟩)) rfl hS ?_
          refine tnd 12 (.agg (adCs x).toArray) rfl (yieldsIf_load_mid (by rfl) 50 (.tmp 23) rfl (g) (o + k * 2) rfl (adCs x) _ (fun w' h => (HSE.out w' h).rangeAt HX.out) adUnder rfl sizeAd) hS ?_
          refine wpAnyH_one (k := 13) rfl (by kernel_rfl) ?_
          go_wp2_with fail
          refine (HC.out _).mono ?_
          rintro e w2 ⟨rfl, hk⟩
          have hS1 := HSI.out _ ((HSE.out _ hS).trans hk)
          clear hS hk
          go_wp2_with fail
          refine ⟨hS1, ?_⟩
          refine tna 14 (.bool false) rfl hS1 ?_
          refine wpAnyH_done (by kernel_rfl) ?_ _
          have HKR := Lib.hid (HSE.out _ hS1)
          clear hS1 HSE HSI
          have HR := Lib.hid (HR.out.keep HKR.out fun _ _ => id)
          have HKW := Lib.hid (HKW.out.trans HKR.out)
          have HX := Lib.hid (HKR.out.rangeAt HX.out)
          have HU := Lib.hid (HU.out.keep HKR.out fun _ _ => id)
          have HKO := Lib.hid (HKO.out.trans HKR.out)
          have HY := Lib.hid (HKR.out.rangeAt HY.out)
          have hne : decide (y = x) = false := by
            have h := hput
            rw [HYE.out] at h
            exact decide_eq_false fun e => h (by rw [e])
          have HNE : Hid (∀ w', Sem.run Try.prog (binOp .neq 50 (.agg (adCs y).toArray) (.agg (adCs x).toArray)) w' = .ok (.bool true) w') := Lib.hid (fun w' => by have := neqAd y x w'; rwa [hne] at this)
          clear hne
          go_wp2_with fail
          obtain ⟨S, hS0⟩ : ∃ S : World → Prop, S = fun w' => Keep noBlk w2 w' := ⟨_, rfl⟩
          have HSE := Lib.hid (show ∀ w', S w' → Keep noBlk w2 w' from fun w' h => by rw [hS0] at h; exact h)
          have HSI := Lib.hid (show ∀ w', Keep noBlk w2 w' → S w' from fun w' h => by rw [hS0]; exact h)
          have hS : S w2.drew := by rw [hS0]; exact (Keep.refl _ _).drew
          clear hS0
          refine wp_region_held (S := S) (by kernel_rfl) ?_
          change wpAnyH _ _ _ _ _ _ _ _ w2.drew
          generalize w2.drew = w3 at hS ⊢
          refine tka 0 (.int .i64 q) rfl hS ?_
          simp only [Act.put, List.setIfInBounds_toArray, List.set_cons_zero, List.set_cons_succ, List.getElem_toArray, List.getElem_cons_zero]
          refine tna 1 (.slice (some ⟨gu, 0, none⟩) m pc) rfl hS ?_
          refine tnb 2 (.int .i64 m) rfl hS ?_
          refine tnb 3 (.bool false) rfl hS ?_
          refine tna 4 (.bool false) rfl hS ?_
          refine tna 5 (.slice (some ⟨gu, 0, none⟩) m pc) rfl hS ?_
          refine tna 6 (.int .i64 q) rfl hS ?_
          refine tnb 7 (.pointer (some ⟨gu, 0 + q * 2, none⟩)) rfl hS ?_
          refine tnd 8 (.agg (adCs y).toArray) rfl (yieldsIf_load_mid (by rfl) 50 (.tmp 36) rfl (gu) (0 + q * 2) rfl (adCs y) _ (fun w' h => (HSE.out w' h).rangeAt HY.out) adUnder rfl sizeAd) hS ?_
          refine tna 9 (.slice (some ⟨g, o, none⟩) n ca) rfl hS ?_
          refine tna 10 (.int .i64 k) rfl hS ?_
          refine tnb 11 (.pointer (some ⟨g, o + k * 2, none⟩)) rfl hS ?_
          refine tnd 12 (.agg (adCs x).toArray) rfl (yieldsIf_load_mid (by rfl) 50 (.tmp 40) rfl (g) (o + k * 2) rfl (adCs x) _ (fun w' h => (HSE.out w' h).rangeAt HX.out) adUnder rfl sizeAd) hS ?_
          refine tnd 13 (.bool true) rfl (yieldsIf_neq_agg (by rfl) 50 (.tmp 37) (.tmp 41) 50 rfl (adCs y).toArray (adCs x).toArray rfl rfl adGuard HNE.out) hS ?_
          refine tna 14 (.bool true) rfl hS ?_
          refine wpAnyH_done (by kernel_rfl) ?_ _
          have HKR := Lib.hid (HSE.out _ hS)
          clear hS HSE HSI
          have HR := Lib.hid (HR.out.keep HKR.out fun _ _ => id)
          have HKW := Lib.hid (HKW.out.trans HKR.out)
          have HX := Lib.hid (HKR.out.rangeAt HX.out)
          have HU := Lib.hid (HU.out.keep HKR.out fun _ _ => id)
          have HKO := Lib.hid (HKO.out.trans HKR.out)
          have HY := Lib.hid (HKR.out.rangeAt HY.out)
          have HNX : Hid (U[q]? ≠ some x) := Lib.hid hput
          go_wp2_with fail
          obtain ⟨sv, hsv⟩ : ∃ v, sliced ((some ⟨gu, 0, none⟩)) q m pc 2 = v := ⟨_, rfl⟩
          have HSV : Hid (∀ w', (Instr.sliceAt 22 (.slice ((some ⟨gu, 0, none⟩)) m pc) (some (.int .i64 q)) none none).run Try.prog w' = .ok sv w') := Lib.hid (fun w' => by rw [← hsv]; exact run_cut_from Try.underlying22 _ m pc q (by omega) sizeOfAd w')
          have HTV : Hid (∀ w', (Instr.sliceAt 22 (.slice ((some ⟨gu, 0, none⟩)) m pc) none (some (.int .i64 q)) none).run Try.prog w' = .ok (.slice ((some ⟨gu, 0, none⟩)) q pc) w') := Lib.hid (fun w' => run_cut_to Try.underlying22 _ m pc q (by omega) sizeOfAd w')
          have HR1 := Lib.hid (HU.out.cut_to (k := q) (by omega))
          have HR2 := Lib.hid (HU.out.cut_from (k := q) (by omega))
          rw [hsv] at HR2
          have HC1 : Hid ((adCells U).take (q * 2) = adCells (U.take q)) := Lib.hid (adCells_take U q)
          have HC2 : Hid ((adCells U).drop (q * 2) = adCells (U.drop q)) := Lib.hid (adCells_drop U q)
          obtain ⟨sa, sc, rfl, -, -⟩ := HR2.out.form
          clear hsv
          have hwa := HKW.out.size
          have HLN : Hid (U[q]? ≠ some x → (insA x U).length = m + 1) := Lib.hid (fun h => by rw [HINN.out h, List.length_append, List.length_cons, List.length_take, List.length_drop, HM.out]; omega)
          obtain ⟨S, hS0⟩ : ∃ S : World → Prop, S = fun w' => Keep noBlk w3 w' := ⟨_, rfl⟩
          have HSE := Lib.hid (show ∀ w', S w' → Keep noBlk w3 w' from fun w' h => by rw [hS0] at h; exact h)
          have HSI := Lib.hid (show ∀ w', Keep noBlk w3 w' → S w' from fun w' h => by rw [hS0]; exact h)
          have hS : S w3.drew := by rw [hS0]; exact (Keep.refl _ _).drew
          clear hS0
          refine wp_region_held (S := S) (by kernel_rfl) ?_
          change wpAnyH _ _ _ _ _ _ _ _ w3.drew
          generalize w3.drew = w4 at hS ⊢
          have hsA : w3.heap.size ≤ w3.heap.size := Nat.le_refl _
          refine tna 1 (.slice (some ⟨gu, 0, none⟩) m pc) rfl hS ?_
          refine tna 2 (.int .i64 q) rfl hS ?_
          refine tnd 3 (.slice ((some ⟨gu, 0, none⟩)) q pc) rfl (yieldsIf_slice (by rfl) 22 (.tmp 45) none (some (.tmp 46)) none rfl (.slice ((some ⟨gu, 0, none⟩)) m pc) none (some (.int .i64 q)) none rfl rfl rfl rfl HTV.out) hS ?_
          refine tna 5 (.slice (some ⟨g, o, none⟩) n ca) rfl hS ?_
          refine tna 6 (.int .i64 k) rfl hS ?_
          refine tnb 7 (.pointer (some ⟨g, o + k * 2, none⟩)) rfl hS ?_
          refine tnd 8 (.agg (adCs x).toArray) rfl (yieldsIf_load_mid (by rfl) 50 (.tmp 51) rfl (g) (o + k * 2) rfl (adCs x) _ (fun w' h => (HSE.out w' h).rangeAt HX.out) adUnder rfl sizeAd) hS ?_
          refine tna 11 (.slice (some ⟨gu, 0, none⟩) m pc) rfl hS ?_
          refine tna 12 (.int .i64 q) rfl hS ?_
          refine tnd 13 (.slice sa (m - q) sc) rfl (yieldsIf_slice (by rfl) 22 (.tmp 55) (some (.tmp 56)) none none rfl (.slice ((some ⟨gu, 0, none⟩)) m pc) (some (.int .i64 q)) none none rfl rfl rfl rfl HSV.out) hS ?_
          refine wpAnyH_two (k := 0) (l := 9) rfl rfl (by kernel_rfl) ?_ ?_
          · have hsl := (HSE.out _ hS).size
            obtain ⟨w5, hw9, hk, hb9, hs9⟩ := alloc_facts w4 #[] 50
            have H0 : Hid (w5.ownsRow w3.heap.size 50 2 (.slice (some ⟨w4.heap.size, 0, none⟩) 0 0) 0 []) := Lib.hid (by rw [← hw9]; exact World.ownsRow_made w4 #[] 0 hsl (by unfold maxLen; omega) rfl)
            have hlt_w5 : w4.heap.size < w5.heap.size := by omega
            clear hb9 hs9 hsl
            go_wp2_with fail
            try rw [hw9]
            clear hw9
            have hS1 := HSI.out _ ((HSE.out _ hS).trans hk)
            clear hS hk
            refine ⟨hS1, ?_⟩
            refine wpAnyH_two (k := 4) (l := 9) rfl rfl (by kernel_rfl) ?_ ?_
            · have hsl := (HSE.out _ hS1).size
              refine wpList_append_rd rfl (.tmp 44) (.tmp 47) 22 rfl w3.heap.size 50 zeroAd 2 16 Try.underlying22 infoAd rfl (by decide) (.slice (some ⟨w4.heap.size, 0, none⟩) 0 0) 0 ([]) rfl H0.out (.slice ((some ⟨gu, 0, none⟩)) q pc) q ((adCells U).take (q * 2)) rfl (HR1.out.keep (HSE.out _ hS1) fun _ _ => id) (by rw [HC1.out]; exact oneCell_ads _) (by unfold maxLen; omega) (by omega) hsl ?_
              intro v' w6 ho8 hk8 hn8 hb8
              have hk2 : Keep noBlk w3 w6 := (HSE.out _ hS1).trans' hk8 (U := noBlk) (fun _ _ h => h) (fun i hi e => by have := owns_base H0.out e; omega)
              obtain ⟨H1a, H1c, rfl, -, -⟩ := (Rd.of_owns ho8).form
              rw [Nat.zero_add, List.nil_append, HC1.out] at ho8
              have H1 : Hid (w6.ownsRow w3.heap.size 50 2 (.slice H1a (q) H1c) (q) (adCells (U.take q))) := Lib.hid ho8
              rw [Nat.zero_add]
              clear ho8 hk8 hn8 hb8 hsl
              have hS2 := HSI.out _ hk2
              clear hS1 hk2
              go_wp2_with fail
              refine ⟨hS2, ?_⟩
              refine wpAnyH_one (k := 9) rfl (by kernel_rfl) ?_
              refine wpList_build_one rfl 22 50 (.tmp 52) rfl Try.underlying22 infoAd (by decide) (adCs x) rfl (by decide) rfl ?_
              obtain ⟨w7, hw9, hk, HB⟩ : ∃ w7, w6.alloc (.cells (adCs x).toArray 50) = w7 ∧ Keep noBlk w6 w7 ∧ Hid (Rd w7 2 (.slice (some ⟨w6.heap.size, 0, none⟩) 1 1) 1 (adCs x)) :=
                ⟨_, rfl, (Keep.refl _ _).alloc _, Lib.hid (rd_blk (n := 1) (size := 2) (heap_alloc_new _ _) rfl (by unfold maxLen; omega))⟩
              have hlt_w7 : w6.heap.size < w7.heap.size := by rw [← hw9, World.size_alloc]; omega
              rw [hw9]
              clear hw9
              have H1 := Lib.hid (hk.owns H1.out fun _ _ => id)
              have hS3 := HSI.out _ ((HSE.out _ hS2).trans hk)
              clear hS2 hk
              go_wp2_with fail
              refine ⟨hS3, ?_⟩
              refine wpAnyH_one (k := 10) rfl (by kernel_rfl) ?_
              have hsl := (HSE.out _ hS3).size
              refine wpList_append_rd rfl (.tmp 48) (.tmp 53) 22 rfl w3.heap.size 50 zeroAd 2 16 Try.underlying22 infoAd rfl (by decide) (.slice H1a (q) H1c) q (adCells (U.take q)) rfl H1.out (.slice (some ⟨w6.heap.size, 0, none⟩) 1 1) 1 (adCs x) rfl HB.out (oneCell_ad _) (by unfold maxLen; omega) (by omega) hsl ?_
              intro v' w8 ho8 hk8 hn8 hb8
              have hk2 : Keep noBlk w3 w8 := (HSE.out _ hS3).trans' hk8 (U := noBlk) (fun _ _ h => h) (fun i hi e => by have := owns_base H1.out e; omega)
              obtain ⟨H2a, H2c, rfl, -, -⟩ := (Rd.of_owns ho8).form
              rw [← adCells_one, ← adCells_append] at ho8
              have H2 : Hid (w8.ownsRow w3.heap.size 50 2 (.slice H2a (q + 1) H2c) (q + 1) (adCells (U.take q ++ [x]))) := Lib.hid ho8
              skip
              clear ho8 hk8 hn8 hb8 hsl
              have hS4 := HSI.out _ hk2
              clear hS3 hk2
              go_wp2_with fail
              refine ⟨hS4, ?_⟩
              refine wpAnyH_one (k := 14) rfl (by kernel_rfl) ?_
              have hsl := (HSE.out _ hS4).size
              refine wpList_append_rd rfl (.tmp 54) (.tmp 57) 22 rfl w3.heap.size 50 zeroAd 2 16 Try.underlying22 infoAd rfl (by decide) (.slice H2a (q + 1) H2c) (q + 1) (adCells (U.take q ++ [x])) rfl H2.out (.slice sa (m - q) sc) (m - q) ((adCells U).drop (q * 2)) rfl (HR2.out.keep (HSE.out _ hS4) fun _ _ => id) (by rw [HC2.out]; exact oneCell_ads _) (by unfold maxLen; omega) (by omega) hsl ?_
              intro v' w9 ho8 hk8 hn8 hb8
              have hk2 : Keep noBlk w3 w9 := (HSE.out _ hS4).trans' hk8 (U := noBlk) (fun _ _ h => h) (fun i hi e => by have := owns_base H2.out e; omega)
              obtain ⟨H3a, H3c, rfl, -, -⟩ := (Rd.of_owns ho8).form
              rw [HC2.out, ← adCells_append, List.append_assoc, List.singleton_append, show q + 1 + (m - q) = m + 1 by omega] at ho8
              have H3 : Hid (w9.ownsRow w3.heap.size 50 2 (.slice H3a (m + 1) H3c) (m + 1) (adCells (U.take q ++ x :: U.drop q))) := Lib.hid ho8
              rw [show q + 1 + (m - q) = m + 1 by omega]
              clear ho8 hk8 hn8 hb8 hsl
              have hS5 := HSI.out _ hk2
              clear hS4 hk2
              go_wp2_with fail
              refine ⟨hS5, ?_⟩
              refine tna 15 (.slice H3a (m + 1) H3c) rfl hS5 ?_
              refine wpAnyH_done (by kernel_rfl) ?_ _
              have HKR := Lib.hid (HSE.out _ hS5)
              clear hS5 HSE HSI
              have HR := Lib.hid (HR.out.keep HKR.out fun _ _ => id)
              have HKW := Lib.hid (HKW.out.trans HKR.out)
              have HX := Lib.hid (HKR.out.rangeAt HX.out)
              have HU := Lib.hid (HU.out.keep HKR.out fun _ _ => id)
              have HKO := Lib.hid (HKO.out.trans HKR.out)
              have HY := Lib.hid (HKR.out.rangeAt HY.out)
              have HTE : Hid (canon (xs.take (k + 1)) = U.take q ++ x :: U.drop q) := Lib.hid (by rw [HTX.out, HINN.out HNX.out])
              have HLE : Hid ((U.take q ++ x :: U.drop q).length = m + 1) := Lib.hid (by rw [← HINN.out HNX.out, HLN.out HNX.out])
              go_wp2_with fail
              go_roundw
              case rel => exact ⟨k + 1, m + 1, _, _, by omega, by omega, by go_num, rfl, Lib.hid (by rw [HTE.out]; exact HLE.out), Lib.hid (by rw [HTE.out]; exact ownsRow_mono H3.out hwa), HKW⟩
              case measure => simp [intOf]; omega
            · refine wpList_build_one rfl 22 50 (.tmp 52) rfl Try.underlying22 infoAd (by decide) (adCs x) rfl (by decide) rfl ?_
              obtain ⟨w6, hw9, hk, HB⟩ : ∃ w7, w5.alloc (.cells (adCs x).toArray 50) = w7 ∧ Keep noBlk w5 w7 ∧ Hid (Rd w7 2 (.slice (some ⟨w5.heap.size, 0, none⟩) 1 1) 1 (adCs x)) :=
                ⟨_, rfl, (Keep.refl _ _).alloc _, Lib.hid (rd_blk (n := 1) (size := 2) (heap_alloc_new _ _) rfl (by unfold maxLen; omega))⟩
              have hlt_w6 : w5.heap.size < w6.heap.size := by rw [← hw9, World.size_alloc]; omega
              rw [hw9]
              clear hw9
              have H0 := Lib.hid (hk.owns H0.out fun _ _ => id)
              have hS2 := HSI.out _ ((HSE.out _ hS1).trans hk)
              clear hS1 hk
              go_wp2_with fail
              refine ⟨hS2, ?_⟩
              refine wpAnyH_one (k := 4) rfl (by kernel_rfl) ?_
              have hsl := (HSE.out _ hS2).size
              refine wpList_append_rd rfl (.tmp 44) (.tmp 47) 22 rfl w3.heap.size 50 zeroAd 2 16 Try.underlying22 infoAd rfl (by decide) (.slice (some ⟨w4.heap.size, 0, none⟩) 0 0) 0 ([]) rfl H0.out (.slice ((some ⟨gu, 0, none⟩)) q pc) q ((adCells U).take (q * 2)) rfl (HR1.out.keep (HSE.out _ hS2) fun _ _ => id) (by rw [HC1.out]; exact oneCell_ads _) (by unfold maxLen; omega) (by omega) hsl ?_
              intro v' w7 ho8 hk8 hn8 hb8
              have hk2 : Keep noBlk w3 w7 := (HSE.out _ hS2).trans' hk8 (U := noBlk) (fun _ _ h => h) (fun i hi e => by have := owns_base H0.out e; omega)
              have HB := Lib.hid (HB.out.keep hk8 (fun b hb e => by have h1 : w4.heap.size = b := Option.some.inj e; have h2 : w5.heap.size = b := Option.some.inj hb; omega))
              obtain ⟨H1a, H1c, rfl, -, -⟩ := (Rd.of_owns ho8).form
              rw [Nat.zero_add, List.nil_append, HC1.out] at ho8
              have H1 : Hid (w7.ownsRow w3.heap.size 50 2 (.slice H1a (q) H1c) (q) (adCells (U.take q))) := Lib.hid ho8
              rw [Nat.zero_add]
              clear ho8 hk8 hn8 hb8 hsl
              have hS3 := HSI.out _ hk2
              clear hS2 hk2
              go_wp2_with fail
              refine ⟨hS3, ?_⟩
              refine wpAnyH_one (k := 10) rfl (by kernel_rfl) ?_
              have hsl := (HSE.out _ hS3).size
              refine wpList_append_rd rfl (.tmp 48) (.tmp 53) 22 rfl w3.heap.size 50 zeroAd 2 16 Try.underlying22 infoAd rfl (by decide) (.slice H1a (q) H1c) q (adCells (U.take q)) rfl H1.out (.slice (some ⟨w5.heap.size, 0, none⟩) 1 1) 1 (adCs x) rfl HB.out (oneCell_ad _) (by unfold maxLen; omega) (by omega) hsl ?_
              intro v' w8 ho8 hk8 hn8 hb8
              have hk2 : Keep noBlk w3 w8 := (HSE.out _ hS3).trans' hk8 (U := noBlk) (fun _ _ h => h) (fun i hi e => by have := owns_base H1.out e; omega)
              obtain ⟨H2a, H2c, rfl, -, -⟩ := (Rd.of_owns ho8).form
              rw [← adCells_one, ← adCells_append] at ho8
              have H2 : Hid (w8.ownsRow w3.heap.size 50 2 (.slice H2a (q + 1) H2c) (q + 1) (adCells (U.take q ++ [x]))) := Lib.hid ho8
              skip
              clear ho8 hk8 hn8 hb8 hsl
              have hS4 := HSI.out _ hk2
              clear hS3 hk2
              go_wp2_with fail
              refine ⟨hS4, ?_⟩
              refine wpAnyH_one (k := 14) rfl (by kernel_rfl) ?_
              have hsl := (HSE.out _ hS4).size
              refine wpList_append_rd rfl (.tmp 54) (.tmp 57) 22 rfl w3.heap.size 50 zeroAd 2 16 Try.underlying22 infoAd rfl (by decide) (.slice H2a (q + 1) H2c) (q + 1) (adCells (U.take q ++ [x])) rfl H2.out (.slice sa (m - q) sc) (m - q) ((adCells U).drop (q * 2)) rfl (HR2.out.keep (HSE.out _ hS4) fun _ _ => id) (by rw [HC2.out]; exact oneCell_ads _) (by unfold maxLen; omega) (by omega) hsl ?_
              intro v' w9 ho8 hk8 hn8 hb8
              have hk2 : Keep noBlk w3 w9 := (HSE.out _ hS4).trans' hk8 (U := noBlk) (fun _ _ h => h) (fun i hi e => by have := owns_base H2.out e; omega)
              obtain ⟨H3a, H3c, rfl, -, -⟩ := (Rd.of_owns ho8).form
              rw [HC2.out, ← adCells_append, List.append_assoc, List.singleton_append, show q + 1 + (m - q) = m + 1 by omega] at ho8
              have H3 : Hid (w9.ownsRow w3.heap.size 50 2 (.slice H3a (m + 1) H3c) (m + 1) (adCells (U.take q ++ x :: U.drop q))) := Lib.hid ho8
              rw [show q + 1 + (m - q) = m + 1 by omega]
              clear ho8 hk8 hn8 hb8 hsl
              have hS5 := HSI.out _ hk2
              clear hS4 hk2
              go_wp2_with fail
              refine ⟨hS5, ?_⟩
              refine tna 15 (.slice H3a (m + 1) H3c) rfl hS5 ?_
              refine wpAnyH_done (by kernel_rfl) ?_ _
              have HKR := Lib.hid (HSE.out _ hS5)
              clear hS5 HSE HSI
              have HR := Lib.hid (HR.out.keep HKR.out fun _ _ => id)
              have HKW := Lib.hid (HKW.out.trans HKR.out)
              have HX := Lib.hid (HKR.out.rangeAt HX.out)
              have HU := Lib.hid (HU.out.keep HKR.out fun _ _ => id)
              have HKO := Lib.hid (HKO.out.trans HKR.out)
              have HY := Lib.hid (HKR.out.rangeAt HY.out)
              have HTE : Hid (canon (xs.take (k + 1)) = U.take q ++ x :: U.drop q) := Lib.hid (by rw [HTX.out, HINN.out HNX.out])
              have HLE : Hid ((U.take q ++ x :: U.drop q).length = m + 1) := Lib.hid (by rw [← HINN.out HNX.out, HLN.out HNX.out])
              go_wp2_with fail
              go_roundw
              case rel => exact ⟨k + 1, m + 1, _, _, by omega, by omega, by go_num, rfl, Lib.hid (by rw [HTE.out]; exact HLE.out), Lib.hid (by rw [HTE.out]; exact ownsRow_mono H3.out hwa), HKW⟩
              case measure => simp [intOf]; omega
          · refine wpList_build_one rfl 22 50 (.tmp 52) rfl Try.underlying22 infoAd (by decide) (adCs x) rfl (by decide) rfl ?_
            obtain ⟨w5, hw9, hk, HB⟩ : ∃ w7, w4.alloc (.cells (adCs x).toArray 50) = w7 ∧ Keep noBlk w4 w7 ∧ Hid (Rd w7 2 (.slice (some ⟨w4.heap.size, 0, none⟩) 1 1) 1 (adCs x)) :=
              ⟨_, rfl, (Keep.refl _ _).alloc _, Lib.hid (rd_blk (n := 1) (size := 2) (heap_alloc_new _ _) rfl (by unfold maxLen; omega))⟩
            have hlt_w5 : w4.heap.size < w5.heap.size := by rw [← hw9, World.size_alloc]; omega
            rw [hw9]
            clear hw9
            have hS1 := HSI.out _ ((HSE.out _ hS).trans hk)
            clear hS hk
            go_wp2_with fail
            refine ⟨hS1, ?_⟩
            refine wpAnyH_one (k := 0) rfl (by kernel_rfl) ?_
            have hsl := (HSE.out _ hS1).size
            obtain ⟨w6, hw9, hk, hb9, hs9⟩ := alloc_facts w5 #[] 50
            have H0 : Hid (w6.ownsRow w3.heap.size 50 2 (.slice (some ⟨w5.heap.size, 0, none⟩) 0 0) 0 []) := Lib.hid (by rw [← hw9]; exact World.ownsRow_made w5 #[] 0 hsl (by unfold maxLen; omega) rfl)
            have hlt_w6 : w5.heap.size < w6.heap.size := by omega
            have HB := Lib.hid (HB.out.keep hk fun _ _ => id)
            clear hb9 hs9 hsl
            go_wp2_with fail
            try rw [hw9]
            clear hw9
            have hS2 := HSI.out _ ((HSE.out _ hS1).trans hk)
            clear hS1 hk
            refine ⟨hS2, ?_⟩
            refine wpAnyH_one (k := 4) rfl (by kernel_rfl) ?_
            have hsl := (HSE.out _ hS2).size
            refine wpList_append_rd rfl (.tmp 44) (.tmp 47) 22 rfl w3.heap.size 50 zeroAd 2 16 Try.underlying22 infoAd rfl (by decide) (.slice (some ⟨w5.heap.size, 0, none⟩) 0 0) 0 ([]) rfl H0.out (.slice ((some ⟨gu, 0, none⟩)) q pc) q ((adCells U).take (q * 2)) rfl (HR1.out.keep (HSE.out _ hS2) fun _ _ => id) (by rw [HC1.out]; exact oneCell_ads _) (by unfold maxLen; omega) (by omega) hsl ?_
            intro v' w7 ho8 hk8 hn8 hb8
            have hk2 : Keep noBlk w3 w7 := (HSE.out _ hS2).trans' hk8 (U := noBlk) (fun _ _ h => h) (fun i hi e => by have := owns_base H0.out e; omega)
            have HB := Lib.hid (HB.out.keep hk8 (fun b hb e => by have h1 : w5.heap.size = b := Option.some.inj e; have h2 : w4.heap.size = b := Option.some.inj hb; omega))
            obtain ⟨H1a, H1c, rfl, -, -⟩ := (Rd.of_owns ho8).form
            rw [Nat.zero_add, List.nil_append, HC1.out] at ho8
            have H1 : Hid (w7.ownsRow w3.heap.size 50 2 (.slice H1a (q) H1c) (q) (adCells (U.take q))) := Lib.hid ho8
            rw [Nat.zero_add]
            clear ho8 hk8 hn8 hb8 hsl
            have hS3 := HSI.out _ hk2
            clear hS2 hk2
            go_wp2_with fail
            refine ⟨hS3, ?_⟩
            refine wpAnyH_one (k := 10) rfl (by kernel_rfl) ?_
            have hsl := (HSE.out _ hS3).size
            refine wpList_append_rd rfl (.tmp 48) (.tmp 53) 22 rfl w3.heap.size 50 zeroAd 2 16 Try.underlying22 infoAd rfl (by decide) (.slice H1a (q) H1c) q (adCells (U.take q)) rfl H1.out (.slice (some ⟨w4.heap.size, 0, none⟩) 1 1) 1 (adCs x) rfl HB.out (oneCell_ad _) (by unfold maxLen; omega) (by omega) hsl ?_
            intro v' w8 ho8 hk8 hn8 hb8
            have hk2 : Keep noBlk w3 w8 := (HSE.out _ hS3).trans' hk8 (U := noBlk) (fun _ _ h => h) (fun i hi e => by have := owns_base H1.out e; omega)
            obtain ⟨H2a, H2c, rfl, -, -⟩ := (Rd.of_owns ho8).form
            rw [← adCells_one, ← adCells_append] at ho8
            have H2 : Hid (w8.ownsRow w3.heap.size 50 2 (.slice H2a (q + 1) H2c) (q + 1) (adCells (U.take q ++ [x]))) := Lib.hid ho8
            skip
            clear ho8 hk8 hn8 hb8 hsl
            have hS4 := HSI.out _ hk2
            clear hS3 hk2
            go_wp2_with fail
            refine ⟨hS4, ?_⟩
            refine wpAnyH_one (k := 14) rfl (by kernel_rfl) ?_
            have hsl := (HSE.out _ hS4).size
            refine wpList_append_rd rfl (.tmp 54) (.tmp 57) 22 rfl w3.heap.size 50 zeroAd 2 16 Try.underlying22 infoAd rfl (by decide) (.slice H2a (q + 1) H2c) (q + 1) (adCells (U.take q ++ [x])) rfl H2.out (.slice sa (m - q) sc) (m - q) ((adCells U).drop (q * 2)) rfl (HR2.out.keep (HSE.out _ hS4) fun _ _ => id) (by rw [HC2.out]; exact oneCell_ads _) (by unfold maxLen; omega) (by omega) hsl ?_
            intro v' w9 ho8 hk8 hn8 hb8
            have hk2 : Keep noBlk w3 w9 := (HSE.out _ hS4).trans' hk8 (U := noBlk) (fun _ _ h => h) (fun i hi e => by have := owns_base H2.out e; omega)
            obtain ⟨H3a, H3c, rfl, -, -⟩ := (Rd.of_owns ho8).form
            rw [HC2.out, ← adCells_append, List.append_assoc, List.singleton_append, show q + 1 + (m - q) = m + 1 by omega] at ho8
            have H3 : Hid (w9.ownsRow w3.heap.size 50 2 (.slice H3a (m + 1) H3c) (m + 1) (adCells (U.take q ++ x :: U.drop q))) := Lib.hid ho8
            rw [show q + 1 + (m - q) = m + 1 by omega]
            clear ho8 hk8 hn8 hb8 hsl
            have hS5 := HSI.out _ hk2
            clear hS4 hk2
            go_wp2_with fail
            refine ⟨hS5, ?_⟩
            refine tna 15 (.slice H3a (m + 1) H3c) rfl hS5 ?_
            refine wpAnyH_done (by kernel_rfl) ?_ _
            have HKR := Lib.hid (HSE.out _ hS5)
            clear hS5 HSE HSI
            have HR := Lib.hid (HR.out.keep HKR.out fun _ _ => id)
            have HKW := Lib.hid (HKW.out.trans HKR.out)
            have HX := Lib.hid (HKR.out.rangeAt HX.out)
            have HU := Lib.hid (HU.out.keep HKR.out fun _ _ => id)
            have HKO := Lib.hid (HKO.out.trans HKR.out)
            have HY := Lib.hid (HKR.out.rangeAt HY.out)
            have HTE : Hid (canon (xs.take (k + 1)) = U.take q ++ x :: U.drop q) := Lib.hid (by rw [HTX.out, HINN.out HNX.out])
            have HLE : Hid ((U.take q ++ x :: U.drop q).length = m + 1) := Lib.hid (by rw [← HINN.out HNX.out, HLN.out HNX.out])
            go_wp2_with fail
            go_roundw
            case rel => exact ⟨k + 1, m + 1, _, _, by omega, by omega, by go_num, rfl, Lib.hid (by rw [HTE.out]; exact HLE.out), Lib.hid (by rw [HTE.out]; exact ownsRow_mono H3.out hwa), HKW⟩
            case measure => simp [intOf]; omega
    · go_loopw [5] (fun j w2 => ∃ q, q ≤ p ∧ j = .int .i64 q ∧ Hid (Keep noBlk wo w2)) (fun j _ => p - (intOf j).toNat)
      case atStart => exact ⟨0, Nat.zero_le _, rfl, Lib.hid (Keep.refl _ _)⟩
      case round =>
      obtain ⟨q, hq, rfl, HKI⟩ := hrel
      have HKO := Lib.hid (Keep.refl noBlk wo)
      by_cases hlt2 : q < p
      · have HR := Lib.hid (HR.out.keep HKI.out fun _ _ => id)
        have HKW := Lib.hid (HKW.out.trans HKI.out)
        have HX := Lib.hid (HKI.out.rangeAt HX.out)
        have HU := Lib.hid (HU.out.keep HKI.out fun _ _ => id)
        have HKO := Lib.hid (HKO.out.trans HKI.out)
        obtain ⟨y, hy, hyx⟩ := HLT.out q hlt2
        obtain ⟨gu, rfl, h_at⟩ := owned_at HO.out HM.out hy
        have HY := Lib.hid (HKI.out.rangeAt h_at)
        have hC := fun w => rlessC y x w
        rw [hyx] at hC
        have HC := Lib.hid hC
        have hq0 : (0 : Int) ≤ (q : Int) := by omega
        have hqm : (q : Int) < (m : Int) := by omega
        have hqn : q < m := by omega
        clear hy hyx h_at hC
        go_wp2_with fail
        obtain ⟨S, hS0⟩ : ∃ S : World → Prop, S = fun w' => Keep noBlk wr w' := ⟨_, rfl⟩
        have HSE := Lib.hid (show ∀ w', S w' → Keep noBlk wr w' from fun w' h => by rw [hS0] at h; exact h)
        have HSI := Lib.hid (show ∀ w', Keep noBlk wr w' → S w' from fun w' h => by rw [hS0]; exact h)
        have hS : S wr.drew := by rw [hS0]; exact (Keep.refl _ _).drew
        clear hS0
        refine wp_region_held (S := S) (by kernel_rfl) ?_
        change wpAnyH _ _ _ _ _ _ _ _ wr.drew
        generalize wr.drew = w1 at hS ⊢
        refine tka 0 (.int .i64 q) rfl hS ?_
        simp only [Act.put, List.setIfInBounds_toArray, List.set_cons_zero, List.set_cons_succ, List.getElem_toArray, List.getElem_cons_zero]
        refine tna 1 (.slice (some ⟨gu, 0, none⟩) m pc) rfl hS ?_
        refine tnb 2 (.int .i64 m) rfl hS ?_
        refine tnb 3 (.bool true) rfl hS ?_
        refine tna 4 (.bool true) rfl hS ?_
        refine tna 5 (.slice (some ⟨gu, 0, none⟩) m pc) rfl hS ?_
        refine tna 6 (.int .i64 q) rfl hS ?_
        refine tnb 7 (.pointer (some ⟨gu, 0 + q * 2, none⟩)) rfl hS ?_
        refine tnd 8 (.agg (adCs y).toArray) rfl (yieldsIf_load_mid (by rfl) 50 (.tmp 19) rfl (gu) (0 + q * 2) rfl (adCs y) _ (fun w' h => (HSE.out w' h).rangeAt HY.out) adUnder rfl sizeAd) hS ?_
        refine tna 9 (.slice (some ⟨g, o, none⟩) n ca) rfl hS ?_
        refine tna 10 (.int .i64 k) rfl hS ?_
        refine tnb 11 (.pointer (some ⟨g, o + k * 2, none⟩)) rfl hS ?_
        refine tnd 12 (.agg (adCs x).toArray) rfl (yieldsIf_load_mid (by rfl) 50 (.tmp 23) rfl (g) (o + k * 2) rfl (adCs x) _ (fun w' h => (HSE.out w' h).rangeAt HX.out) adUnder rfl sizeAd) hS ?_
        refine wpAnyH_one (k := 13) rfl (by kernel_rfl) ?_
        go_wp2_with fail
        refine (HC.out _).mono ?_
        rintro e w2 ⟨rfl, hk⟩
        have hS1 := HSI.out _ ((HSE.out _ hS).trans hk)
        clear hS hk
        go_wp2_with fail
        refine ⟨hS1, ?_⟩
        refine tna 14 (.bool true) rfl hS1 ?_
        refine wpAnyH_done (by kernel_rfl) ?_ _
        have HKR := Lib.hid (HSE.out _ hS1)
        clear hS1 HSE HSI
        have HR := Lib.hid (HR.out.keep HKR.out fun _ _ => id)
        have HKW := Lib.hid (HKW.out.trans HKR.out)
        have HX := Lib.hid (HKR.out.rangeAt HX.out)
        have HU := Lib.hid (HU.out.keep HKR.out fun _ _ => id)
        have HKO := Lib.hid (HKO.out.trans HKR.out)
        go_wp2_with fail
        go_roundw
        case rel => exact ⟨q + 1, by omega, by go_num, HKO⟩
        case measure => simp [intOf]; omega
      · obtain rfl : q = p := by omega
        have HR := Lib.hid (HR.out.keep HKI.out fun _ _ => id)
        have HKW := Lib.hid (HKW.out.trans HKI.out)
        have HX := Lib.hid (HKI.out.rangeAt HX.out)
        have HU := Lib.hid (HU.out.keep HKI.out fun _ _ => id)
        have HKO := Lib.hid (HKO.out.trans HKI.out)
        have hq0 : (0 : Int) ≤ (q : Int) := by omega
        obtain rfl : q = m := by omega
        have hqm : ¬ (q : Int) < (q : Int) := by omega
        go_wp2_with fail
        obtain ⟨S, hS0⟩ : ∃ S : World → Prop, S = fun w' => Keep noBlk wr w' := ⟨_, rfl⟩
        have HSE := Lib.hid (show ∀ w', S w' → Keep noBlk wr w' from fun w' h => by rw [hS0] at h; exact h)
        have HSI := Lib.hid (show ∀ w', Keep noBlk wr w' → S w' from fun w' h => by rw [hS0]; exact h)
        have hS : S wr.drew := by rw [hS0]; exact (Keep.refl _ _).drew
        clear hS0
        refine wp_region_held (S := S) (by kernel_rfl) ?_
        change wpAnyH _ _ _ _ _ _ _ _ wr.drew
        generalize wr.drew = w1 at hS ⊢
        refine tka 0 (.int .i64 q) rfl hS ?_
        simp only [Act.put, List.setIfInBounds_toArray, List.set_cons_zero, List.set_cons_succ, List.getElem_toArray, List.getElem_cons_zero]
        refine tna 1 (.slice pa q pc) rfl hS ?_
        refine tnb 2 (.int .i64 q) rfl hS ?_
        refine tnb 3 (.bool false) rfl hS ?_
        refine tna 4 (.bool false) rfl hS ?_
        refine tnc 5 undef rfl hS ?_
        refine tnc 6 undef rfl hS ?_
        refine tnc 7 undef rfl hS ?_
        refine tnc 8 undef rfl hS ?_
        refine tnc 9 undef rfl hS ?_
        refine tnc 10 undef rfl hS ?_
        refine tnc 11 undef rfl hS ?_
        refine tnc 12 undef rfl hS ?_
        refine tnc 13 undef rfl hS ?_
        refine tna 14 (.bool false) rfl hS ?_
        refine wpAnyH_done (by kernel_rfl) ?_ _
        have HKR := Lib.hid (HSE.out _ hS)
        clear hS HSE HSI
        have HR := Lib.hid (HR.out.keep HKR.out fun _ _ => id)
        have HKW := Lib.hid (HKW.out.trans HKR.out)
        have HX := Lib.hid (HKR.out.rangeAt HX.out)
        have HU := Lib.hid (HU.out.keep HKR.out fun _ _ => id)
        have HKO := Lib.hid (HKO.out.trans HKR.out)
        go_wp2_with fail
        obtain ⟨S, hS0⟩ : ∃ S : World → Prop, S = fun w' => Keep noBlk w1 w' := ⟨_, rfl⟩
        have HSE := Lib.hid (show ∀ w', S w' → Keep noBlk w1 w' from fun w' h => by rw [hS0] at h; exact h)
        have HSI := Lib.hid (show ∀ w', Keep noBlk w1 w' → S w' from fun w' h => by rw [hS0]; exact h)
        have hS : S w1.drew := by rw [hS0]; exact (Keep.refl _ _).drew
        clear hS0
        refine wp_region_held (S := S) (by kernel_rfl) ?_
        change wpAnyH _ _ _ _ _ _ _ _ w1.drew
        generalize w1.drew = w2 at hS ⊢
        refine tka 0 (.int .i64 q) rfl hS ?_
        simp only [Act.put, List.setIfInBounds_toArray, List.set_cons_zero, List.set_cons_succ, List.getElem_toArray, List.getElem_cons_zero]
        refine tna 1 (.slice pa q pc) rfl hS ?_
        refine tnb 2 (.int .i64 q) rfl hS ?_
        refine tnb 3 (.bool true) rfl hS ?_
        refine tna 4 (.bool true) rfl hS ?_
        refine tnc 5 undef rfl hS ?_
        refine tnc 6 undef rfl hS ?_
        refine tnc 7 undef rfl hS ?_
        refine tnc 8 undef rfl hS ?_
        refine tnc 9 undef rfl hS ?_
        refine tnc 10 undef rfl hS ?_
        refine tnc 11 undef rfl hS ?_
        refine tnc 12 undef rfl hS ?_
        refine tnc 13 undef rfl hS ?_
        refine tna 14 (.bool true) rfl hS ?_
        refine wpAnyH_done (by kernel_rfl) ?_ _
        have HKR := Lib.hid (HSE.out _ hS)
        clear hS HSE HSI
        have HR := Lib.hid (HR.out.keep HKR.out fun _ _ => id)
        have HKW := Lib.hid (HKW.out.trans HKR.out)
        have HX := Lib.hid (HKR.out.rangeAt HX.out)
        have HU := Lib.hid (HU.out.keep HKR.out fun _ _ => id)
        have HKO := Lib.hid (HKO.out.trans HKR.out)
        have HNX : Hid (U[q]? ≠ some x) := Lib.hid (by rw [List.getElem?_eq_none (by rw [HM.out]; omega)]; simp)
        go_wp2_with fail
        obtain ⟨sv, hsv⟩ : ∃ v, sliced (pa) q q pc 2 = v := ⟨_, rfl⟩
        have HSV : Hid (∀ w', (Instr.sliceAt 22 (.slice (pa) q pc) (some (.int .i64 q)) none none).run Try.prog w' = .ok sv w') := Lib.hid (fun w' => by rw [← hsv]; exact run_cut_from Try.underlying22 _ q pc q (by omega) sizeOfAd w')
        have HTV : Hid (∀ w', (Instr.sliceAt 22 (.slice (pa) q pc) none (some (.int .i64 q)) none).run Try.prog w' = .ok (.slice (pa) q pc) w') := Lib.hid (fun w' => run_cut_to Try.underlying22 _ q pc q (by omega) sizeOfAd w')
        have HR1 := Lib.hid (HU.out.cut_to (k := q) (by omega))
        have HR2 := Lib.hid (HU.out.cut_from (k := q) (by omega))
        rw [hsv] at HR2
        have HC1 : Hid ((adCells U).take (q * 2) = adCells (U.take q)) := Lib.hid (adCells_take U q)
        have HC2 : Hid ((adCells U).drop (q * 2) = adCells (U.drop q)) := Lib.hid (adCells_drop U q)
        obtain ⟨sa, sc, rfl, -, -⟩ := HR2.out.form
        clear hsv
        rw [Nat.sub_self] at HR2 HSV
        have hwa := HKW.out.size
        have HLN : Hid (U[q]? ≠ some x → (insA x U).length = q + 1) := Lib.hid (fun h => by rw [HINN.out h, List.length_append, List.length_cons, List.length_take, List.length_drop, HM.out]; omega)
        obtain ⟨S, hS0⟩ : ∃ S : World → Prop, S = fun w' => Keep noBlk w2 w' := ⟨_, rfl⟩
        have HSE := Lib.hid (show ∀ w', S w' → Keep noBlk w2 w' from fun w' h => by rw [hS0] at h; exact h)
        have HSI := Lib.hid (show ∀ w', Keep noBlk w2 w' → S w' from fun w' h => by rw [hS0]; exact h)
        have hS : S w2.drew := by rw [hS0]; exact (Keep.refl _ _).drew
        clear hS0
        refine wp_region_held (S := S) (by kernel_rfl) ?_
        change wpAnyH _ _ _ _ _ _ _ _ w2.drew
        generalize w2.drew = w3 at hS ⊢
        have hsA : w2.heap.size ≤ w2.heap.size := Nat.le_refl _
        refine tna 1 (.slice pa q pc) rfl hS ?_
        refine tna 2 (.int .i64 q) rfl hS ?_
        refine tnd 3 (.slice (pa) q pc) rfl (yieldsIf_slice (by rfl) 22 (.tmp 45) none (some (.tmp 46)) none rfl (.slice (pa) q pc) none (some (.int .i64 q)) none rfl rfl rfl rfl HTV.out) hS ?_
        refine tna 5 (.slice (some ⟨g, o, none⟩) n ca) rfl hS ?_
        refine tna 6 (.int .i64 k) rfl hS ?_
        refine tnb 7 (.pointer (some ⟨g, o + k * 2, none⟩)) rfl hS ?_
        refine tnd 8 (.agg (adCs x).toArray) rfl (yieldsIf_load_mid (by rfl) 50 (.tmp 51) rfl (g) (o + k * 2) rfl (adCs x) _ (fun w' h => (HSE.out w' h).rangeAt HX.out) adUnder rfl sizeAd) hS ?_
        refine tna 11 (.slice pa q pc) rfl hS ?_
        refine tna 12 (.int .i64 q) rfl hS ?_
        refine tnd 13 (.slice sa 0 sc) rfl (yieldsIf_slice (by rfl) 22 (.tmp 55) (some (.tmp 56)) none none rfl (.slice (pa) q pc) (some (.int .i64 q)) none none rfl rfl rfl rfl HSV.out) hS ?_
        refine wpAnyH_two (k := 0) (l := 9) rfl rfl (by kernel_rfl) ?_ ?_
        · have hsl := (HSE.out _ hS).size
          obtain ⟨w4, hw9, hk, hb9, hs9⟩ := alloc_facts w3 #[] 50
          have H0 : Hid (w4.ownsRow w2.heap.size 50 2 (.slice (some ⟨w3.heap.size, 0, none⟩) 0 0) 0 []) := Lib.hid (by rw [← hw9]; exact World.ownsRow_made w3 #[] 0 hsl (by unfold maxLen; omega) rfl)
          have hlt_w4 : w3.heap.size < w4.heap.size := by omega
          clear hb9 hs9 hsl
          go_wp2_with fail
          try rw [hw9]
          clear hw9
          have hS1 := HSI.out _ ((HSE.out _ hS).trans hk)
          clear hS hk
          refine ⟨hS1, ?_⟩
          refine wpAnyH_two (k := 4) (l := 9) rfl rfl (by kernel_rfl) ?_ ?_
          · have hsl := (HSE.out _ hS1).size
            refine wpList_append_rd rfl (.tmp 44) (.tmp 47) 22 rfl w2.heap.size 50 zeroAd 2 16 Try.underlying22 infoAd rfl (by decide) (.slice (some ⟨w3.heap.size, 0, none⟩) 0 0) 0 ([]) rfl H0.out (.slice (pa) q pc) q ((adCells U).take (q * 2)) rfl (HR1.out.keep (HSE.out _ hS1) fun _ _ => id) (by rw [HC1.out]; exact oneCell_ads _) (by unfold maxLen; omega) (by omega) hsl ?_
            intro v' w5 ho8 hk8 hn8 hb8
            have hk2 : Keep noBlk w2 w5 := (HSE.out _ hS1).trans' hk8 (U := noBlk) (fun _ _ h => h) (fun i hi e => by have := owns_base H0.out e; omega)
            obtain ⟨H1a, H1c, rfl, -, -⟩ := (Rd.of_owns ho8).form
            rw [Nat.zero_add, List.nil_append, HC1.out] at ho8
            have H1 : Hid (w5.ownsRow w2.heap.size 50 2 (.slice H1a (q) H1c) (q) (adCells (U.take q))) := Lib.hid ho8
            rw [Nat.zero_add]
            clear ho8 hk8 hn8 hb8 hsl
            have hS2 := HSI.out _ hk2
            clear hS1 hk2
            go_wp2_with fail
            refine ⟨hS2, ?_⟩
            refine wpAnyH_one (k := 9) rfl (by kernel_rfl) ?_
            refine wpList_build_one rfl 22 50 (.tmp 52) rfl Try.underlying22 infoAd (by decide) (adCs x) rfl (by decide) rfl ?_
            obtain ⟨w6, hw9, hk, HB⟩ : ∃ w7, w5.alloc (.cells (adCs x).toArray 50) = w7 ∧ Keep noBlk w5 w7 ∧ Hid (Rd w7 2 (.slice (some ⟨w5.heap.size, 0, none⟩) 1 1) 1 (adCs x)) :=
              ⟨_, rfl, (Keep.refl _ _).alloc _, Lib.hid (rd_blk (n := 1) (size := 2) (heap_alloc_new _ _) rfl (by unfold maxLen; omega))⟩
            have hlt_w6 : w5.heap.size < w6.heap.size := by rw [← hw9, World.size_alloc]; omega
            rw [hw9]
            clear hw9
            have H1 := Lib.hid (hk.owns H1.out fun _ _ => id)
            have hS3 := HSI.out _ ((HSE.out _ hS2).trans hk)
            clear hS2 hk
            go_wp2_with fail
            refine ⟨hS3, ?_⟩
            refine wpAnyH_one (k := 10) rfl (by kernel_rfl) ?_
            have hsl := (HSE.out _ hS3).size
            refine wpList_append_rd rfl (.tmp 48) (.tmp 53) 22 rfl w2.heap.size 50 zeroAd 2 16 Try.underlying22 infoAd rfl (by decide) (.slice H1a (q) H1c) q (adCells (U.take q)) rfl H1.out (.slice (some ⟨w5.heap.size, 0, none⟩) 1 1) 1 (adCs x) rfl HB.out (oneCell_ad _) (by unfold maxLen; omega) (by omega) hsl ?_
            intro v' w7 ho8 hk8 hn8 hb8
            have hk2 : Keep noBlk w2 w7 := (HSE.out _ hS3).trans' hk8 (U := noBlk) (fun _ _ h => h) (fun i hi e => by have := owns_base H1.out e; omega)
            obtain ⟨H2a, H2c, rfl, -, -⟩ := (Rd.of_owns ho8).form
            rw [← adCells_one, ← adCells_append] at ho8
            have H2 : Hid (w7.ownsRow w2.heap.size 50 2 (.slice H2a (q + 1) H2c) (q + 1) (adCells (U.take q ++ [x]))) := Lib.hid ho8
            skip
            clear ho8 hk8 hn8 hb8 hsl
            have hS4 := HSI.out _ hk2
            clear hS3 hk2
            go_wp2_with fail
            refine ⟨hS4, ?_⟩
            refine wpAnyH_one (k := 14) rfl (by kernel_rfl) ?_
            have hsl := (HSE.out _ hS4).size
            refine wpList_append_rd rfl (.tmp 54) (.tmp 57) 22 rfl w2.heap.size 50 zeroAd 2 16 Try.underlying22 infoAd rfl (by decide) (.slice H2a (q + 1) H2c) (q + 1) (adCells (U.take q ++ [x])) rfl H2.out (.slice sa 0 sc) 0 ((adCells U).drop (q * 2)) rfl (HR2.out.keep (HSE.out _ hS4) fun _ _ => id) (by rw [HC2.out]; exact oneCell_ads _) (by unfold maxLen; omega) (by omega) hsl ?_
            intro v' w8 ho8 hk8 hn8 hb8
            have hk2 : Keep noBlk w2 w8 := (HSE.out _ hS4).trans' hk8 (U := noBlk) (fun _ _ h => h) (fun i hi e => by have := owns_base H2.out e; omega)
            obtain ⟨H3a, H3c, rfl, -, -⟩ := (Rd.of_owns ho8).form
            rw [HC2.out, ← adCells_append, List.append_assoc, List.singleton_append, show q + 1 + 0 = q + 1 by omega] at ho8
            have H3 : Hid (w8.ownsRow w2.heap.size 50 2 (.slice H3a (q + 1) H3c) (q + 1) (adCells (U.take q ++ x :: U.drop q))) := Lib.hid ho8
            rw [show q + 1 + 0 = q + 1 by omega]
            clear ho8 hk8 hn8 hb8 hsl
            have hS5 := HSI.out _ hk2
            clear hS4 hk2
            go_wp2_with fail
            refine ⟨hS5, ?_⟩
            refine tna 15 (.slice H3a (q + 1) H3c) rfl hS5 ?_
            refine wpAnyH_done (by kernel_rfl) ?_ _
            have HKR := Lib.hid (HSE.out _ hS5)
            clear hS5 HSE HSI
            have HR := Lib.hid (HR.out.keep HKR.out fun _ _ => id)
            have HKW := Lib.hid (HKW.out.trans HKR.out)
            have HX := Lib.hid (HKR.out.rangeAt HX.out)
            have HU := Lib.hid (HU.out.keep HKR.out fun _ _ => id)
            have HKO := Lib.hid (HKO.out.trans HKR.out)
            have HTE : Hid (canon (xs.take (k + 1)) = U.take q ++ x :: U.drop q) := Lib.hid (by rw [HTX.out, HINN.out HNX.out])
            have HLE : Hid ((U.take q ++ x :: U.drop q).length = q + 1) := Lib.hid (by rw [← HINN.out HNX.out, HLN.out HNX.out])
            go_wp2_with fail
            go_roundw
            case rel => exact ⟨k + 1, q + 1, _, _, by omega, by omega, by go_num, rfl, Lib.hid (by rw [HTE.out]; exact HLE.out), Lib.hid (by rw [HTE.out]; exact ownsRow_mono H3.out hwa), HKW⟩
            case measure => simp [intOf]; omega
          · refine wpList_build_one rfl 22 50 (.tmp 52) rfl Try.underlying22 infoAd (by decide) (adCs x) rfl (by decide) rfl ?_
            obtain ⟨w5, hw9, hk, HB⟩ : ∃ w7, w4.alloc (.cells (adCs x).toArray 50) = w7 ∧ Keep noBlk w4 w7 ∧ Hid (Rd w7 2 (.slice (some ⟨w4.heap.size, 0, none⟩) 1 1) 1 (adCs x)) :=
              ⟨_, rfl, (Keep.refl _ _).alloc _, Lib.hid (rd_blk (n := 1) (size := 2) (heap_alloc_new _ _) rfl (by unfold maxLen; omega))⟩
            have hlt_w5 : w4.heap.size < w5.heap.size := by rw [← hw9, World.size_alloc]; omega
            rw [hw9]
            clear hw9
            have H0 := Lib.hid (hk.owns H0.out fun _ _ => id)
            have hS2 := HSI.out _ ((HSE.out _ hS1).trans hk)
            clear hS1 hk
            go_wp2_with fail
            refine ⟨hS2, ?_⟩
            refine wpAnyH_one (k := 4) rfl (by kernel_rfl) ?_
            have hsl := (HSE.out _ hS2).size
            refine wpList_append_rd rfl (.tmp 44) (.tmp 47) 22 rfl w2.heap.size 50 zeroAd 2 16 Try.underlying22 infoAd rfl (by decide) (.slice (some ⟨w3.heap.size, 0, none⟩) 0 0) 0 ([]) rfl H0.out (.slice (pa) q pc) q ((adCells U).take (q * 2)) rfl (HR1.out.keep (HSE.out _ hS2) fun _ _ => id) (by rw [HC1.out]; exact oneCell_ads _) (by unfold maxLen; omega) (by omega) hsl ?_
            intro v' w6 ho8 hk8 hn8 hb8
            have hk2 : Keep noBlk w2 w6 := (HSE.out _ hS2).trans' hk8 (U := noBlk) (fun _ _ h => h) (fun i hi e => by have := owns_base H0.out e; omega)
            have HB := Lib.hid (HB.out.keep hk8 (fun b hb e => by have h1 : w3.heap.size = b := Option.some.inj e; have h2 : w4.heap.size = b := Option.some.inj hb; omega))
            obtain ⟨H1a, H1c, rfl, -, -⟩ := (Rd.of_owns ho8).form
            rw [Nat.zero_add, List.nil_append, HC1.out] at ho8
            have H1 : Hid (w6.ownsRow w2.heap.size 50 2 (.slice H1a (q) H1c) (q) (adCells (U.take q))) := Lib.hid ho8
            rw [Nat.zero_add]
            clear ho8 hk8 hn8 hb8 hsl
            have hS3 := HSI.out _ hk2
            clear hS2 hk2
            go_wp2_with fail
            refine ⟨hS3, ?_⟩
            refine wpAnyH_one (k := 10) rfl (by kernel_rfl) ?_
            have hsl := (HSE.out _ hS3).size
            refine wpList_append_rd rfl (.tmp 48) (.tmp 53) 22 rfl w2.heap.size 50 zeroAd 2 16 Try.underlying22 infoAd rfl (by decide) (.slice H1a (q) H1c) q (adCells (U.take q)) rfl H1.out (.slice (some ⟨w4.heap.size, 0, none⟩) 1 1) 1 (adCs x) rfl HB.out (oneCell_ad _) (by unfold maxLen; omega) (by omega) hsl ?_
            intro v' w7 ho8 hk8 hn8 hb8
            have hk2 : Keep noBlk w2 w7 := (HSE.out _ hS3).trans' hk8 (U := noBlk) (fun _ _ h => h) (fun i hi e => by have := owns_base H1.out e; omega)
            obtain ⟨H2a, H2c, rfl, -, -⟩ := (Rd.of_owns ho8).form
            rw [← adCells_one, ← adCells_append] at ho8
            have H2 : Hid (w7.ownsRow w2.heap.size 50 2 (.slice H2a (q + 1) H2c) (q + 1) (adCells (U.take q ++ [x]))) := Lib.hid ho8
            skip
            clear ho8 hk8 hn8 hb8 hsl
            have hS4 := HSI.out _ hk2
            clear hS3 hk2
            go_wp2_with fail
            refine ⟨hS4, ?_⟩
            refine wpAnyH_one (k := 14) rfl (by kernel_rfl) ?_
            have hsl := (HSE.out _ hS4).size
            refine wpList_append_rd rfl (.tmp 54) (.tmp 57) 22 rfl w2.heap.size 50 zeroAd 2 16 Try.underlying22 infoAd rfl (by decide) (.slice H2a (q + 1) H2c) (q + 1) (adCells (U.take q ++ [x])) rfl H2.out (.slice sa 0 sc) 0 ((adCells U).drop (q * 2)) rfl (HR2.out.keep (HSE.out _ hS4) fun _ _ => id) (by rw [HC2.out]; exact oneCell_ads _) (by unfold maxLen; omega) (by omega) hsl ?_
            intro v' w8 ho8 hk8 hn8 hb8
            have hk2 : Keep noBlk w2 w8 := (HSE.out _ hS4).trans' hk8 (U := noBlk) (fun _ _ h => h) (fun i hi e => by have := owns_base H2.out e; omega)
            obtain ⟨H3a, H3c, rfl, -, -⟩ := (Rd.of_owns ho8).form
            rw [HC2.out, ← adCells_append, List.append_assoc, List.singleton_append, show q + 1 + 0 = q + 1 by omega] at ho8
            have H3 : Hid (w8.ownsRow w2.heap.size 50 2 (.slice H3a (q + 1) H3c) (q + 1) (adCells (U.take q ++ x :: U.drop q))) := Lib.hid ho8
            rw [show q + 1 + 0 = q + 1 by omega]
            clear ho8 hk8 hn8 hb8 hsl
            have hS5 := HSI.out _ hk2
            clear hS4 hk2
            go_wp2_with fail
            refine ⟨hS5, ?_⟩
            refine tna 15 (.slice H3a (q + 1) H3c) rfl hS5 ?_
            refine wpAnyH_done (by kernel_rfl) ?_ _
            have HKR := Lib.hid (HSE.out _ hS5)
            clear hS5 HSE HSI
            have HR := Lib.hid (HR.out.keep HKR.out fun _ _ => id)
            have HKW := Lib.hid (HKW.out.trans HKR.out)
            have HX := Lib.hid (HKR.out.rangeAt HX.out)
            have HU := Lib.hid (HU.out.keep HKR.out fun _ _ => id)
            have HKO := Lib.hid (HKO.out.trans HKR.out)
            have HTE : Hid (canon (xs.take (k + 1)) = U.take q ++ x :: U.drop q) := Lib.hid (by rw [HTX.out, HINN.out HNX.out])
            have HLE : Hid ((U.take q ++ x :: U.drop q).length = q + 1) := Lib.hid (by rw [← HINN.out HNX.out, HLN.out HNX.out])
            go_wp2_with fail
            go_roundw
            case rel => exact ⟨k + 1, q + 1, _, _, by omega, by omega, by go_num, rfl, Lib.hid (by rw [HTE.out]; exact HLE.out), Lib.hid (by rw [HTE.out]; exact ownsRow_mono H3.out hwa), HKW⟩
            case measure => simp [intOf]; omega
        · refine wpList_build_one rfl 22 50 (.tmp 52) rfl Try.underlying22 infoAd (by decide) (adCs x) rfl (by decide) rfl ?_
          obtain ⟨w4, hw9, hk, HB⟩ : ∃ w7, w3.alloc (.cells (adCs x).toArray 50) = w7 ∧ Keep noBlk w3 w7 ∧ Hid (Rd w7 2 (.slice (some ⟨w3.heap.size, 0, none⟩) 1 1) 1 (adCs x)) :=
            ⟨_, rfl, (Keep.refl _ _).alloc _, Lib.hid (rd_blk (n := 1) (size := 2) (heap_alloc_new _ _) rfl (by unfold maxLen; omega))⟩
          have hlt_w4 : w3.heap.size < w4.heap.size := by rw [← hw9, World.size_alloc]; omega
          rw [hw9]
          clear hw9
          have hS1 := HSI.out _ ((HSE.out _ hS).trans hk)
          clear hS hk
          go_wp2_with fail
          refine ⟨hS1, ?_⟩
          refine wpAnyH_one (k := 0) rfl (by kernel_rfl) ?_
          have hsl := (HSE.out _ hS1).size
          obtain ⟨w5, hw9, hk, hb9, hs9⟩ := alloc_facts w4 #[] 50
          have H0 : Hid (w5.ownsRow w2.heap.size 50 2 (.slice (some ⟨w4.heap.size, 0, none⟩) 0 0) 0 []) := Lib.hid (by rw [← hw9]; exact World.ownsRow_made w4 #[] 0 hsl (by unfold maxLen; omega) rfl)
          have hlt_w5 : w4.heap.size < w5.heap.size := by omega
          have HB := Lib.hid (HB.out.keep hk fun _ _ => id)
          clear hb9 hs9 hsl
          go_wp2_with fail
          try rw [hw9]
          clear hw9
          have hS2 := HSI.out _ ((HSE.out _ hS1).trans hk)
          clear hS1 hk
          refine ⟨hS2, ?_⟩
          refine wpAnyH_one (k := 4) rfl (by kernel_rfl) ?_
          have hsl := (HSE.out _ hS2).size
          refine wpList_append_rd rfl (.tmp 44) (.tmp 47) 22 rfl w2.heap.size 50 zeroAd 2 16 Try.underlying22 infoAd rfl (by decide) (.slice (some ⟨w4.heap.size, 0, none⟩) 0 0) 0 ([]) rfl H0.out (.slice (pa) q pc) q ((adCells U).take (q * 2)) rfl (HR1.out.keep (HSE.out _ hS2) fun _ _ => id) (by rw [HC1.out]; exact oneCell_ads _) (by unfold maxLen; omega) (by omega) hsl ?_
          intro v' w6 ho8 hk8 hn8 hb8
          have hk2 : Keep noBlk w2 w6 := (HSE.out _ hS2).trans' hk8 (U := noBlk) (fun _ _ h => h) (fun i hi e => by have := owns_base H0.out e; omega)
          have HB := Lib.hid (HB.out.keep hk8 (fun b hb e => by have h1 : w4.heap.size = b := Option.some.inj e; have h2 : w3.heap.size = b := Option.some.inj hb; omega))
          obtain ⟨H1a, H1c, rfl, -, -⟩ := (Rd.of_owns ho8).form
          rw [Nat.zero_add, List.nil_append, HC1.out] at ho8
          have H1 : Hid (w6.ownsRow w2.heap.size 50 2 (.slice H1a (q) H1c) (q) (adCells (U.take q))) := Lib.hid ho8
          rw [Nat.zero_add]
          clear ho8 hk8 hn8 hb8 hsl
          have hS3 := HSI.out _ hk2
          clear hS2 hk2
          go_wp2_with fail
          refine ⟨hS3, ?_⟩
          refine wpAnyH_one (k := 10) rfl (by kernel_rfl) ?_
          have hsl := (HSE.out _ hS3).size
          refine wpList_append_rd rfl (.tmp 48) (.tmp 53) 22 rfl w2.heap.size 50 zeroAd 2 16 Try.underlying22 infoAd rfl (by decide) (.slice H1a (q) H1c) q (adCells (U.take q)) rfl H1.out (.slice (some ⟨w3.heap.size, 0, none⟩) 1 1) 1 (adCs x) rfl HB.out (oneCell_ad _) (by unfold maxLen; omega) (by omega) hsl ?_
          intro v' w7 ho8 hk8 hn8 hb8
          have hk2 : Keep noBlk w2 w7 := (HSE.out _ hS3).trans' hk8 (U := noBlk) (fun _ _ h => h) (fun i hi e => by have := owns_base H1.out e; omega)
          obtain ⟨H2a, H2c, rfl, -, -⟩ := (Rd.of_owns ho8).form
          rw [← adCells_one, ← adCells_append] at ho8
          have H2 : Hid (w7.ownsRow w2.heap.size 50 2 (.slice H2a (q + 1) H2c) (q + 1) (adCells (U.take q ++ [x]))) := Lib.hid ho8
          skip
          clear ho8 hk8 hn8 hb8 hsl
          have hS4 := HSI.out _ hk2
          clear hS3 hk2
          go_wp2_with fail
          refine ⟨hS4, ?_⟩
          refine wpAnyH_one (k := 14) rfl (by kernel_rfl) ?_
          have hsl := (HSE.out _ hS4).size
          refine wpList_append_rd rfl (.tmp 54) (.tmp 57) 22 rfl w2.heap.size 50 zeroAd 2 16 Try.underlying22 infoAd rfl (by decide) (.slice H2a (q + 1) H2c) (q + 1) (adCells (U.take q ++ [x])) rfl H2.out (.slice sa 0 sc) 0 ((adCells U).drop (q * 2)) rfl (HR2.out.keep (HSE.out _ hS4) fun _ _ => id) (by rw [HC2.out]; exact oneCell_ads _) (by unfold maxLen; omega) (by omega) hsl ?_
          intro v' w8 ho8 hk8 hn8 hb8
          have hk2 : Keep noBlk w2 w8 := (HSE.out _ hS4).trans' hk8 (U := noBlk) (fun _ _ h => h) (fun i hi e => by have := owns_base H2.out e; omega)
          obtain ⟨H3a, H3c, rfl, -, -⟩ := (Rd.of_owns ho8).form
          rw [HC2.out, ← adCells_append, List.append_assoc, List.singleton_append, show q + 1 + 0 = q + 1 by omega] at ho8
          have H3 : Hid (w8.ownsRow w2.heap.size 50 2 (.slice H3a (q + 1) H3c) (q + 1) (adCells (U.take q ++ x :: U.drop q))) := Lib.hid ho8
          rw [show q + 1 + 0 = q + 1 by omega]
          clear ho8 hk8 hn8 hb8 hsl
          have hS5 := HSI.out _ hk2
          clear hS4 hk2
          go_wp2_with fail
          refine ⟨hS5, ?_⟩
          refine tna 15 (.slice H3a (q + 1) H3c) rfl hS5 ?_
          refine wpAnyH_done (by kernel_rfl) ?_ _
          have HKR := Lib.hid (HSE.out _ hS5)
          clear hS5 HSE HSI
          have HR := Lib.hid (HR.out.keep HKR.out fun _ _ => id)
          have HKW := Lib.hid (HKW.out.trans HKR.out)
          have HX := Lib.hid (HKR.out.rangeAt HX.out)
          have HU := Lib.hid (HU.out.keep HKR.out fun _ _ => id)
          have HKO := Lib.hid (HKO.out.trans HKR.out)
          have HTE : Hid (canon (xs.take (k + 1)) = U.take q ++ x :: U.drop q) := Lib.hid (by rw [HTX.out, HINN.out HNX.out])
          have HLE : Hid ((U.take q ++ x :: U.drop q).length = q + 1) := Lib.hid (by rw [← HINN.out HNX.out, HLN.out HNX.out])
          go_wp2_with fail
          go_roundw
          case rel => exact ⟨k + 1, q + 1, _, _, by omega, by omega, by go_num, rfl, Lib.hid (by rw [HTE.out]; exact HLE.out), Lib.hid (by rw [HTE.out]; exact ownsRow_mono H3.out hwa), HKW⟩
          case measure => simp [intOf]; omega
  · obtain rfl : k = n := by omega
    have htk : xs.take k = xs := List.take_of_length_le (by rw [HN.out]; exact Nat.le_refl _)
    rw [htk] at HM HO
    go_wp2_with fail
    go_ret
    exact ⟨_, rfl, by rw [HM.out]; exact HO.out, HKA.out⟩
end Go.Proofs.Ytfjklgbakhjjiaa
