/-
  Addresses that are the same; caulkerkit.SameAddrs.
  Conditions: none.
-/
import Derived.Test.YtfjklgbakhjjiaaSetAddr
namespace Go.Proofs.Ytfjklgbakhjjiaa
open Go.RowKit
set_option maxRecDepth 100000
set_option linter.unusedVariables false

theorem yieldsIf_neq_agg {P : Program} {ops : Array Oper} {S : World → Prop} {op : Oper} {a : Act} (hw : Region.wanted op (yielded ops a.tmps) = true) (t : TypeId) (x y : Operand) (rt : TypeId) (ho : op.op = .binOp .neq t x y rt)
    (xs ys : Array Value) (hx : a.eval x = .agg xs) (hy : a.eval y = .agg ys) (hg : P.eqGuardType P.depth t = false) {b : Bool} (h : ∀ w, (binOp .neq t (.agg xs) (.agg ys)).run P w = .ok (.bool b) w) : YieldsIf P ops S op (.bool b) a :=
  .inl ⟨hw, fun w _ => by
    unfold execOp
    simp only [ho, hx, hy, Sem.run_bind, Sem.run_pure, Result.andThen_ok, run_eqGuard_agg w .neq t x y xs ys hg, h w]⟩
theorem adGuard : Try.prog.eqGuardType Try.prog.depth 50 = false := by kernel_rfl
theorem adStood : Try.prog.stoodInHeld 50 = false := by kernel_rfl
theorem eqAd (a b : Ad) (w : World) : Sem.run Try.prog (binOp .eql 50 (.agg (adCs a).toArray) (.agg (adCs b).toArray)) w = .ok (.bool (decide (a = b))) w := by
  have e : decide (a = b) = (decide (a.dev = b.dev) && decide (a.sec = b.sec)) := by rw [Bool.eq_iff_iff]; simp [Ad.ext_iff]
  rw [e, run_eql_struct, run_equalIn_agg w 9999 50 _ _ adUnder adStood, eqFields_eqT, adFields]
  have hi : ∀ x y : Int, (Op.equalIn 9999 3 (.int .i64 x) (.int .i64 y)).run Try.prog w = .ok (x == y) w := fun x y => run_equalIn_int w 9998 3 .i64 .i64 x y Try.underlying3
  have hd : ∀ x y : Int, (x == y) = decide (x = y) := fun x y => by rw [Bool.eq_iff_iff]; simp
  have a0 : (adCs a).toArray[0]? = some (.int .i64 a.dev) := rfl
  have a1 : (adCs a).toArray[1]? = some (.int .i64 a.sec) := rfl
  have b0 : (adCs b).toArray[0]? = some (.int .i64 b.dev) := rfl
  have b1 : (adCs b).toArray[1]? = some (.int .i64 b.sec) := rfl
  simp only [eqT, ne_eq, String.reduceEq, not_false_eq_true, if_true, Sem.run_bind, Sem.run_ite, Sem.run_pure, Result.andThen_ok, part_int _ 0 _ a0, part_int _ 0 _ b0, part_int _ 1 _ a1, part_int _ 1 _ b1, hi, hd]
  cases decide (a.dev = b.dev) <;> cases decide (a.sec = b.sec) <;> rfl
theorem neqAd (a b : Ad) (w : World) : Sem.run Try.prog (binOp .neq 50 (.agg (adCs a).toArray) (.agg (adCs b).toArray)) w = .ok (.bool (!decide (a = b))) w := neq_of_eql (eqAd a b w)

set_option maxHeartbeats 2000000 in
theorem same_any (w : World) (va vb' : Value) (xs ys : List Ad) (hx : Rd w 2 va xs.length (adCells xs)) (hy : Rd w 2 vb' ys.length (adCells ys)) (bb : Bool) (he : decide (xs = ys) = bb) :
    Calls Try.prog 13 #[va, vb'] w fun e w' => e = .returned (.bool bb) ∧ Keep noBlk w w' := by
  obtain ⟨oa, ca, rfl, hla, hma⟩ := hx.form
  obtain ⟨ob, cb, rfl, hlb, hmb⟩ := hy.form
  have hmx : xs.length ≤ maxLen := by omega
  unfold maxLen at hmx
  have HE := Lib.hid he; have HRX := Lib.hid hx; have HRY := Lib.hid hy
  obtain ⟨n, hn⟩ : ∃ n, xs.length = n := ⟨_, rfl⟩
  obtain ⟨m, hm⟩ : ∃ m, ys.length = m := ⟨_, rfl⟩
  have HN := Lib.hid hn; have HM := Lib.hid hm
  rw [hn] at HRX hmx
  rw [hm] at HRY
  rw [hn, hm]
  clear hx hy he hla hma hlb hmb hn hm
  by_cases hnm : n = m
  · subst hnm
    go_enter Try.func13, Try.ntmps13
    go_wp2_with fail
    go_loopw [5] (fun i wr => ∃ k : Nat, k ≤ n ∧ i = .int .i64 k ∧ Hid (xs.take k = ys.take k) ∧ Hid (Keep noBlk w wr)) (fun i _ => n - (intOf i).toNat)
    case atStart => exact ⟨0, Nat.zero_le _, rfl, Lib.hid rfl, Lib.hid (Keep.refl _ _)⟩
    case round =>
    obtain ⟨k, hk, rfl, HT, HK⟩ := hrel
    by_cases hlt : k < n
    · obtain ⟨x, hx⟩ : ∃ x, xs[k]? = some x := ⟨xs[k]'(by rw [HN.out]; exact hlt), List.getElem?_eq_getElem _⟩
      obtain ⟨y, hy⟩ : ∃ y, ys[k]? = some y := ⟨ys[k]'(by rw [HM.out]; exact hlt), List.getElem?_eq_getElem _⟩
      obtain ⟨S, hS0⟩ : ∃ S : World → Prop, S = fun w' => Keep noBlk w w' := ⟨_, rfl⟩
      have hra := HRX.out
      have hrb := HRY.out
      rw [← HN.out] at hra
      rw [← HM.out] at hrb
      obtain ⟨g, o, cap, hv, -⟩ := rd_ad hra hx
      obtain ⟨g2, o2, cap2, hv2, -⟩ := rd_ad hrb hy
      have e1 : oa = some ⟨g, o, none⟩ := by cases hv; rfl
      have e2 : ob = some ⟨g2, o2, none⟩ := by cases hv2; rfl
      subst e1 e2
      obtain ⟨xc, hxc⟩ : ∃ xc, adCs x = xc := ⟨_, rfl⟩
      obtain ⟨yc, hyc⟩ : ∃ yc, adCs y = yc := ⟨_, rfl⟩
      have HSX := Lib.hid (show ∀ w', S w' → w'.rangeAt g (o + k * 2) xc from fun w' h => by
        rw [hS0] at h
        obtain ⟨g', o', c', hv', hr'⟩ := rd_ad (hra.keep h fun _ _ => id) hx
        cases hv'
        rw [← hxc]; exact hr')
      have HSY := Lib.hid (show ∀ w', S w' → w'.rangeAt g2 (o2 + k * 2) yc from fun w' h => by
        rw [hS0] at h
        obtain ⟨g', o', c', hv', hr'⟩ := rd_ad (hrb.keep h fun _ _ => id) hy
        cases hv'
        rw [← hyc]; exact hr')
      have HX : Hid ((Try.prog.info? 50).map (·.size) = some xc.length) := Lib.hid (by rw [← hxc]; exact sizeAd)
      have HY : Hid ((Try.prog.info? 50).map (·.size) = some yc.length) := Lib.hid (by rw [← hyc]; exact sizeAd)
      obtain ⟨bq, hbq⟩ : ∃ bq, (!decide (x = y)) = bq := ⟨_, rfl⟩
      have HNE : Hid (∀ w', Sem.run Try.prog (binOp .neq 50 (.agg xc.toArray) (.agg yc.toArray)) w' = .ok (.bool bq) w') := Lib.hid (fun w' => by rw [← hxc, ← hyc, ← hbq]; exact neqAd x y w')
      have HBQ := Lib.hid hbq
      have HSE := Lib.hid (show ∀ w', S w' → Keep noBlk w w' from fun w' h => by rw [hS0] at h; exact h)
      have hS : S wr.drew := by rw [hS0]; exact HK.out.drew
      have HTX : Hid (xs.take (k + 1) = xs.take k ++ [x]) := Lib.hid (by rw [List.take_add_one, hx]; rfl)
      have HTY : Hid (ys.take (k + 1) = ys.take k ++ [y]) := Lib.hid (by rw [List.take_add_one, hy]; rfl)
      have HXE := Lib.hid hx; have HYE := Lib.hid hy
      have hki : (k : Int) < (n : Int) := by omega
      have hk0 : (0 : Int) ≤ (k : Int) := by omega
      clear hx hy hS0 hra hrb hv hv2 hxc hyc hbq HK
      go_wp2_with fail
      refine wp_region_held (S := S) (by kernel_rfl) ?_
      change wpAnyH _ _ _ _ _ _ _ _ wr.drew
      generalize wr.drew = w6 at *
      refine tka 0 (.slice (some ⟨g, o, none⟩) n ca) rfl hS ?_
      simp only [Act.put, List.setIfInBounds_toArray, List.set_cons_zero, List.set_cons_succ, List.getElem_toArray, List.getElem_cons_zero]
      refine tna 1 (.int .i64 k) rfl hS ?_
      refine tkd 2 (.pointer (some ⟨g, o + k * 2, none⟩)) rfl (.inl ⟨by rfl, fun _ _ => ?_⟩) hS ?_
      · go_simp
      refine nrm ?_
      refine tnd 3 (.agg xc.toArray) rfl (yieldsIf_load_mid (by rfl) 50 (.tmp 19) rfl g (o + k * 2) rfl xc _ HSX.out adUnder rfl HX.out) hS ?_
      refine tna 4 (.slice (some ⟨g2, o2, none⟩) n cb) rfl hS ?_
      refine tna 5 (.int .i64 k) rfl hS ?_
      refine tkd 6 (.pointer (some ⟨g2, o2 + k * 2, none⟩)) rfl (.inl ⟨by rfl, fun _ _ => ?_⟩) hS ?_
      · go_simp
      refine nrm ?_
      refine tnd 7 (.agg yc.toArray) rfl (yieldsIf_load_mid (by rfl) 50 (.tmp 23) rfl g2 (o2 + k * 2) rfl yc _ HSY.out adUnder rfl HY.out) hS ?_
      refine tnd 8 (.bool bq) rfl (yieldsIf_neq_agg (by rfl) 50 (.tmp 20) (.tmp 24) 50 rfl xc.toArray yc.toArray rfl rfl adGuard HNE.out) hS ?_
      refine wpAnyH_done (by kernel_rfl) ?_ _
      have HKE := Lib.hid (HSE.out _ hS)
      clear hS
      cases bq
      · have hxy : x = y := by have := HBQ.out; simpa using this
        have HTE : Hid (xs.take (k + 1) = ys.take (k + 1)) := Lib.hid (by rw [HTX.out, HTY.out, HT.out, hxy])
        clear hxy
        go_wp2_with fail
        go_roundw
        case rel => exact ⟨k + 1, by omega, by go_num, HTE, HKE⟩
        case measure => simp [intOf]; omega
      · have hxy : x ≠ y := by have := HBQ.out; simpa using this
        have hf : bb = false := by
          rw [← HE.out]
          refine decide_eq_false fun e => hxy ?_
          have h1 := HXE.out
          rw [e, HYE.out] at h1
          exact (Option.some.inj h1).symm
        subst hf
        clear hxy
        go_wp2_with fail
        go_ret
        exact ⟨rfl, HKE.out⟩
    · obtain rfl : k = n := by omega
      have hf : bb = true := by
        rw [← HE.out]
        have := HT.out
        rw [List.take_of_length_le (by rw [HN.out]; exact Nat.le_refl _), List.take_of_length_le (by rw [HM.out]; exact Nat.le_refl _)] at this
        exact decide_eq_true this
      subst hf
      go_wp2_with fail
      go_ret
      exact ⟨rfl, HK.out⟩
  · have hf : bb = false := by
      rw [← HE.out]
      refine decide_eq_false fun e => hnm ?_
      rw [← HN.out, ← HM.out, e]
    subst hf
    have hni : ¬ (n : Int) = (m : Int) := by omega
    go_enter Try.func13, Try.ntmps13
    go_wp2_with fail
    go_ret
    exact ⟨rfl, Keep.refl _ _⟩
end Go.Proofs.Ytfjklgbakhjjiaa
