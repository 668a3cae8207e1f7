/-
  Rows of addresses: the same, written over (where package addr is not in sight).
  Conditions: none.
-/
import Derived.Test.YtaiicjhnhbkgmaaGreatDoorKeyAddr
import Derived.Test.YtaiicjhnhbkgmaaGreatDoorFlat
namespace Go.Proofs.YtaiicjhnhbkgmaaGreatDoor
open Go.RowKit Go.Maps Go.ChangeMaps
set_option maxRecDepth 100000
set_option linter.unusedVariables false

/-- The cells of a row of addresses. -/
def adCells (ys : List Ad) : List Value := ys.flatMap adCs
theorem buildAd (a b : Int) (w : World) : (Instr.build 70 #[(0, .int .i64 a), (1, .int .i64 b)]).run Tryz.prog w = .ok (.agg #[.int .i64 a, .int .i64 b]) w := by kernel_rfl
def AdsOk (l : List Ad) : Prop := ∀ x ∈ l, AdOk x
theorem adCells_len (l : List Ad) : (adCells l).length = l.length * 2 := flat_len adCs_len l
theorem adCells_at {l : List Ad} {k : Nat} {x : Ad} (h : l[k]? = some x) {j : Nat} (hj : j < 2) : (adCells l)[k * 2 + j]? = (adCs x)[j]? := by
  unfold adCells
  rw [flat_get adCs_len (by decide), show (k * 2 + j) / 2 = k by omega, show (k * 2 + j) % 2 = j by omega, h, Option.bind_some]
theorem rd_ad {w : World} {v : Value} {l : List Ad} (h : Rd w 2 v l.length (adCells l)) {k : Nat} {x : Ad} (hk : l[k]? = some x) :
    ∃ g o cap, v = .slice (some ⟨g, o, none⟩) l.length cap ∧ w.rangeAt g (o + k * 2) (adCs x) := by
  obtain ⟨h0, a, cap, rfl, h1, h2, h3, h4⟩ := h
  have hlt := (List.getElem?_eq_some_iff.1 hk).1
  obtain ⟨g, o, rfl, hc⟩ := h4 (by rw [adCells_len]; omega)
  refine ⟨g, o, cap, rfl, fun j u hj => ?_⟩
  have hj2 : j < 2 := (List.getElem?_eq_some_iff.1 hj).1
  have := hc (k * 2 + j) u (by rw [adCells_at hk hj2]; exact hj)
  rwa [← Nat.add_assoc] at this
theorem adCells_append (a b : List Ad) : adCells (a ++ b) = adCells a ++ adCells b := by simp [adCells]
theorem adCells_one (x : Ad) : adCells [x] = adCs x := by simp [adCells]
theorem oneCell_ads (l : List Ad) : ∀ u ∈ adCells l, u.oneCell' = true := by
  intro u hu
  obtain ⟨x, _, hx⟩ := List.mem_flatMap.1 hu
  exact oneCell_ad x u hx

theorem yieldsIf_neq_agg {P : Program} {ops : Array Oper} {S : World → Prop} {op : Oper} {a : Act} (hw : Region.wanted op (yielded ops a.tmps) = true) (t : TypeId) (x y : Operand) (rt : TypeId) (ho : op.op = .binOp .neq t x y rt)
    (xs ys : Array Value) (hx : a.eval x = .agg xs) (hy : a.eval y = .agg ys) (hg : P.eqGuardType P.depth t = false) {b : Bool} (h : ∀ w, (binOp .neq t (.agg xs) (.agg ys)).run P w = .ok (.bool b) w) : YieldsIf P ops S op (.bool b) a :=
  .inl ⟨hw, fun w _ => by
    unfold execOp
    simp only [ho, hx, hy, Sem.run_bind, Sem.run_pure, Result.andThen_ok, run_eqGuard_agg w .neq t x y xs ys hg, h w]⟩
theorem adGuard : Tryz.prog.eqGuardType Tryz.prog.depth 70 = false := by kernel_rfl
theorem adStood : Tryz.prog.stoodInHeld 70 = false := by kernel_rfl
theorem eqAd (a b : Ad) (w : World) : Sem.run Tryz.prog (binOp .eql 70 (.agg (adCs a).toArray) (.agg (adCs b).toArray)) w = .ok (.bool (decide (a = b))) w := by
  have e : decide (a = b) = (decide (a.dev = b.dev) && decide (a.sec = b.sec)) := by rw [Bool.eq_iff_iff]; simp [Ad.ext_iff]
  rw [e, run_eql_struct, run_equalIn_agg w 9999 70 _ _ adUnder adStood, eqFields_eqT, adFields]
  have hi : ∀ x y : Int, (Op.equalIn 9999 3 (.int .i64 x) (.int .i64 y)).run Tryz.prog w = .ok (x == y) w := fun x y => run_equalIn_int w 9998 3 .i64 .i64 x y Tryz.underlying3
  have hd : ∀ x y : Int, (x == y) = decide (x = y) := fun x y => by rw [Bool.eq_iff_iff]; simp
  have a0 : (adCs a).toArray[0]? = some (.int .i64 a.dev) := rfl
  have a1 : (adCs a).toArray[1]? = some (.int .i64 a.sec) := rfl
  have b0 : (adCs b).toArray[0]? = some (.int .i64 b.dev) := rfl
  have b1 : (adCs b).toArray[1]? = some (.int .i64 b.sec) := rfl
  simp only [eqT, ne_eq, String.reduceEq, not_false_eq_true, if_true, Sem.run_bind, Sem.run_ite, Sem.run_pure, Result.andThen_ok, part_int _ 0 _ a0, part_int _ 0 _ b0, part_int _ 1 _ a1, part_int _ 1 _ b1, hi, hd]
  cases decide (a.dev = b.dev) <;> cases decide (a.sec = b.sec) <;> rfl
theorem neqAd (a b : Ad) (w : World) : Sem.run Tryz.prog (binOp .neq 70 (.agg (adCs a).toArray) (.agg (adCs b).toArray)) w = .ok (.bool (!decide (a = b))) w := neq_of_eql (eqAd a b w)

set_option maxHeartbeats 2000000 in
theorem sameAd_any (w : World) (va vb' : Value) (xs ys : List Ad) (hx : Rd w 2 va xs.length (adCells xs)) (hy : Rd w 2 vb' ys.length (adCells ys)) (bb : Bool) (he : decide (xs = ys) = bb) :
    Calls Tryz.prog 100 #[va, vb'] w fun e w' => e = .returned (.bool bb) ∧ Keep noBlk w w' := by
  obtain ⟨oa, ca, rfl, hla, hma⟩ := hx.form
  obtain ⟨ob, cb, rfl, hlb, hmb⟩ := hy.form
  have hmx : xs.length ≤ maxLen := by omega
  unfold maxLen at hmx
  have HE := Lib.hid he; have HRX := Lib.hid hx; have HRY := Lib.hid hy
  obtain ⟨n, hn⟩ : ∃ n, xs.length = n := ⟨_, rfl⟩
  obtain ⟨m, hm⟩ : ∃ m, ys.length = m := ⟨_, rfl⟩
  have HN := Lib.hid hn; have HM := Lib.hid hm
  rw [hn] at HRX hmx
  rw [hm] at HRY
  rw [hn, hm]
  clear hx hy he hla hma hlb hmb hn hm
  by_cases hnm : n = m
  · subst hnm
    go_enter Tryz.func100, Tryz.ntmps100
    go_wp2_with fail
    go_loopw [5] (fun i wr => ∃ k : Nat, k ≤ n ∧ i = .int .i64 k ∧ Hid (xs.take k = ys.take k) ∧ Hid (Keep noBlk w wr)) (fun i _ => n - (intOf i).toNat)
    case atStart => exact ⟨0, Nat.zero_le _, rfl, Lib.hid rfl, Lib.hid (Keep.refl _ _)⟩
    case round =>
    obtain ⟨k, hk, rfl, HT, HK⟩ := hrel
    by_cases hlt : k < n
    · obtain ⟨x, hx⟩ : ∃ x, xs[k]? = some x := ⟨xs[k]'(by rw [HN.out]; exact hlt), List.getElem?_eq_getElem _⟩
      obtain ⟨y, hy⟩ : ∃ y, ys[k]? = some y := ⟨ys[k]'(by rw [HM.out]; exact hlt), List.getElem?_eq_getElem _⟩
      obtain ⟨S, hS0⟩ : ∃ S : World → Prop, S = fun w' => Keep noBlk w w' := ⟨_, rfl⟩
      have hra := HRX.out
      have hrb := HRY.out
      rw [← HN.out] at hra
      rw [← HM.out] at hrb
      obtain ⟨g, o, cap, hv, -⟩ := rd_ad hra hx
      obtain ⟨g2, o2, cap2, hv2, -⟩ := rd_ad hrb hy
      have e1 : oa = some ⟨g, o, none⟩ := by cases hv; rfl
      have e2 : ob = some ⟨g2, o2, none⟩ := by cases hv2; rfl
      subst e1 e2
      obtain ⟨xc, hxc⟩ : ∃ xc, adCs x = xc := ⟨_, rfl⟩
      obtain ⟨yc, hyc⟩ : ∃ yc, adCs y = yc := ⟨_, rfl⟩
      have HSX := Lib.hid (show ∀ w', S w' → w'.rangeAt g (o + k * 2) xc from fun w' h => by
        rw [hS0] at h
        obtain ⟨g', o', c', hv', hr'⟩ := rd_ad (hra.keep h fun _ _ => id) hx
        cases hv'
        rw [← hxc]; exact hr')
      have HSY := Lib.hid (show ∀ w', S w' → w'.rangeAt g2 (o2 + k * 2) yc from fun w' h => by
        rw [hS0] at h
        obtain ⟨g', o', c', hv', hr'⟩ := rd_ad (hrb.keep h fun _ _ => id) hy
        cases hv'
        rw [← hyc]; exact hr')
      have HX : Hid ((Tryz.prog.info? 70).map (·.size) = some xc.length) := Lib.hid (by rw [← hxc]; exact sizeAd)
      have HY : Hid ((Tryz.prog.info? 70).map (·.size) = some yc.length) := Lib.hid (by rw [← hyc]; exact sizeAd)
      obtain ⟨bq, hbq⟩ : ∃ bq, (!decide (x = y)) = bq := ⟨_, rfl⟩
      have HNE : Hid (∀ w', Sem.run Tryz.prog (binOp .neq 70 (.agg xc.toArray) (.agg yc.toArray)) w' = .ok (.bool bq) w') := Lib.hid (fun w' => by rw [← hxc, ← hyc, ← hbq]; exact neqAd x y w')
      have HBQ := Lib.hid hbq
      have HSE := Lib.hid (show ∀ w', S w' → Keep noBlk w w' from fun w' h => by rw [hS0] at h; exact h)
      have hS : S wr.drew := by rw [hS0]; exact HK.out.drew
      have HTX : Hid (xs.take (k + 1) = xs.take k ++ [x]) := Lib.hid (by rw [List.take_add_one, hx]; rfl)
      have HTY : Hid (ys.take (k + 1) = ys.take k ++ [y]) := Lib.hid (by rw [List.take_add_one, hy]; rfl)
      have HXE := Lib.hid hx; have HYE := Lib.hid hy
      have hki : (k : Int) < (n : Int) := by omega
      have hk0 : (0 : Int) ≤ (k : Int) := by omega
      clear hx hy hS0 hra hrb hv hv2 hxc hyc hbq HK
      go_wp2_with fail
      refine wp_region_held (S := S) (by kernel_rfl) ?_
      change wpAnyH _ _ _ _ _ _ _ _ wr.drew
      generalize wr.drew = w6 at *
      refine tka 0 (.slice (some ⟨g, o, none⟩) n ca) rfl hS ?_
      simp only [Act.put, List.setIfInBounds_toArray, List.set_cons_zero, List.set_cons_succ, List.getElem_toArray, List.getElem_cons_zero]
      refine tka 1 (.int .i64 k) rfl hS ?_
      simp only [Act.put, List.setIfInBounds_toArray, List.set_cons_zero, List.set_cons_succ, List.getElem_toArray, List.getElem_cons_succ, List.getElem_cons_zero]
      refine tkd 2 (.pointer (some ⟨g, o + k * 2, none⟩)) rfl (.inl ⟨by rfl, fun _ _ => ?_⟩) hS ?_
      · go_simp
      simp only [Act.put, List.setIfInBounds_toArray, List.set_cons_zero, List.set_cons_succ, List.getElem_toArray, List.getElem_cons_succ, List.getElem_cons_zero]
      refine tkd 3 (.agg xc.toArray) rfl (yieldsIf_load_mid (by rfl) 70 (.tmp 19) rfl g (o + k * 2) rfl xc _ HSX.out adUnder rfl HX.out) hS ?_
      simp only [Act.put, List.setIfInBounds_toArray, List.set_cons_zero, List.set_cons_succ, List.getElem_toArray, List.getElem_cons_succ, List.getElem_cons_zero]
      refine tka 4 (.slice (some ⟨g2, o2, none⟩) n cb) rfl hS ?_
      simp only [Act.put, List.setIfInBounds_toArray, List.set_cons_zero, List.set_cons_succ, List.getElem_toArray, List.getElem_cons_succ, List.getElem_cons_zero]
      refine tka 5 (.int .i64 k) rfl hS ?_
      simp only [Act.put, List.setIfInBounds_toArray, List.set_cons_zero, List.set_cons_succ, List.getElem_toArray, List.getElem_cons_succ, List.getElem_cons_zero]
      refine tkd 6 (.pointer (some ⟨g2, o2 + k * 2, none⟩)) rfl (.inl ⟨by rfl, fun _ _ => ?_⟩) hS ?_
      · go_simp
      simp only [Act.put, List.setIfInBounds_toArray, List.set_cons_zero, List.set_cons_succ, List.getElem_toArray, List.getElem_cons_succ, List.getElem_cons_zero]
      refine tkd 7 (.agg yc.toArray) rfl (yieldsIf_load_mid (by rfl) 70 (.tmp 23) rfl g2 (o2 + k * 2) rfl yc _ HSY.out adUnder rfl HY.out) hS ?_
      simp only [Act.put, List.setIfInBounds_toArray, List.set_cons_zero, List.set_cons_succ, List.getElem_toArray, List.getElem_cons_succ, List.getElem_cons_zero]
      refine tkd 8 (.bool bq) rfl (yieldsIf_neq_agg (by rfl) 70 (.tmp 20) (.tmp 24) 70 rfl xc.toArray yc.toArray rfl rfl adGuard HNE.out) hS ?_
      simp only [Act.put, List.setIfInBounds_toArray, List.set_cons_zero, List.set_cons_succ, List.getElem_toArray, List.getElem_cons_succ, List.getElem_cons_zero]
      refine wpAnyH_done (by kernel_rfl) ?_ _
      have HKE := Lib.hid (HSE.out _ hS)
      clear hS
      cases bq
      · have hxy : x = y := by have := HBQ.out; simpa using this
        have HTE : Hid (xs.take (k + 1) = ys.take (k + 1)) := Lib.hid (by rw [HTX.out, HTY.out, HT.out, hxy])
        clear hxy
        go_wp2_with fail
        go_roundw
        case rel => exact ⟨k + 1, by omega, by go_num, HTE, HKE⟩
        case measure => simp [intOf]; omega
      · have hxy : x ≠ y := by have := HBQ.out; simpa using this
        have hf : bb = false := by
          rw [← HE.out]
          refine decide_eq_false fun e => hxy ?_
          have h1 := HXE.out
          rw [e, HYE.out] at h1
          exact (Option.some.inj h1).symm
        subst hf
        clear hxy
        go_wp2_with fail
        go_ret
        exact ⟨rfl, HKE.out⟩
    · obtain rfl : k = n := by omega
      have hf : bb = true := by
        rw [← HE.out]
        have := HT.out
        rw [List.take_of_length_le (by rw [HN.out]; exact Nat.le_refl _), List.take_of_length_le (by rw [HM.out]; exact Nat.le_refl _)] at this
        exact decide_eq_true this
      subst hf
      go_wp2_with fail
      go_ret
      exact ⟨rfl, HK.out⟩
  · have hf : bb = false := by
      rw [← HE.out]
      refine decide_eq_false fun e => hnm ?_
      rw [← HN.out, ← HM.out, e]
    subst hf
    have hni : ¬ (n : Int) = (m : Int) := by omega
    go_enter Tryz.func100, Tryz.ntmps100
    go_wp2_with fail
    go_ret
    exact ⟨rfl, Keep.refl _ _⟩
def OverI (n : Nat) (oa : Option Addr) (w : World) : Prop := 0 < n → ∃ g cur, oa = some ⟨g, 0, none⟩ ∧ w.heap[g]? = some (.cells cur 70 (0, 0)) ∧ n * 2 ≤ cur.size
theorem owns_open {w : World} {base n c : Nat} {a : Option Addr} {xs : List Value} (h : w.ownsRow base 70 2 (.slice a n c) n xs) (hn : 0 < n) : ∃ g cur, a = some ⟨g, 0, none⟩ ∧ w.heap[g]? = some (.cells cur 70 (0, 0)) ∧ n * 2 ≤ cur.size := by
  rcases h.2 with ⟨h1, -⟩ | ⟨g, cap, cur, h1, -, hh, h3, h4, h5, -⟩
  · cases h1; omega
  · injection h1 with h1 _ h2
    refine ⟨g, cur, h1, hh, ?_⟩
    rw [h5]
    exact Nat.mul_le_mul_right 2 h3
set_option maxHeartbeats 4000000 in
theorem overAd_any (w : World) (base n : Nat) (v : Value) (xs : List Value) (ho : w.ownsRow base 70 2 v n xs) : Calls Tryz.prog 38 #[v] w fun e w' => e = .returned (.tuple #[]) ∧ Keep (fun j => v.ownBlock = some j) w w' := by
  have hr := Rd.of_owns ho
  obtain ⟨oa, ca, rfl, hcn, hcm⟩ := hr.form
  unfold maxLen at hcm
  have hn63 : n ≤ 9223372036854775807 := by omega
  have HO := Lib.hid ho
  have HZ := Lib.hid (fun (h : 0 < n) => owns_open ho h)
  clear ho hr hcn hcm
  go_enter Tryz.func38, Tryz.ntmps38
  go_wp2_with fail
  go_loopw [2] (fun i wr => ∃ k : Nat, k ≤ n ∧ i = .int .i64 k ∧ Hid (OverI n oa wr) ∧ Hid (Keep (fun j => (Value.slice oa n ca).ownBlock = some j) w wr)) (fun i _ => n - (intOf i).toNat)
  case atStart => exact ⟨0, Nat.zero_le _, rfl, Lib.hid HZ.out, Lib.hid (Keep.refl _ _)⟩
  case round =>
  obtain ⟨k, hk, rfl, HI, HKR⟩ := hrel
  by_cases hlt : k < n
  · obtain ⟨g, cur, rfl, hb, hsz⟩ := HI.out (by omega)
    have HB := Lib.hid hb
    have hki : (k : Int) < (n : Int) := by omega
    have hk0 : (0 : Int) ≤ (k : Int) := by omega
    have hfit : k * 2 + 2 ≤ cur.size := by omega
    have hbd := buildAd (-7) (-7)
    clear hb
    go_wp2_with (first
      | ((with_reducible show wpList _ _ _ (⟨none, .store 70 (.tmp 12) (.tmp 11), _, _, _, _⟩ :: _) _ _); refine wpList_store_agg rfl 70 (.tmp 12) (.tmp 11) rfl g (k * 2) (adCs ⟨-7, -7⟩) rfl rfl cur 70 HB.out hfit sizeAd (oneCell_ad _) ?_
         intro w3 hb3 hk3
         have HI3 : Hid (OverI n (some ⟨g, 0, none⟩) w3) := Lib.hid (fun _ => ⟨g, _, rfl, hb3, by rw [spl_size]; exact hsz⟩)
         have HK3 := Lib.hid (HKR.out.trans' hk3 (U := fun j => (Value.slice (some ⟨g, 0, none⟩) n ca).ownBlock = some j) (fun _ _ h => h) (fun i hi e => by rw [e]; rfl))
         clear hb3 hk3))
    go_roundw
    case rel => exact ⟨k + 1, by omega, by go_num, HI3, HK3⟩
    case measure => simp [intOf]; omega
  · obtain rfl : k = n := by omega
    go_wp2_with fail
    go_end0
    exact ⟨rfl, HKR.out⟩
end Go.Proofs.YtaiicjhnhbkgmaaGreatDoor
