/-
  AllocRoom: just as often as Room says can be taken.
  Conditions: none but those of the given statement.
-/
import Derived.Test.YtfjklgbakhjjiaaRoomL
import Derived.Test.YtfjklgbakhjjiaaLawA
import Derived.Test.YtfjklgbakhjjiaaPickA
namespace Go.Proofs.Ytfjklgbakhjjiaa
open Go.RowKit Go.Maps Go.ChangeMaps
set_option maxRecDepth 100000
set_option linter.unusedVariables false

set_option maxHeartbeats 32000000 in
theorem allocRoom_walk (w : World) (dv : Int) (hdv : In64 dv) (sc : Int) (hsc : In64 sc) (vm : Value) (mk : List Int) (hI : ∀ x ∈ mk, In64 x) (hrm : Rd w 1 vm mk.length (mk.map fun x => .int .i64 x)) (vt : Value) (th : List Bool) (hrt : Rd w 1 vt th.length (th.map Value.bool)) (co : Int) (hco : In64 co) :
    Calls Try.prog 6 #[.int .i64 dv, .int .i64 sc, vm, vt, .int .i64 co] w (TherePost w true) := by
  have CW := Lib.hid (fun w => (awakeA_any w).mono fun e w' (h : TherePost w true e w') => (show e = .returned (.bool true) ∧ Keep noBlk w w' from h))
  obtain ⟨ma, mc, rfl, -, -⟩ := hrm.form
  obtain ⟨ta, tc, rfl, -, -⟩ := hrt.form
  have hml : mk.length ≤ maxLen := by obtain ⟨_, a', c', h1, h2, h3, -⟩ := hrm; omega
  have htl : th.length ≤ maxLen := by obtain ⟨_, a', c', h1, h2, h3, -⟩ := hrt; omega
  unfold maxLen at hml htl
  obtain ⟨n, hn⟩ : ∃ n, mk.length = n := ⟨_, rfl⟩
  obtain ⟨q, hq⟩ : ∃ n, th.length = n := ⟨_, rfl⟩
  have HN := Lib.hid hn; have HQ := Lib.hid hq; have HRM := Lib.hid hrm; have HRT := Lib.hid hrt; have HIM := Lib.hid hI
  rw [hn] at HRM hml ⊢
  rw [hq] at HRT htl ⊢
  obtain ⟨D, hD⟩ : ∃ D : Nat, 2 + dv % 7 = (D : Int) := ⟨(2 + dv % 7).toNat, by omega⟩
  obtain ⟨Z, hZ⟩ : ∃ Z : Nat, 8 + sc % 33 = (Z : Int) := ⟨(8 + sc % 33).toNat, by omega⟩
  obtain ⟨cp, hcp⟩ : ∃ c : Nat, 1 + co % 3 = (c : Int) := ⟨(1 + co % 3).toNat, by omega⟩
  have hbd : 2 ≤ D ∧ D ≤ 8 ∧ 8 ≤ Z ∧ Z ≤ 4096 := by omega
  have hZ41 : Z ≤ 40 := by omega
  have hc3 : 1 ≤ cp ∧ cp ≤ 3 := by omega
  obtain ⟨p1, hp1⟩ : ∃ p, dv % 7 = p := ⟨_, rfl⟩
  obtain ⟨p2, hp2⟩ : ∃ p, sc % 33 = p := ⟨_, rfl⟩
  obtain ⟨p3, hp3⟩ : ∃ p, co % 3 = p := ⟨_, rfl⟩
  have HP1 := Lib.hid (fun w => pick_any w dv 7 (by omega) (by omega) hdv.1 hdv.2)
  have HP2 := Lib.hid (fun w => pick_any w sc 33 (by omega) (by omega) hsc.1 hsc.2)
  have HP3 := Lib.hid (fun w => pick_any w co 3 (by omega) (by omega) hco.1 hco.2)
  rw [hp1] at HP1 hD
  rw [hp2] at HP2 hZ
  rw [hp3] at HP3 hcp
  have hw1 : IntKind.i64.wrap (D : Int) = (D : Int) := by rw [IntWalk.i64_in _ (by omega)]
  have hw2 : IntKind.i64.wrap (Z : Int) = (Z : Int) := by rw [IntWalk.i64_in _ (by omega)]
  have hw3 : IntKind.i64.wrap (cp : Int) = (cp : Int) := by rw [IntWalk.i64_in _ (by omega)]
  have HK := Lib.hid (Keep.refl noBlk w)
  clear hrm hrt hn hq hI hdv hsc hco hp1 hp2 hp3
  by_cases h100 : 100 < n
  · have hi : (100 : Int) < (n : Int) := by omega
    go_enter Try.func6, Try.ntmps6
    go_wp2_with fail
    refine (CW.out _).mono ?_
    rintro e wq41 ⟨rfl, hk⟩
    have HK := Lib.hid (HK.out.trans hk)
    have HRM := Lib.hid (HRM.out.keep hk fun _ _ => id)
    have HRT := Lib.hid (HRT.out.keep hk fun _ _ => id)
    clear hk
    go_wp2_with fail
    refine (HP1.out _).mono ?_
    rintro e wp1 ⟨rfl, hwp⟩
    subst hwp
    go_wp2_with fail
    refine (HP2.out _).mono ?_
    rintro e wp2 ⟨rfl, hwp⟩
    subst hwp
    go_wp2_with fail
    refine (HP3.out _).mono ?_
    rintro e wp3 ⟨rfl, hwp⟩
    subst hwp
    go_wp2_with fail
    go_ret
    exact ⟨rfl, HK.out⟩
  · have hi : ¬ (100 : Int) < (n : Int) := by omega
    have hn100 : n ≤ 100 := by omega
    go_enter Try.func6, Try.ntmps6
    go_wp2_with fail
    refine (CW.out _).mono ?_
    rintro e wq41 ⟨rfl, hk⟩
    have HK := Lib.hid (HK.out.trans hk)
    have HRM := Lib.hid (HRM.out.keep hk fun _ _ => id)
    have HRT := Lib.hid (HRT.out.keep hk fun _ _ => id)
    clear hk
    go_wp2_with fail
    refine (HP1.out _).mono ?_
    rintro e wp1 ⟨rfl, hwp⟩
    subst hwp
    go_wp2_with fail
    refine (HP2.out _).mono ?_
    rintro e wp2 ⟨rfl, hwp⟩
    subst hwp
    go_wp2_with fail
    refine (HP3.out _).mono ?_
    rintro e wp3 ⟨rfl, hwp⟩
    subst hwp
    go_wp2_with fail
    clear hw1 hw2 hw3 HP1 HP2 HP3
    obtain ⟨w1, hwe⟩ : ∃ w1, wq41 = w1 := ⟨_, rfl⟩
    rw [hwe] at HK HRM HRT ⊢
    clear hwe
    obtain ⟨y, hy⟩ : ∃ y : Nat, (Z : Int) - 5 = (y : Int) := ⟨Z - 5, by omega⟩
    have hyb : 3 ≤ y ∧ y ≤ 35 ∧ y + 5 = Z := by omega
    obtain ⟨r, hr⟩ : ∃ r : Nat, D * y = r := ⟨_, rfl⟩
    have hrb : 1 ≤ r ∧ r ≤ 280 := by
      constructor
      · rw [← hr]; exact Nat.mul_pos (by omega) (by omega)
      · rw [← hr]; exact Nat.le_trans (Nat.mul_le_mul hbd.2.1 hyb.2.1) (by decide)
    have hri : (D : Int) * (y : Int) = (r : Int) := by rw [← hr]; exact (Int.natCast_mul D y).symm
    have hwy : IntKind.i64.wrap (y : Int) = (y : Int) := by rw [IntWalk.i64_in _ (by omega)]
    have hwr : IntKind.i64.wrap (r : Int) = (r : Int) := by rw [IntWalk.i64_in _ (by omega)]
    have HRE := Lib.hid hr
    clear hr hD hZ hcp
    go_loopw [12, 13] (fun t i wr => ∃ (k : Nat) (u : List Ad) (pa : Option Addr) (pc : Nat), k ≤ n ∧ t = .slice pa k pc ∧ i = .int .i64 k ∧ Hid (u.length = k) ∧ Hid (∀ x ∈ u, mayB x (D : Int) (Z : Int) = true) ∧ Hid (AdsOk u) ∧ Hid (wr.ownsRow w1.heap.size 50 2 (.slice pa k pc) k (adCells u)) ∧ Hid (Keep noBlk w1 wr)) (fun _ i _ => n - (intOf i).toNat)
    case atStart => exact ⟨0, [], none, 0, Nat.zero_le _, rfl, rfl, Lib.hid rfl, Lib.hid (fun x h => by cases h), Lib.hid (fun x h => by cases h), Lib.hid (World.ownsRow_nil _ _ _ _), Lib.hid (Keep.refl _ _)⟩
    case round =>
    obtain ⟨k, u, pa, pc, hk, rfl, rfl, HUL, HUM, HUO, HO, HKL⟩ := hrel
    by_cases hlt : k < n
    · have hki : (k : Int) < (n : Int) := by omega
      have hk0 : (0 : Int) ≤ (k : Int) := by omega
      obtain ⟨s0, hs0⟩ : ∃ x, mk[k]? = some x := ⟨mk[k]'(by rw [HN.out]; exact hlt), List.getElem?_eq_getElem _⟩
      have hr2 := HRM.out.keep HKL.out fun _ _ => id
      rw [← HN.out] at hr2
      obtain ⟨pd, od, capd, hvd, hcd⟩ := rd_int hr2 hs0
      rw [HN.out] at hvd
      have e1 : ma = some ⟨pd, od, none⟩ := by cases hvd; rfl
      subst e1
      have hin := HIM.out s0 (List.mem_of_getElem? hs0)
      obtain ⟨m, hm⟩ : ∃ m : Nat, s0 % (r : Int) = (m : Int) := ⟨(s0 % (r : Int)).toNat, by have := Int.emod_nonneg s0 (show (r : Int) ≠ 0 by omega); omega⟩
      have hmr : m < r := by have := Int.emod_lt_of_pos s0 (show (0 : Int) < (r : Int) by omega); omega
      have HPK := pick_any wr s0 (r : Int) (by omega) (by omega) hin.1 hin.2
      rw [hm] at HPK
      have HPK := Lib.hid HPK
      obtain ⟨e, he⟩ : ∃ e, m % D = e := ⟨_, rfl⟩
      obtain ⟨f, hf⟩ : ∃ f, m / D = f := ⟨_, rfl⟩
      have heD : e < D := by rw [← he]; exact Nat.mod_lt _ (by omega)
      have hfy : f < y := by
        rw [← hf]
        refine Nat.div_lt_of_lt_mul ?_
        rw [HRE.out]
        exact hmr
      have i1 : (m : Int).tmod (D : Int) = (e : Int) := by rw [Int.tmod_eq_emod_of_nonneg (by omega), ← he]; first | exact (Int.natCast_emod m D).symm | rfl
      have i2 : (m : Int) % (D : Int) = (e : Int) := by rw [← he]; first | exact (Int.natCast_emod m D).symm | rfl
      have i3 : (m : Int).tdiv (D : Int) = (f : Int) := by rw [Int.tdiv_eq_ediv_of_nonneg (by omega), ← hf]; first | exact (Int.natCast_ediv m D).symm | rfl
      have i4 : (m : Int) / (D : Int) = (f : Int) := by rw [← hf]; first | exact (Int.natCast_ediv m D).symm | rfl
      have hDne : (D : Int) ≠ 0 := by omega
      have hDn : ¬ D = 0 := by omega
      obtain ⟨s, hs⟩ : ∃ s : Nat, 5 + f = s := ⟨_, rfl⟩
      have i5 : 5 + (f : Int) = (s : Int) := by omega
      have hsb : 5 ≤ s ∧ s < Z := by omega
      have j1 : IntKind.i64.wrap (e : Int) = (e : Int) := by rw [IntWalk.i64_in _ (by omega)]
      have j2 : IntKind.i64.wrap (f : Int) = (f : Int) := by rw [IntWalk.i64_in _ (by omega)]
      have j3 : IntKind.i64.wrap (s : Int) = (s : Int) := by rw [IntWalk.i64_in _ (by omega)]
      have HMY : Hid (mayB ⟨(e : Int), (s : Int)⟩ (D : Int) (Z : Int) = true) := Lib.hid (mayB_of hbd heD hsb.1 hsb.2)
      have HAO : Hid (AdOk ⟨(e : Int), (s : Int)⟩) := Lib.hid ⟨⟨by show (-9223372036854775808 : Int) ≤ (e : Int); omega, by show (e : Int) ≤ 9223372036854775807; omega⟩, by show (-9223372036854775808 : Int) ≤ (s : Int); omega, by show (s : Int) ≤ 9223372036854775807; omega⟩
      have hbe := buildAd (e : Int) (s : Int)
      clear hr2 hvd hs0 hin hm he hf hs
      go_wp2_with fail
      refine HPK.out.mono ?_
      rintro e5 w5 ⟨rfl, hwp⟩
      subst hwp
      clear HPK
      go_wp2_with fail
      have hod := ((Keep.refl noBlk wr).drew).owns HO.out (fun _ _ => id)
      obtain ⟨S, hS0⟩ : ∃ S : World → Prop, S = fun w' => Keep noBlk w1 w' := ⟨_, rfl⟩
      have HSE := Lib.hid (show ∀ w', S w' → Keep noBlk w1 w' from fun w' h => by rw [hS0] at h; exact h)
      have HSI := Lib.hid (show ∀ w', Keep noBlk w1 w' → S w' from fun w' h => by rw [hS0]; exact h)
      have hS : S wr.drew := by rw [hS0]; exact HKL.out.drew
      clear hS0
      refine wp_region_held (S := S) (by kernel_rfl) ?_
      change wpAnyH _ _ _ _ _ _ _ _ wr.drew
      generalize wr.drew = wq42 at hS ⊢ hod
      refine wpAnyH_take (i := 0) (v := .slice pa k pc) rfl (by kernel_rfl) (by kernel_rfl) (by kernel_rfl) (fun _ _ _ h => h) (.inl ⟨by rfl, fun _ _ => rfl⟩) hS ?_
      simp only [Act.put, List.setIfInBounds_toArray, List.set_cons_zero, List.set_cons_succ, List.getElem_toArray, List.getElem_cons_zero]
      refine wpAnyH_take (i := 1) (v := .int .i64 (m : Int)) rfl (by kernel_rfl) (by kernel_rfl) (by kernel_rfl) (fun _ _ _ h => h) (.inl ⟨by rfl, fun _ _ => rfl⟩) hS ?_
      simp only [Act.put, List.setIfInBounds_toArray, List.set_cons_zero, List.set_cons_succ, List.getElem_toArray, List.getElem_cons_succ, List.getElem_cons_zero]
      refine wpAnyH_take (i := 2) (v := .int .i64 (D : Int)) rfl (by kernel_rfl) (by kernel_rfl) (by kernel_rfl) (fun _ _ _ h => h) (.inl ⟨by rfl, fun _ _ => rfl⟩) hS ?_
      simp only [Act.put, List.setIfInBounds_toArray, List.set_cons_zero, List.set_cons_succ, List.getElem_toArray, List.getElem_cons_succ, List.getElem_cons_zero]
      refine wpAnyH_take (i := 3) (v := .int .i64 (e : Int)) rfl (by kernel_rfl) (by kernel_rfl) (by kernel_rfl) (fun _ _ _ h => h) (.inl ⟨by rfl, fun _ _ => by go_simp⟩) hS ?_
      simp only [Act.put, List.setIfInBounds_toArray, List.set_cons_zero, List.set_cons_succ, List.getElem_toArray, List.getElem_cons_succ, List.getElem_cons_zero]
      refine wpAnyH_take (i := 4) (v := .int .i64 (m : Int)) rfl (by kernel_rfl) (by kernel_rfl) (by kernel_rfl) (fun _ _ _ h => h) (.inl ⟨by rfl, fun _ _ => rfl⟩) hS ?_
      simp only [Act.put, List.setIfInBounds_toArray, List.set_cons_zero, List.set_cons_succ, List.getElem_toArray, List.getElem_cons_succ, List.getElem_cons_zero]
      refine wpAnyH_take (i := 5) (v := .int .i64 (D : Int)) rfl (by kernel_rfl) (by kernel_rfl) (by kernel_rfl) (fun _ _ _ h => h) (.inl ⟨by rfl, fun _ _ => rfl⟩) hS ?_
      simp only [Act.put, List.setIfInBounds_toArray, List.set_cons_zero, List.set_cons_succ, List.getElem_toArray, List.getElem_cons_succ, List.getElem_cons_zero]
      refine wpAnyH_take (i := 6) (v := .int .i64 (f : Int)) rfl (by kernel_rfl) (by kernel_rfl) (by kernel_rfl) (fun _ _ _ h => h) (.inl ⟨by rfl, fun _ _ => by go_simp⟩) hS ?_
      simp only [Act.put, List.setIfInBounds_toArray, List.set_cons_zero, List.set_cons_succ, List.getElem_toArray, List.getElem_cons_succ, List.getElem_cons_zero]
      refine wpAnyH_take (i := 7) (v := .int .i64 (s : Int)) rfl (by kernel_rfl) (by kernel_rfl) (by kernel_rfl) (fun _ _ _ h => h) (.inl ⟨by rfl, fun _ _ => by go_simp⟩) hS ?_
      simp only [Act.put, List.setIfInBounds_toArray, List.set_cons_zero, List.set_cons_succ, List.getElem_toArray, List.getElem_cons_succ, List.getElem_cons_zero]
      refine wpAnyH_take (i := 8) (v := .agg (adCs ⟨(e : Int), (s : Int)⟩).toArray) rfl (by kernel_rfl) (by kernel_rfl) (by kernel_rfl) (fun _ _ _ h => h) (.inl ⟨by rfl, fun w' hw' => by have hb := hbe w'; go_simp; rfl⟩) hS ?_
      simp only [Act.put, List.setIfInBounds_toArray, List.set_cons_zero, List.set_cons_succ, List.getElem_toArray, List.getElem_cons_succ, List.getElem_cons_zero]
      refine wpAnyH_one (k := 9) rfl (by kernel_rfl) ?_
      refine wpList_build_one rfl 22 50 (.tmp 68) rfl Try.underlying22 infoAd (by decide) (adCs ⟨(e : Int), (s : Int)⟩) rfl (by decide) rfl ?_
      obtain ⟨wq43, hw8, hk, hb8, hs8⟩ := alloc_facts wq42 (adCs ⟨(e : Int), (s : Int)⟩).toArray 50
      obtain ⟨bx, hbx⟩ : ∃ b, wq42.heap.size = b := ⟨_, rfl⟩
      rw [hbx] at hb8
      have HR8 : Hid (Rd wq43 2 (.slice (some ⟨bx, 0, none⟩) 1 1) 1 (adCs ⟨(e : Int), (s : Int)⟩)) := Lib.hid (rd_blk (n := 1) (size := 2) (vs := (adCs ⟨(e : Int), (s : Int)⟩)) hb8 rfl (by unfold maxLen; omega))
      have HO8 := Lib.hid (hk.owns hod fun _ _ => id)
      rw [hw8, hbx]
      clear hb8 hs8 hod hw8 hbx
      have hS1 := HSI.out _ ((HSE.out _ hS).trans hk)
      clear hS hk
      go_wp2_with fail
      refine ⟨hS1, ?_⟩
      refine wpAnyH_one (k := 10) rfl (by kernel_rfl) ?_
      have hsz8 : w1.heap.size ≤ wq43.heap.size := (HSE.out _ hS1).size
      refine wpList_append_rd rfl (.tmp 60) (.tmp 69) 22 rfl w1.heap.size 50 zeroAd 2 16 Try.underlying22 infoAd rfl (by decide) (.slice pa k pc) k (adCells u) rfl HO8.out (.slice (some ⟨bx, 0, none⟩) 1 1) 1 (adCs ⟨(e : Int), (s : Int)⟩) rfl HR8.out (oneCell_ad _) (by unfold maxLen; omega) (by omega) hsz8 ?_
      intro v' wq44 ho5 hk5 hn5 hb5
      obtain ⟨va, vc, rfl, -, -⟩ := (Rd.of_owns ho5).form
      have HO5 : Hid (wq44.ownsRow w1.heap.size 50 2 (.slice va (k + 1) vc) (k + 1) (adCells (u ++ [⟨(e : Int), (s : Int)⟩]))) := Lib.hid (by rw [adCells_append, adCells_one]; exact ho5)
      have hk2 := (HSE.out _ hS1).trans' hk5 (U := noBlk) (fun _ _ h => h) (fun i hi e => by have := owns_base HO8.out e; omega)
      clear ho5 hk5 hn5 hb5 hsz8
      have hS2 := HSI.out _ hk2
      clear hS1 hk2
      go_wp2_with fail
      refine ⟨hS2, ?_⟩
      refine wpAnyH_take (i := 11) (v := .slice va (k + 1) vc) rfl (by kernel_rfl) (by kernel_rfl) (by kernel_rfl) (fun _ _ _ h => h) (.inl ⟨by rfl, fun _ _ => rfl⟩) hS2 ?_
      simp only [Act.put, List.setIfInBounds_toArray, List.set_cons_zero, List.set_cons_succ, List.getElem_toArray, List.getElem_cons_succ, List.getElem_cons_zero]
      refine wpAnyH_done (by kernel_rfl) ?_ _
      have HK5 := Lib.hid (HSE.out _ hS2)
      clear hS2 HSE HSI
      go_wp2_with fail
      go_roundw
      case rel => exact ⟨k + 1, u ++ [⟨(e : Int), (s : Int)⟩], va, vc, by omega, rfl, by go_num, Lib.hid (by rw [List.length_append, HUL.out]; rfl), Lib.hid (fun x hx => (List.mem_append.1 hx).elim (HUM.out x) (fun h => by rw [List.mem_singleton.1 h]; exact HMY.out)), Lib.hid (fun x hx => (List.mem_append.1 hx).elim (HUO.out x) (fun h => by rw [List.mem_singleton.1 h]; exact HAO.out)), HO5, HK5⟩
      case measure => simp [intOf]; omega
    · obtain rfl : n = k := by omega
      have HRU := Lib.hid (Rd.of_owns HO.out)
      have HUB0 : Hid (∀ i, (Value.slice pa n pc).ownBlock = some i → i < wr.heap.size) := Lib.hid (fun i hi => (HO.out.lt i hi).2)
      have HRT := Lib.hid (HRT.out.keep HKL.out fun _ _ => id); have HK := Lib.hid (HK.out.trans HKL.out)
      obtain ⟨w2, hwe⟩ : ∃ w2, wr = w2 := ⟨_, rfl⟩
      rw [hwe] at HRU HRT HK HUB0 ⊢
      clear hwe HKL HO HRM
      go_wp2_with fail
      go_loopw [15, 16] (fun t i wr => ∃ (k : Nat) (ws : List Bool) (pa : Option Addr) (pc : Nat), k ≤ D ∧ t = .slice pa k pc ∧ i = .int .i64 k ∧ Hid (ws.length = k) ∧ Hid (wr.ownsRow w2.heap.size 4 1 (.slice pa k pc) k (ws.map Value.bool)) ∧ Hid (Keep noBlk w2 wr)) (fun _ i _ => D - (intOf i).toNat)
      case atStart => exact ⟨0, [], none, 0, Nat.zero_le _, rfl, rfl, Lib.hid rfl, Lib.hid (World.ownsRow_nil _ _ _ _), Lib.hid (Keep.refl _ _)⟩
      case round =>
      obtain ⟨k, ws, qa, qc, hk2, rfl, rfl, HWL, HOW, HKL⟩ := hrel
      by_cases hlt : k < D
      · have hki : (k : Int) < (D : Int) := by omega
        have hk0 : (0 : Int) ≤ (k : Int) := by omega
        by_cases hkq : k < q
        · have hkqi : ¬ (q : Int) ≤ (k : Int) := by omega
          have d1 : decide ((q : Int) ≤ (k : Int)) = false := decide_eq_false hkqi
          have hkq2 : (k : Int) < (q : Int) := by omega
          obtain ⟨bt, hbt⟩ : ∃ x, th[k]? = some x := ⟨th[k]'(by rw [HQ.out]; exact hkq), List.getElem?_eq_getElem _⟩
          have hr2 := HRT.out.keep HKL.out fun _ _ => id
          rw [← HQ.out] at hr2
          obtain ⟨pd, od, capd, hvd, hcd⟩ := rd_bool hr2 hbt
          rw [HQ.out] at hvd
          have e1 : ta = some ⟨pd, od, none⟩ := by cases hvd; rfl
          subst e1
          clear hr2 hvd hbt
          obtain ⟨w8, hw8, hk8, hb8, hs8⟩ := alloc_facts wr #[.bool bt] 4
          have HR8 : Hid (Rd w8 1 (.slice (some ⟨wr.heap.size, 0, none⟩) 1 1) 1 [.bool bt]) := Lib.hid (rd_blk (n := 1) (size := 1) (vs := [.bool bt]) hb8 rfl (by unfold maxLen; omega))
          have HO8 := Lib.hid (hk8.owns HOW.out fun _ _ => id); have HK8 := Lib.hid (HKL.out.trans hk8)
          have hsz8 : w2.heap.size ≤ w8.heap.size := HK8.out.size
          have hone : ∀ u ∈ [Value.bool bt], u.oneCell' = true := by simp [Value.oneCell']
          clear hk8 hb8 hs8
          go_wp2_with (first
            | (at_builtin; try rw [hw8]
               refine wpList_append_rd rfl (.tmp 76) (.tmp 87) 39 rfl w2.heap.size 4 (.bool false) 1 1 Try.underlying39 infoBool rfl (by decide) (.slice qa k qc) k (ws.map Value.bool) rfl HO8.out (.slice (some ⟨wr.heap.size, 0, none⟩) 1 1) 1 [.bool bt] rfl HR8.out hone (by unfold maxLen; omega) (by omega) hsz8 ?_
               intro v' w9 ho5 hk5 hn5 hb5
               obtain ⟨va, vc, rfl, -, -⟩ := (Rd.of_owns ho5).form
               have HO5 : Hid (w9.ownsRow w2.heap.size 4 1 (.slice va (k + 1) vc) (k + 1) ((ws ++ [bt]).map Value.bool)) := Lib.hid (by rw [List.map_append]; exact ho5)
               have HK5 := Lib.hid (HK8.out.trans' hk5 (U := noBlk) (fun _ _ h => h) (fun i hi e => by have := owns_base HO8.out e; omega))
               clear ho5 hk5 hn5 hb5 hw8))
          go_roundw
          case rel => exact ⟨k + 1, ws ++ [bt], va, vc, by omega, rfl, by go_num, Lib.hid (by rw [List.length_append, HWL.out]; rfl), HO5, HK5⟩
          case measure => simp [intOf]; omega
        · have hkqi : (q : Int) ≤ (k : Int) := by omega
          have d1 : decide ((q : Int) ≤ (k : Int)) = true := decide_eq_true hkqi
          obtain ⟨w8, hw8, hk8, hb8, hs8⟩ := alloc_facts wr #[.bool true] 4
          have HR8 : Hid (Rd w8 1 (.slice (some ⟨wr.heap.size, 0, none⟩) 1 1) 1 [.bool true]) := Lib.hid (rd_blk (n := 1) (size := 1) (vs := [.bool true]) hb8 rfl (by unfold maxLen; omega))
          have HO8 := Lib.hid (hk8.owns HOW.out fun _ _ => id); have HK8 := Lib.hid (HKL.out.trans hk8)
          have hsz8 : w2.heap.size ≤ w8.heap.size := HK8.out.size
          have hone : ∀ u ∈ [Value.bool true], u.oneCell' = true := by simp [Value.oneCell']
          clear hk8 hb8 hs8
          go_wp2_with (first
            | (at_builtin; try rw [hw8]
               refine wpList_append_rd rfl (.tmp 76) (.tmp 87) 39 rfl w2.heap.size 4 (.bool false) 1 1 Try.underlying39 infoBool rfl (by decide) (.slice qa k qc) k (ws.map Value.bool) rfl HO8.out (.slice (some ⟨wr.heap.size, 0, none⟩) 1 1) 1 [.bool true] rfl HR8.out hone (by unfold maxLen; omega) (by omega) hsz8 ?_
               intro v' w9 ho5 hk5 hn5 hb5
               obtain ⟨va, vc, rfl, -, -⟩ := (Rd.of_owns ho5).form
               have HO5 : Hid (w9.ownsRow w2.heap.size 4 1 (.slice va (k + 1) vc) (k + 1) ((ws ++ [true]).map Value.bool)) := Lib.hid (by rw [List.map_append]; exact ho5)
               have HK5 := Lib.hid (HK8.out.trans' hk5 (U := noBlk) (fun _ _ h => h) (fun i hi e => by have := owns_base HO8.out e; omega))
               clear ho5 hk5 hn5 hb5 hw8))
          go_roundw
          case rel => exact ⟨k + 1, ws ++ [true], va, vc, by omega, rfl, by go_num, Lib.hid (by rw [List.length_append, HWL.out]; rfl), HO5, HK5⟩
          case measure => simp [intOf]; omega
      · obtain rfl : D = k := by omega
        have HRW := Lib.hid (Rd.of_owns HOW.out)
        have HRU := Lib.hid (HRU.out.keep HKL.out fun _ _ => id); have HK := Lib.hid (HK.out.trans HKL.out)
        have HWB : Hid (∀ i, (Value.slice qa D qc).ownBlock = some i → i < wr.heap.size) := Lib.hid (fun i hi => (HOW.out.lt i hi).2)
        have HUB : Hid (∀ i, (Value.slice pa n pc).ownBlock = some i → i < wr.heap.size) := Lib.hid (fun i hi => Nat.lt_of_lt_of_le (HUB0.out i hi) HKL.out.size)
        have HNB : Hid (newB (D : Int) (Z : Int) u = true) := Lib.hid (by
          unfold newB
          simp only [Bool.and_eq_true, decide_eq_true_eq, List.all_eq_true]
          exact ⟨⟨⟨⟨by omega, by omega⟩, by omega⟩, by omega⟩, HUM.out⟩)
        obtain ⟨w3, hwe⟩ : ∃ w3, wr = w3 := ⟨_, rfl⟩
        rw [hwe] at HRW HRU HK HWB HUB ⊢
        clear hwe HKL HOW HUB0 HRT
        obtain ⟨lo, hloe⟩ : ∃ lo, w3.heap.size = lo := ⟨_, rfl⟩
        have hlo : w.heap.size ≤ lo := by rw [← hloe]; exact HK.out.size
        rw [hloe] at HWB HUB
        have HLOE := Lib.hid hloe
        obtain ⟨dz, hdz⟩ : ∃ x, D * Z = x := ⟨_, rfl⟩
        have hdzb : dz ≤ 320 := by rw [← hdz]; exact Nat.le_trans (Nat.mul_le_mul hbd.2.1 hZ41) (by decide)
        have hdzi : (D : Int) * (Z : Int) = (dz : Int) := by rw [← hdz]; exact (Int.natCast_mul D Z).symm
        have hwdz : IntKind.i64.wrap (dz : Int) = (dz : Int) := by rw [IntWalk.i64_in _ (by omega)]
        have HDZ := Lib.hid hdz
        clear hloe hdz
        go_wp2_with fail
        refine (new_any _ (D : Int) (Z : Int) _ u (by rw [HUL.out]; exact HRU.out)).mono ?_
        intro e4 w4 hpost
        unfold NewPost at hpost
        rw [HNB.out, if_pos rfl] at hpost
        obtain ⟨a, b, c, rfl, hld, hk4⟩ := hpost
        rw [Int.toNat_natCast, Int.toNat_natCast, HLOE.out] at hld
        have HLD := Lib.hid hld; have HK := Lib.hid (HK.out.trans hk4)
        have HRW := Lib.hid (HRW.out.keep hk4 fun _ _ => id); have HRU := Lib.hid (HRU.out.keep hk4 fun _ _ => id)
        clear hld hk4
        go_wp2_with fail
        refine (room_any _ lo a b D Z c u HLD.out _ ws (cp : Int) (by rw [HWL.out]; exact HRW.out)).mono ?_
        intro e5 w5 hpost
        unfold ManyPost at hpost
        rw [if_pos (check_of hbd HWL.out hc3.1 hc3.2)] at hpost
        obtain ⟨N, hN, rfl, hk5⟩ := hpost
        rw [Int.toNat_natCast] at hN
        have hNz : N ≤ dz := by
          have h1 := rooms_le hN (by omega)
          have h2 := sumN_free u D Z
          rw [HDZ.out] at h2
          omega
        have HRN := Lib.hid hN
        have HLD := Lib.hid (HLD.out.keep0 hk5); have HK := Lib.hid (HK.out.trans hk5)
        have HRW := Lib.hid (HRW.out.keep hk5 fun _ _ => id); have HRU := Lib.hid (HRU.out.keep hk5 fun _ _ => id)
        clear hN hk5
        have g1 : ¬ (N : Int) < 0 := by omega
        have g2 : ¬ (dz : Int) < (N : Int) := by omega
        have q1 : decide ((N : Int) < 0) = false := decide_eq_false g1
        have q2 : decide ((dz : Int) < (N : Int)) = false := decide_eq_false g2
        have q3 : decide (dz < N) = false := decide_eq_false (by omega)
        have hOW : Hid (∀ i, Own a b c D i → lo ≤ i ∧ i < w5.heap.size) := Lib.hid (fun i hi => HLD.out.own_lt hi)
        obtain ⟨B, hBe⟩ : ∃ B, w5.heap.size = B := ⟨_, rfl⟩
        have HBE := Lib.hid hBe
        rw [hBe] at hOW
        clear hBe
        go_wp2_with fail
        go_loopw [21, 22] (fun t i wr => ∃ (k tl : Nat) (T : List Ad) (ea : Option Addr) (ec : Nat), k ≤ N ∧ tl ≤ k * 8 ∧ t = .slice ea tl ec ∧ i = .int .i64 k ∧ Hid (T.length = tl) ∧ Hid (LedIs wr lo a b c D Z (u ++ T)) ∧ Hid (Rooms ws cp (freeN (u ++ T) D Z) (N - k)) ∧ Hid (Took u T D Z) ∧ Hid (wr.ownsRow B 50 2 (.slice ea tl ec) tl (adCells T)) ∧ Hid (Keep (Own a b c D) w5 wr) ∧ Hid (Rd wr 1 (.slice qa D qc) D (ws.map Value.bool)) ∧ Hid (Rd wr 2 (.slice pa n pc) n (adCells u))) (fun _ i _ => N - (intOf i).toNat)
        case atStart => exact ⟨0, 0, [], none, 0, Nat.zero_le _, Nat.zero_le _, rfl, rfl, Lib.hid rfl, Lib.hid (by rw [List.append_nil]; exact HLD.out), Lib.hid (by rw [List.append_nil]; exact HRN.out), Lib.hid ⟨List.nodup_nil, fun x h => (by cases h), fun x h => (by cases h)⟩, Lib.hid (World.ownsRow_nil _ _ _ _), Lib.hid (Keep.refl _ _), HRW, HRU⟩
        case round =>
        clear HRW HRU HLD
        obtain ⟨k, tl, T, ea, ec, hk, htl, rfl, rfl, HTL, HLD, HRO, HTK, HOT, HKO, HRW, HRU⟩ := hrel
        by_cases hlt : k < N
        · have hki : (k : Int) < (N : Int) := by omega
          have hk0 : (0 : Int) ≤ (k : Int) := by omega
          obtain ⟨l, hch, hro⟩ : ∃ l, chooseL (freeN (u ++ T) D Z) ws cp = some l ∧ Rooms ws cp (decL (freeN (u ++ T) D Z) l) (N - (k + 1)) := rooms_more (by rw [show N - (k + 1) + 1 = N - k by omega]; exact HRO.out)
          have HCH := Lib.hid hch
          have HR2 : Hid (Rooms ws cp (freeN ((u ++ T) ++ takenL (u ++ T) Z l) D Z) (N - (k + 1))) := Lib.hid (by rw [freeN_taken hch]; exact hro)
          have HTK2 := Lib.hid (HTK.out.next hbd hch)
          have hl8 : l.length ≤ 8 := by
            have hcs := choose_some hch
            have h1 : l.length ≤ (List.range D).length := List.Nodup.length_le_of_subset hcs.2.2.2.1 fun d hd => List.mem_range.2 (choose_head hch hd).1
            rw [List.length_range] at h1
            omega
          have HC := Lib.hid (take_any wr lo a b D Z c (u ++ T) HLD.out (.slice qa D qc) ws (cp : Int) (by rw [HWL.out]; exact HRW.out))
          obtain ⟨gl, hgl⟩ : ∃ x, l.length = x := ⟨_, rfl⟩
          have HGL := Lib.hid hgl
          rw [hgl] at hl8
          obtain ⟨gg, hgg⟩ : ∃ x, takenL (u ++ T) Z l = x := ⟨_, rfl⟩
          have HGG := Lib.hid hgg
          have HGLn : Hid (gg.length = gl) := Lib.hid (by rw [← hgg, takenL_len, hgl])
          rw [hgg] at HR2 HTK2
          have HLOW : Hid (∀ x ∈ gg, ∀ s : Nat, 5 ≤ s → (s : Int) < x.2 → inB ⟨x.1, (s : Int)⟩ D Z ((u ++ T) ++ gg) = true) := Lib.hid (fun x hx s h5 hs => by rw [← hgg] at hx ⊢; exact low_used hbd HCH.out hx h5 hs)
          have HNEW : Hid (∀ x ∈ gg, ∃ d t : Nat, x = ⟨(d : Int), (t : Int)⟩ ∧ d < D ∧ 5 ≤ t ∧ t < Z) := Lib.hid (fun x hx => by
            rw [← hgg] at hx
            exact mayB_nat (taken_new hbd HCH.out hx).1)
          clear hch hro hgl hgg
          go_wp2_with fail
          refine HC.out.mono ?_
          intro e6 w6 hpost
          unfold TakePost at hpost
          rw [if_pos (check_of hbd HWL.out hc3.1 hc3.2), Int.toNat_natCast, HCH.out] at hpost
          obtain ⟨v, rfl, h1, h2, h3⟩ := hpost
          rw [HGG.out] at h1 h2
          rw [HGL.out] at h2
          obtain ⟨ga, gc, rfl, -, -⟩ := (Rd.of_owns h2).form
          have HL6 := Lib.hid h1; have HG6 := Lib.hid (Rd.of_owns h2); have HK6 := Lib.hid (HKO.out.trans h3)
          have HOT6 := Lib.hid (h3.owns HOT.out (fun i hi ho => by have := owns_base HOT.out hi; have := (hOW.out i ho).2; omega))
          have HRW6 := Lib.hid (HRW.out.keep h3 (fun i hi ho => by have := HWB.out i hi; have := (hOW.out i ho).1; omega))
          have HRU6 := Lib.hid (HRU.out.keep h3 (fun i hi ho => by have := HUB.out i hi; have := (hOW.out i ho).1; omega))
          clear h1 h2 h3 HC HLD HRO HTK HOT HKO HRW HRU
          go_wp2_with fail
          go_loopw [25] (fun i wr => ∃ j : Nat, j ≤ gl ∧ i = .int .i64 j ∧ Hid (Keep noBlk w6 wr)) (fun i _ => gl - (intOf i).toNat)
          case atStart => exact ⟨0, Nat.zero_le _, rfl, Lib.hid (Keep.refl _ _)⟩
          case round =>
          obtain ⟨j, hj, rfl, HKJ⟩ := hrel
          by_cases hlj : j < gl
          · have hji : (j : Int) < (gl : Int) := by omega
            have hj0 : (0 : Int) ≤ (j : Int) := by omega
            have HGJ := Lib.hid (HG6.out.keep HKJ.out fun _ _ => id)
            obtain ⟨x, h_x⟩ : ∃ x, gg[j]? = some x := ⟨gg[j]'(by rw [HGLn.out]; exact hlj), List.getElem?_eq_getElem _⟩
            have h_r := HGJ.out
            rw [← HGLn.out] at h_r
            obtain ⟨gb, go, cap', h_v, h_at⟩ := rd_ad h_r h_x
            have e1 : ga = some ⟨gb, go, none⟩ := by cases h_v; rfl
            subst e1
            have HX := Lib.hid h_at; have HE := Lib.hid h_x
            clear h_x h_r h_v h_at
            have hxm := List.mem_of_getElem? HE.out
            obtain ⟨d, t, rfl, hdD, ht5, htZ⟩ := HNEW.out x hxm
            have HLX := Lib.hid (HLOW.out _ hxm)
            have HC0 : Hid (wr.cell? ⟨gb, go + j * 2, none⟩ = some (.int .i64 (d : Int))) := Lib.hid (HX.out 0 _ rfl)
            have HC1 : Hid (wr.cell? ⟨gb, go + j * 2 + 1, none⟩ = some (.int .i64 (t : Int))) := Lib.hid (HX.out 1 _ rfl)
            obtain ⟨wj, hwj⟩ : ∃ wj, wr = wj := ⟨_, rfl⟩
            rw [hwj] at HKJ HC0 HC1 ⊢
            clear hwj hxm HX HE HGJ
            go_wp2_with fail
            go_loopw [26] (fun i wr => ∃ s : Nat, 5 ≤ s ∧ s ≤ t ∧ i = .int .i64 s ∧ Hid (Keep noBlk wj wr)) (fun i _ => t - (intOf i).toNat)
            case atStart => exact ⟨5, Nat.le_refl _, ht5, rfl, Lib.hid (Keep.refl _ _)⟩
            case round =>
            obtain ⟨s, hs5, hst, rfl, HKS⟩ := hrel
            have hc1 := HKS.out.cell HC1.out id
            have hc0 := HKS.out.cell HC0.out id
            by_cases hls : s < t
            · have hsi : (s : Int) < (t : Int) := by omega
              have hbe := buildAd (d : Int) (s : Int)
              have HH := ledHas_any wr lo a b D Z c ((u ++ T) ++ gg) ((HL6.out.keep0 HKJ.out).keep0 HKS.out) ⟨(d : Int), (s : Int)⟩
              rw [HLX.out s hs5 hsi] at HH
              have HH := Lib.hid HH
              go_wp2_with fail
              refine HH.out.mono ?_
              rintro e7 w7 ⟨rfl, hk7⟩
              have HK7 := Lib.hid (HKS.out.trans hk7)
              clear hk7 HH hc0 hc1
              go_wp2_with fail
              go_roundw
              case rel => exact ⟨s + 1, by omega, by omega, by go_num, HK7⟩
              case measure => simp [intOf]; omega
            · obtain rfl : t = s := by omega
              have HK7 := Lib.hid (HKJ.out.trans HKS.out)
              go_wp2_with fail
              go_roundw
              case rel => exact ⟨j + 1, by omega, by go_num, HK7⟩
              case measure => simp [intOf]; omega
          · obtain rfl : gl = j := by omega
            have HL7 := Lib.hid (HL6.out.keep0 HKJ.out); have HG7 := Lib.hid (HG6.out.keep HKJ.out fun _ _ => id); have HOT7 := Lib.hid (HKJ.out.owns HOT6.out fun _ _ => id)
            have HK7 := Lib.hid (HK6.out.trans' HKJ.out (U := Own a b c D) (fun _ _ h => h) (fun _ _ h => h.elim))
            have HRW7 := Lib.hid (HRW6.out.keep HKJ.out fun _ _ => id); have HRU7 := Lib.hid (HRU6.out.keep HKJ.out fun _ _ => id)
            have hszB : B ≤ wr.heap.size := by have := HK7.out.size; have := HBE.out; omega
            have htb : tl ≤ 2560 := by omega
            clear HL6 HG6 HOT6 HK6 HRW6 HRU6 HKJ
            go_wp2_with (first
              | (at_builtin; refine wpList_append_rd rfl (.tmp 161) (.tmp 162) 22 rfl B 50 zeroAd 2 16 Try.underlying22 infoAd rfl (by decide) (.slice ea tl ec) tl (adCells T) rfl HOT7.out (.slice ga gl gc) gl (adCells gg) rfl HG7.out (oneCell_ads _) (by unfold maxLen; omega) (by omega) hszB ?_
                 intro v' w9 ho5 hk5 hn5 hb5
                 obtain ⟨va, vc, rfl, -, -⟩ := (Rd.of_owns ho5).form
                 have HO9 : Hid (w9.ownsRow B 50 2 (.slice va (tl + gl) vc) (tl + gl) (adCells (T ++ gg))) := Lib.hid (by rw [adCells_append]; exact ho5)
                 have hfar : ∀ i, (Value.slice ea tl ec).ownBlock = some i → B ≤ i := fun i hi => owns_base HOT7.out hi
                 have HL9 : Hid (LedIs w9 lo a b c D Z (u ++ (T ++ gg))) := Lib.hid (by rw [← List.append_assoc]; exact HL7.out.keep hk5 (fun i hi ho => by have := hfar i hi; have := (hOW.out i ho).2; omega))
                 have HK9 := Lib.hid (HK7.out.trans' hk5 (U := Own a b c D) (fun _ _ h => h) (fun i hi e => by have := hfar i e; have := HBE.out; omega))
                 have hloB : lo ≤ B := by have h1 := (hOW.out a (.inl rfl)); omega
                 have HRW9 := Lib.hid (HRW7.out.keep hk5 (fun i hi e => by have := hfar i e; have := HWB.out i hi; omega))
                 have HRU9 := Lib.hid (HRU7.out.keep hk5 (fun i hi e => by have := hfar i e; have := HUB.out i hi; omega))
                 clear ho5 hk5 hn5 hb5 hfar))
            have HR9 : Hid (Rooms ws cp (freeN (u ++ (T ++ gg)) D Z) (N - (k + 1))) := Lib.hid (by rw [← List.append_assoc]; exact HR2.out)
            go_roundw
            case rel => exact ⟨k + 1, tl + gl, T ++ gg, va, vc, by omega, by omega, rfl, by go_num, Lib.hid (by rw [List.length_append, HTL.out, HGLn.out]), HL9, HR9, HTK2, HO9, HK9, HRW9, HRU9⟩
            case measure => simp [intOf]; omega
        · obtain rfl : N = k := by omega
          have hno : chooseL (freeN (u ++ T) D Z) ws cp = none := rooms_none (by have h := HRO.out; rwa [Nat.sub_self] at h)
          have HNO := Lib.hid hno
          have HK := Lib.hid (HK.out.trans' HKO.out (U := noBlk) (fun _ _ h => h) (fun i hi ho => by have := (hOW.out i ho).1; omega))
          have hBr : B ≤ wr.heap.size := by have := HKO.out.size; have := HBE.out; omega
          have hbB : b < B := (hOW.out b (.inr (.inl rfl))).2
          have hlb : lo ≤ b := (hOW.out b (.inr (.inl rfl))).1
          clear hno HRO HKO
          go_wp2_with fail
          refine (take_any wr lo a b D Z c (u ++ T) HLD.out (.slice qa D qc) ws (cp : Int) (by rw [HWL.out]; exact HRW.out)).mono ?_
          intro e6 w6 hpost
          unfold TakePost at hpost
          rw [if_pos (check_of hbd HWL.out hc3.1 hc3.2), Int.toNat_natCast, HNO.out] at hpost
          obtain ⟨rfl, hk6⟩ := hpost
          have HLD := Lib.hid (HLD.out.keep0 hk6); have HK := Lib.hid (HK.out.trans hk6); have HOT := Lib.hid (hk6.owns HOT.out fun _ _ => id)
          have HRW := Lib.hid (HRW.out.keep hk6 fun _ _ => id); have HRU := Lib.hid (HRU.out.keep hk6 fun _ _ => id)
          clear hk6
          have HC := release_any w6 lo a b D Z c (u ++ T) HLD.out (.slice ea tl ec) T (by rw [HTL.out]; exact Rd.of_owns HOT.out) (fun i hi e => by have := owns_base HOT.out hi; omega)
          have HC := Lib.hid HC
          go_wp2_with fail
          refine HC.out.mono ?_
          intro e7 w7 hpost
          unfold TurnsPost at hpost
          rw [HTK.out.ok, if_pos rfl] at hpost
          obtain ⟨rfl, c2, h1, -, h3⟩ := hpost
          have HLD := Lib.hid (h1.congr HTK.out.back)
          have HK := Lib.hid (HK.out.trans' h3 (U := noBlk) (fun _ _ h => h) (fun i hi e => by omega))
          have HRW := Lib.hid (HRW.out.keep h3 (fun i hi e => by have := HWB.out i hi; omega)); have HRU := Lib.hid (HRU.out.keep h3 (fun i hi e => by have := HUB.out i hi; omega))
          clear h1 h3 HC HOT
          go_wp2_with fail
          refine (room_any _ lo a b D Z c2 u HLD.out _ ws (cp : Int) (by rw [HWL.out]; exact HRW.out)).mono ?_
          intro e8 w8 hpost
          unfold ManyPost at hpost
          rw [if_pos (check_of hbd HWL.out hc3.1 hc3.2)] at hpost
          obtain ⟨N2, hN2, rfl, hk8⟩ := hpost
          rw [Int.toNat_natCast] at hN2
          obtain rfl : N2 = N := hN2.unique HRN.out
          have HLD := Lib.hid (HLD.out.keep0 hk8); have HK := Lib.hid (HK.out.trans hk8); have HRU := Lib.hid (HRU.out.keep hk8 fun _ _ => id)
          clear hN2 hk8
          obtain ⟨C, hC⟩ : ∃ C, canon u = C := ⟨_, rfl⟩
          obtain ⟨nc, hnc⟩ : ∃ x, C.length = x := ⟨_, rfl⟩
          have HCE := Lib.hid hC; have HNC := Lib.hid hnc
          clear hC hnc
          go_wp2_with fail
          refine (told_of (ledUsed_any _ lo a b D Z c2 u HLD.out) ((usedAll_canon fun x hx => (mayB_in hbd).1 (HUM.out x hx)).trans HCE.out)).mono ?_
          rintro e9 w9 ⟨v, rfl, hov, hk9⟩
          rw [HNC.out] at hov
          obtain ⟨ua, uc, rfl, -, -⟩ := (Rd.of_owns hov).form
          have HUS := Lib.hid (Rd.of_owns hov); have HK := Lib.hid (HK.out.trans hk9); have HRU := Lib.hid (HRU.out.keep hk9 fun _ _ => id)
          clear hov hk9
          go_wp2_with fail
          refine (told_of (sort_any _ _ u HUO.out (by rw [HUL.out]; exact HRU.out) (by rw [HUL.out]; omega)) (show sortA (keysA (setOf u)) = C from HCE.out)).mono ?_
          rintro e10 w10 ⟨v, rfl, hov, hk10⟩
          rw [HNC.out] at hov
          obtain ⟨sa, sc', rfl, -, -⟩ := (Rd.of_owns hov).form
          have HSS := Lib.hid (Rd.of_owns hov); have HUS := Lib.hid (HUS.out.keep hk10 fun _ _ => id); have HK := Lib.hid (HK.out.trans hk10)
          clear hov hk10
          go_wp2_with fail
          refine (same_any _ _ _ C C (by rw [HNC.out]; exact HUS.out) (by rw [HNC.out]; exact HSS.out) true (decide_eq_true rfl)).mono ?_
          rintro e11 w11 ⟨rfl, hk11⟩
          have HKF := Lib.hid (HK.out.trans hk11)
          clear hk11
          go_wp2_with fail
          go_ret
          exact ⟨rfl, HKF.out⟩

end Go.Proofs.Ytfjklgbakhjjiaa
