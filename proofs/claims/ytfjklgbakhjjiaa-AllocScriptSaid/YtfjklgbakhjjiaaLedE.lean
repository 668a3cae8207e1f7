/-
  A ledger: New.
  Conditions: none but those told.
-/
import Derived.Test.YtfjklgbakhjjiaaLedB
import Derived.Test.YtfjklgbakhjjiaaKeyAddr
import Derived.Test.YtfjklgbakhjjiaaRSortAddr
namespace Go.Proofs.Ytfjklgbakhjjiaa
open Go.RowKit Go.Maps Go.ChangeMaps
set_option maxRecDepth 100000
set_option linter.unusedVariables false

def zeroDev : Value := .agg (Array.replicate 64 (.int .u64 0) ++ #[.chan none])
theorem infoDev : (Try.prog.info? 76).map (fun i => (i.zero, i.size, i.bytes)) = some (some zeroDev, 65, 520) := by kernel_rfl
theorem wpList_make_dev {w : World} {ops : Array Oper} {rest : List Oper} {o : Oper} {a : Act} {Q : Exit → Act → World → Prop} (hg : o.guard = none) (l c : Operand) (hop : o.op = Op.makeSlice 51 l c)
    (n : Nat) (hl : a.eval l = .int .i64 (n : Int)) (hc : a.eval c = .int .i64 (n : Int)) (b3 : n ≤ 8)
    (hK : ∀ w', WordsIs w' w.heap.size (fun _ => none) n [] → Keep noBlk w w' → wpList Try.prog ops Q rest (a.put o.dst (.slice (some ⟨w.heap.size, 0, none⟩) n n)) w') :
    wpList Try.prog ops Q (o :: rest) a w := by
  have h : (Try.prog.info? 76).map (fun i => (i.zero, i.size, i.bytes)) = some (some zeroDev, 65, 520) := infoDev
  obtain ⟨i, hi, hz⟩ := Option.map_eq_some_iff.1 h
  injection hz with hz0 hz1
  injection hz1 with hz1 hz2
  refine wpList_make_full w hg l c 51 hop w.heap.size 76 i zeroDev 65 Try.underlying51 hi hz0 hz1 .i64 .i64 n n n hl hc rfl rfl (by rw [hz2]; omega) (by unfold maxLen; omega) (Nat.le_refl _) ?_
  intro w' g1 g2
  have hk : Keep noBlk w w' := by have := Keep.of_grown g2; exact this.mono fun k _ h => by cases h
  rcases g1.2 with ⟨h1, -⟩ | ⟨g, cap, cur, h1, h2, h3, h4, h5, h6, h7⟩
  · cases h1
  · cases h1
    have hcur : cur = madeCells zeroDev.cells (n * 65) := by
      apply Array.toList_inj.1
      rw [← h7, List.take_of_length_le (by rw [Array.length_toList, h6]; exact Nat.le_refl _)]
    have hat : ∀ j, j < n * 65 → cur[j]? = some (zeroDev.cells[j % 65]!) := fun j hj => by
      rw [hcur]
      unfold madeCells
      rw [Array.getElem?_map, Array.getElem?_range, if_pos hj]
      show some (zeroDev.cells[j % zeroDev.cells.size]!) = _
      rw [show zeroDev.cells.size = 65 from by simp [zeroDev, Value.cells]]
    refine hK w' ⟨cur, h3, h6, fun d hd k hk => ⟨0#64, ?_, fun j hj => ?_⟩, fun d hd => ?_⟩ hk
    · rw [hat _ (by omega), show (d * 65 + k) % 65 = k by omega]
      have e : zeroDev.cells[k]! = .int .u64 0 := by
        show (Array.replicate 64 (Value.int .u64 0) ++ #[Value.chan none])[k]! = _
        rw [getElem!_pos _ _ (by simp; omega), Array.getElem_append_left (by simpa using hk), Array.getElem_replicate]
      rw [e]
      rfl
    · simp [usedB]
    · rw [hat _ (by omega), show (d * 65 + 64) % 65 = 64 by omega]
      rfl
def newB (D S : Int) (u : List Ad) : Bool := decide (2 ≤ D) && decide (D ≤ 8) && decide (8 ≤ S) && decide (S ≤ 4096) && u.all fun x => mayB x D S
/-- What New answers. -/
def NewPost (w : World) (D S : Int) (u : List Ad) (e : Ending) (w' : World) : Prop :=
  if newB D S u then ∃ a b c, e = .returned (.tuple #[.pointer (some ⟨a, 0, none⟩), .int .i64 0]) ∧ LedIs w' w.heap.size a b c D.toNat S.toNat u ∧ Keep noBlk w w'
  else e = .returned (.tuple #[.pointer none, .int .i64 2]) ∧ Keep noBlk w w'

set_option maxHeartbeats 32000000 in
theorem new_any (w : World) (D S : Int) (v : Value) (l : List Ad) (hr : Rd w 2 v l.length (adCells l)) : Calls Try.prog 11 #[.int .i64 D, .int .i64 S, v] w (NewPost w D S l) := by
  obtain ⟨bb, hbb⟩ : ∃ b, newB D S l = b := ⟨_, rfl⟩
  have HBB := Lib.hid hbb
  have HPB : Hid (bb = false → ∀ w', Keep noBlk w w' → ∀ e, e = .returned (.tuple #[.pointer none, .int .i64 2]) → NewPost w D S l e w') := Lib.hid (fun h w' k e he => by unfold NewPost; rw [hbb, h, if_neg (by decide)]; exact ⟨he, k⟩)
  have HPG : Hid (bb = true → ∀ w' a b c, LedIs w' w.heap.size a b c D.toNat S.toNat l → Keep noBlk w w' → ∀ e, e = .returned (.tuple #[.pointer (some ⟨a, 0, none⟩), .int .i64 0]) → NewPost w D S l e w') := Lib.hid (fun h w' a b c hl k e he => by unfold NewPost; rw [hbb, h, if_pos rfl]; exact ⟨a, b, c, he, hl, k⟩)
  have HK0 := Lib.hid (Keep.refl noBlk w)
  clear hbb
  obtain ⟨oa, ca, rfl, -, hmm⟩ := hr.form
  have hmx_n : l.length ≤ maxLen := by have h := hr.2; obtain ⟨a', cap', h1, h2, h3, -⟩ := h; omega
  unfold maxLen at hmx_n
  clear hmm
  have HR := Lib.hid hr
  obtain ⟨n, hn_n⟩ : ∃ n, l.length = n := ⟨_, rfl⟩
  have HN := Lib.hid hn_n
  rw [hn_n] at HR hmx_n
  try rw [hn_n]
  clear hr hn_n
  by_cases h1 : 2 ≤ D
  · by_cases h2 : D ≤ 8
    · by_cases h3 : 8 ≤ S
      · by_cases h4 : S ≤ 4096
        · obtain ⟨d, rfl⟩ : ∃ d : Nat, D = (d : Int) := ⟨D.toNat, by omega⟩
          obtain ⟨z, rfl⟩ : ∃ z : Nat, S = (z : Int) := ⟨S.toNat, by omega⟩
          have hbd : 2 ≤ d ∧ d ≤ 8 ∧ 8 ≤ z ∧ z ≤ 4096 := by omega
          have hall : bb = l.all fun x => mayB x (d : Int) (z : Int) := by
            rw [← HBB.out]
            unfold newB
            rw [decide_eq_true h1, decide_eq_true h2, decide_eq_true h3, decide_eq_true h4]
            rfl
          have HALL := Lib.hid hall
          have i1 : ¬ (d : Int) < 2 := by omega
          have i2 : ¬ 8 < (d : Int) := by omega
          have i3 : ¬ (z : Int) < 8 := by omega
          have i4 : ¬ 4096 < (z : Int) := by omega
          have d1 : decide ((d : Int) < 2) = false := decide_eq_false i1
          have d2 : decide (8 < (d : Int)) = false := decide_eq_false i2
          have d3 : decide ((z : Int) < 8) = false := decide_eq_false i3
          have d4 : decide (4096 < (z : Int)) = false := decide_eq_false i4
          clear hall
          go_enter Try.func11, Try.ntmps11
          go_wp2_with (first
            | ((with_reducible show wpList _ _ _ (⟨_, .makeSlice _ _ _, _, _, _, _⟩ :: _) _ _); refine wpList_make_dev rfl (.tmp 26) (.tmp 26) rfl d rfl rfl (by omega) ?_
               intro w1 hw1 hk1
               obtain ⟨w2, hw2, hk2, hb2, hs2⟩ := alloc_facts w1 #[.int .i64 (z : Int), .slice (some ⟨w.heap.size, 0, none⟩) d d] 53
               have HW1 := Lib.hid (hw1.keep hk2 id); have HT1 : Hid (TopIs w2 w1.heap.size (z : Int) (some ⟨w.heap.size, 0, none⟩) d) := Lib.hid hb2
               have HK1 := Lib.hid (hk1.trans hk2)
               have hbl := hw1.lt
               clear hw1 hk1 hk2 hb2 hs2))
          clear hw2
          obtain ⟨B, hB⟩ : ∃ B, w.heap.size = B := ⟨_, rfl⟩
          obtain ⟨A, hA⟩ : ∃ A, w1.heap.size = A := ⟨_, rfl⟩
          have HBE := Lib.hid hB
          rw [hB, hA] at HT1 hbl
          rw [hB] at HW1 ⊢
          try rw [hA]
          have hAB : A ≠ B := by omega
          clear hB hA
          go_loopw [32] (fun i wr => ∃ k : Nat, k ≤ n ∧ i = .int .i64 k ∧ Hid (WordsIs wr B (fun _ => none) d (l.take k)) ∧ Hid (TopIs wr A (z : Int) (some ⟨B, 0, none⟩) d) ∧ Hid (Keep noBlk w wr) ∧ Hid (((l.take k).all fun x => mayB x (d : Int) (z : Int)) = true)) (fun i _ => n - (intOf i).toNat)
          case atStart => exact ⟨0, Nat.zero_le _, rfl, HW1, HT1, HK1, Lib.hid (by simp)⟩
          case round =>
          clear HW1 HT1 HK1
          obtain ⟨k, hk, rfl, HW, HT, HK, HA⟩ := hrel
          by_cases hlt : k < n
          · have hki : (k : Int) < (n : Int) := by omega
            have hk0 : (0 : Int) ≤ (k : Int) := by omega
            have HRW := Lib.hid (HR.out.keep HK.out fun _ _ => id)
            have hbw : B < wr.heap.size := HW.out.lt
            obtain ⟨x, h_x⟩ : ∃ x, l[k]? = some x := ⟨l[k]'(by rw [HN.out]; exact hlt), List.getElem?_eq_getElem _⟩
            have h_r := HRW.out
            rw [← HN.out] at h_r
            obtain ⟨gl, ol, cap', h_v, h_at⟩ := rd_ad h_r h_x
            have e1 : oa = some ⟨gl, ol, none⟩ := by cases h_v; rfl
            subst e1
            have HX := Lib.hid h_at; have HE := Lib.hid h_x
            clear h_x h_r h_v h_at
            go_wp2_with (first
              | ((with_reducible show wpList _ _ _ (⟨_, .load 50 (.tmp 34), _, _, _, _⟩ :: _) _ _); refine wpList_load_mid rfl 50 (.tmp 34) rfl gl (ol + k * 2) rfl (adCs x) _ HX.out adUnder rfl sizeAd ?_)
              | ((with_reducible show wpList _ _ _ (⟨some 10, .alloc 50, _, _, _, _⟩ :: _) _ _); refine wpList_alloc_at rfl 50 rfl zeroAd zeroAddr #[.int .i64 0, .int .i64 0] rfl ?_)
              | ((with_reducible show wpList _ _ _ (⟨none, .store 50 (.tmp 10) (.tmp 35), _, _, _, _⟩ :: _) _ _); refine wpList_store_agg rfl 50 (.tmp 10) (.tmp 35) rfl wr.heap.size 0 (adCs x) rfl rfl #[.int .i64 0, .int .i64 0] 50 (heap_alloc_new _ _) (Nat.le_refl _) sizeAd (oneCell_ad _) ?_
                 intro w3 hb3 hk3
                 rw [spl_whole _ _ (by rfl)] at hb3
                 have hk4 : Keep noBlk wr w3 := ((Keep.refl noBlk wr).alloc _).trans' hk3 (fun _ _ h => h) (fun i hi e => by omega)
                 have HB3 := Lib.hid hb3; have HK4 := Lib.hid hk4
                 clear hb3 hk3 hk4)
              | ((with_reducible show wpList _ _ _ (⟨_, .load 50 (.tmp 10), _, _, _, _⟩ :: _) _ _); refine wpList_load_mid rfl 50 (.tmp 10) rfl wr.heap.size 0 rfl (adCs x) _ (rangeAt_whole HB3.out) adUnder rfl sizeAd ?_))
            have HK3 := Lib.hid (HK.out.trans HK4.out)
            have HW3 := Lib.hid (HW.out.keep HK4.out id); have HT3 := Lib.hid (HT.out.keep HK4.out id)
            obtain ⟨X, hX⟩ : ∃ X, wr.heap.size = X := ⟨_, rfl⟩
            rw [hX] at HB3 hbw ⊢
            have hwX : w.heap.size ≤ X := by rw [← hX]; exact HK.out.size
            clear hX HX HK4 HW HT HK
            have HP := place_any w3 A d (z : Int) _ HT3.out x
            obtain ⟨mb, hmb⟩ : ∃ m, mayB x (d : Int) (z : Int) = m := ⟨_, rfl⟩
            rw [hmb] at HP
            have HMB := Lib.hid hmb
            have HP := Lib.hid HP
            clear hmb
            refine HP.out.mono ?_
            rintro e w4 ⟨rfl, hk4⟩
            have HK4 := Lib.hid (HK3.out.trans hk4); have HW4 := Lib.hid (HW3.out.keep hk4 id); have HT4 := Lib.hid (HT3.out.keep hk4 id); have HB4 := Lib.hid (hk4.blk HB3.out id)
            clear hk4 HK3 HW3 HT3 HB3 HP
            cases mb
            · have hbf : bb = false := by
                rw [HALL.out, List.all_eq_false]
                exact ⟨x, List.mem_of_getElem? HE.out, by rw [HMB.out]; decide⟩
              go_wp2_with fail
              go_ret2
              exact HPB.out hbf _ HK4.out _ rfl
            · obtain ⟨e, s, rfl, hd, h5, hs⟩ := mayB_nat HMB.out
              have HA2 : Hid (((l.take (k + 1)).all fun x => mayB x (d : Int) (z : Int)) = true) := Lib.hid (by rw [List.take_add_one, HE.out, List.all_append, HA.out]; simpa using HMB.out)
              have HU := Lib.hid (fun wx (kk : Keep noBlk w4 wx) => dhas_any wx B d (fun _ => none) (l.take k) (HW4.out.keep kk id) e s hd (by omega))
              obtain ⟨ub, hub⟩ : ∃ u, usedB (l.take k) e s = u := ⟨_, rfl⟩
              rw [hub] at HU
              have HUB := Lib.hid hub
              have hc1 := HT4.out.c1
              have hx0 : w4.cell? ⟨X, 0, none⟩ = some (.int .i64 (e : Int)) := blk_cell HB4.out rfl
              have hx1 : w4.cell? ⟨X, 1, none⟩ = some (.int .i64 (s : Int)) := blk_cell HB4.out rfl
              have hdi : (e : Int) < (d : Int) := by omega
              have hd0 : (0 : Int) ≤ (e : Int) := by omega
              clear hub
              go_wp2_with fail
              obtain ⟨S, hS0⟩ : ∃ S : World → Prop, S = fun w' => Keep noBlk w4 w' := ⟨_, rfl⟩
              have HSE := Lib.hid (show ∀ w', S w' → Keep noBlk w4 w' from fun w' h => by rw [hS0] at h; exact h)
              have HSI := Lib.hid (show ∀ w', Keep noBlk w4 w' → S w' from fun w' h => by rw [hS0]; exact h)
              have hS : S w4.drew := by rw [hS0]; exact (Keep.refl _ _).drew
              clear hS0
              refine wp_region_held (S := S) (by kernel_rfl) ?_
              change wpAnyH _ _ _ _ _ _ _ _ w4.drew
              generalize w4.drew = wq41 at hS ⊢
              refine tka 0 (.pointer (some ⟨A, 0, none⟩)) rfl hS ?_
              simp only [Act.put, List.setIfInBounds_toArray, List.set_cons_zero, List.set_cons_succ, List.getElem_toArray, List.getElem_cons_zero]
              refine tnb 1 (.pointer (some ⟨A, 0, none⟩)) rfl hS ?_
              refine tnb 2 (.pointer (some ⟨A, 1, none⟩)) rfl hS ?_
              refine tnd 3 (.slice (some ⟨B, 0, none⟩) d d) rfl (.inl ⟨by rfl, fun w' hw' => by have c := (HSE.out w' hw').cell hc1 id; go_simp⟩) hS ?_
              refine tnb 4 (.pointer (some ⟨X, 0, none⟩)) rfl hS ?_
              refine tnd 5 (.int .i64 (e : Int)) rfl (.inl ⟨by rfl, fun w' hw' => by have c := (HSE.out w' hw').cell hx0 id; go_simp⟩) hS ?_
              refine tnb 6 (.pointer (some ⟨B, e * 65, none⟩)) rfl hS ?_
              refine tnb 7 (.pointer (some ⟨X, 1, none⟩)) rfl hS ?_
              refine tnd 8 (.int .i64 (s : Int)) rfl (.inl ⟨by rfl, fun w' hw' => by have c := (HSE.out w' hw').cell hx1 id; go_simp⟩) hS ?_
              refine wpAnyH_one (k := 9) rfl (by kernel_rfl) ?_
              go_wp2_with fail
              refine (HU.out _ (HSE.out _ hS)).mono ?_
              rintro e wq42 ⟨rfl, rfl⟩
              have hk := Keep.refl noBlk wq41
              have hS1 := HSI.out _ ((HSE.out _ hS).trans hk)
              clear hS hk
              go_wp2_with fail
              refine ⟨hS1, ?_⟩
              cases ub
              · refine tnb 10 (.bool true) rfl hS1 ?_
                refine tna 11 (.bool true) rfl hS1 ?_
                refine wpAnyH_done (by kernel_rfl) ?_ _
                have HKR := Lib.hid (HSE.out _ hS1)
                clear hS1 HSE HSI
                have HK5 := Lib.hid (HK4.out.trans HKR.out); have HW5 := Lib.hid (HW4.out.keep HKR.out id); have HT5 := Lib.hid (HT4.out.keep HKR.out id)
                have hc1 := HKR.out.cell hc1 id
                have hx0 := HKR.out.cell hx0 id
                have hx1 := HKR.out.cell hx1 id
                clear HKR HU HK4 HW4 HT4 HB4
                go_wp2_with fail
                have HC := Lib.hid (fun wx (kk : Keep noBlk wq41 wx) => dturn_any wx B d (fun _ => none) (l.take k) (l.take k ++ [⟨(e : Int), (s : Int)⟩]) (HW5.out.keep kk id) e s hd (by omega) (fun e' t _ _ => by
                  rw [usedB_snoc]
                  by_cases h1 : e' = e ∧ t = s
                  · obtain ⟨rfl, rfl⟩ := h1
                    rw [HUB.out]; simp
                  · have : (decide (e' = e) && decide (t = s)) = false := by
                      rw [Bool.and_eq_false_iff, decide_eq_false_iff_not, decide_eq_false_iff_not]
                      by_cases h2 : e' = e
                      · exact .inr fun h3 => h1 ⟨h2, h3⟩
                      · exact .inl h2
                    rw [this]; simp))
                obtain ⟨dd, hdd⟩ : ∃ dd, e * 65 = dd := ⟨_, rfl⟩
                rw [hdd] at HC
                go_still_tail 9, (by kernel_rfl)
                go_wp2_with fail
                try rw [hdd]
                refine (HC.out _ (Keep.refl noBlk _).drew).mono ?_
                rintro e5 w6 ⟨rfl, hw6, hk6⟩
                have HW6 : Hid (WordsIs w6 B (fun _ => none) d (l.take (k + 1))) := Lib.hid (by rw [List.take_add_one, HE.out]; exact hw6)
                have hk7 := (Keep.refl (fun j => j = B) wq41).drew.trans hk6
                have HT6 := Lib.hid (HT5.out.keep hk7 hAB)
                have HK6 := Lib.hid (HK5.out.trans' hk7 (U := noBlk) (fun _ _ h => h) (fun i hi e => by have := HBE.out; omega))
                clear hw6 hk6 hk7 HC
                go_wp2_with fail
                go_roundw
                case rel => exact ⟨k + 1, by omega, by go_num, HW6, HT6, HK6, HA2⟩
                case measure => simp [intOf]; omega
              · refine tnb 10 (.bool false) rfl hS1 ?_
                refine tna 11 (.bool false) rfl hS1 ?_
                refine wpAnyH_done (by kernel_rfl) ?_ _
                have HKR := Lib.hid (HSE.out _ hS1)
                clear hS1 HSE HSI
                have HK5 := Lib.hid (HK4.out.trans HKR.out); have HT5 := Lib.hid (HT4.out.keep HKR.out id)
                have HW5 : Hid (WordsIs _ B (fun _ => none) d (l.take (k + 1))) := Lib.hid ((HW4.out.keep HKR.out id).congr fun y => by
                  rw [List.take_add_one, HE.out]
                  show y ∈ l.take k ↔ y ∈ l.take k ++ [_]
                  rw [List.mem_append, List.mem_singleton]
                  refine ⟨.inl, fun h => h.elim id fun h => ?_⟩
                  rw [h]
                  exact of_decide_eq_true HUB.out)
                clear HKR HU
                go_wp2_with fail
                go_roundw
                case rel => exact ⟨k + 1, by omega, by go_num, HW5, HT5, HK5, HA2⟩
                case measure => simp [intOf]; omega
          · obtain rfl : n = k := by omega
            have hbt : bb = true := by
              rw [HALL.out]
              have h := HA.out
              rwa [List.take_of_length_le (by rw [HN.out]; exact Nat.le_refl _)] at h
            have hw := HW.out
            rw [List.take_of_length_le (by rw [HN.out]; exact Nat.le_refl _)] at hw
            have hbw : B < wr.heap.size := hw.lt
            have HC := Lib.hid (waits_any wr A B d z _ l HT.out hw hbd.2.1 (by omega) hbd.2.2.2)
            clear hw
            go_wp2_with fail
            refine HC.out.mono ?_
            rintro e w6 ⟨rfl, c', g1, g2, g3, g4⟩
            have hws := HK.out.size
            have hAw : w.heap.size ≤ A := by have := HBE.out; omega
            have HLD : Hid (LedIs w6 w.heap.size A B c' ((d : Int).toNat) ((z : Int).toNat) l) := Lib.hid (by
              rw [Int.toNat_natCast, Int.toNat_natCast]
              refine ⟨HT.out.keep g4 hAB, g1, fun d' hd => ?_, g3, hbd, hAw, by have := HBE.out; omega, fun d' g hd hg => ?_⟩
              · obtain ⟨g, h5, -, h6⟩ := g2 d' hd
                exact ⟨g, h5, h6⟩
              · obtain ⟨g', h5, h6, -⟩ := g2 d' hd
                rw [hg] at h5
                cases h5
                omega)
            have HKF := Lib.hid (HK.out.trans' g4 (U := noBlk) (fun _ _ h => h) (fun i hi e => by have := HBE.out; omega))
            clear g1 g2 g3 g4 HC
            go_wp2_with fail
            go_ret2
            exact HPG.out hbt _ _ _ _ HLD.out HKF.out _ rfl
        · have hbf : bb = false := by
            rw [← HBB.out]
            unfold newB
            simp [h4]
          have i1 : ¬ D < 2 := by omega
          have i2 : ¬ 8 < D := by omega
          have i3 : ¬ S < 8 := by omega
          have i4 : 4096 < S := by omega
          have d1 : decide (D < 2) = false := decide_eq_false i1
          have d2 : decide (8 < D) = false := decide_eq_false i2
          have d3 : decide (S < 8) = false := decide_eq_false i3
          have d4 : decide (4096 < S) = true := decide_eq_true i4
          go_enter Try.func11, Try.ntmps11
          go_wp2_with fail
          go_ret2
          exact HPB.out hbf _ HK0.out _ rfl
      · have hbf : bb = false := by
          rw [← HBB.out]
          unfold newB
          simp [h3]
        have i1 : ¬ D < 2 := by omega
        have i2 : ¬ 8 < D := by omega
        have i3 : S < 8 := by omega
        have d1 : decide (D < 2) = false := decide_eq_false i1
        have d2 : decide (8 < D) = false := decide_eq_false i2
        have d3 : decide (S < 8) = true := decide_eq_true i3
        go_enter Try.func11, Try.ntmps11
        go_wp2_with fail
        go_ret2
        exact HPB.out hbf _ HK0.out _ rfl
    · have hbf : bb = false := by
        rw [← HBB.out]
        unfold newB
        simp [h2]
      have i1 : ¬ D < 2 := by omega
      have i2 : 8 < D := by omega
      have d1 : decide (D < 2) = false := decide_eq_false i1
      have d2 : decide (8 < D) = true := decide_eq_true i2
      go_enter Try.func11, Try.ntmps11
      go_wp2_with fail
      go_ret2
      exact HPB.out hbf _ HK0.out _ rfl
  · have hbf : bb = false := by
      rw [← HBB.out]
      unfold newB
      simp [h1]
    have i1 : D < 2 := by omega
    have d1 : decide (D < 2) = true := decide_eq_true i1
    go_enter Try.func11, Try.ntmps11
    go_wp2_with fail
    go_ret2
    exact HPB.out hbf _ HK0.out _ rfl

end Go.Proofs.Ytfjklgbakhjjiaa
