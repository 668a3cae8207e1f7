/-
  caulkerref17: places, New, Free, least.
  Conditions: none but those told.
-/
import Derived.Test.YtfjklgbakhjjiaaRefL
import Derived.Test.YtfjklgbakhjjiaaRSetAddr
import Derived.Test.YtfjklgbakhjjiaaApartL
import Derived.Test.YtfjklgbakhjjiaaLedE
namespace Go.Proofs.Ytfjklgbakhjjiaa
open Go.RowKit Go.Maps Go.ChangeMaps
set_option maxRecDepth 100000
set_option linter.unusedVariables false

/-- The document's ledger in block r: its list is the slice v. -/
structure RefIs (w : World) (r : Nat) (v : Value) (D Z : Nat) (C : List Ad) : Prop where
  blk : w.heap[r]? = some (.cells #[.int .i64 (D : Int), .int .i64 (Z : Int), v] 47 (0, 0))
  rd : Rd w 2 v C.length (adCells C)
  far : v.ownBlock ≠ some r
  vl : ∀ i, v.ownBlock = some i → i < w.heap.size
  up : Rises C
  inn : ∀ x ∈ C, PlaceIn x D Z
  bd : 2 ≤ D ∧ D ≤ 8 ∧ 8 ≤ Z ∧ Z ≤ 4096
theorem RefIs.keep {T : Nat → Prop} {w w' : World} {r D Z : Nat} {v : Value} {C : List Ad} (h : RefIs w r v D Z C) (k : Keep T w w') (hr : ¬ T r) (hv : ∀ i, v.ownBlock = some i → ¬ T i) : RefIs w' r v D Z C :=
  ⟨k.blk h.blk hr, h.rd.keep k hv, h.far, fun i hi => Nat.lt_of_lt_of_le (h.vl i hi) k.size, h.up, h.inn, h.bd⟩
theorem RefIs.keep0 {w w' : World} {r D Z : Nat} {v : Value} {C : List Ad} (h : RefIs w r v D Z C) (k : Keep noBlk w w') : RefIs w' r v D Z C := h.keep k id fun _ _ => id
theorem RefIs.c0 {w : World} {r D Z : Nat} {v : Value} {C : List Ad} (h : RefIs w r v D Z C) : w.cell? ⟨r, 0, none⟩ = some (.int .i64 (D : Int)) := blk_cell h.blk rfl
theorem RefIs.c1 {w : World} {r D Z : Nat} {v : Value} {C : List Ad} (h : RefIs w r v D Z C) : w.cell? ⟨r, 1, none⟩ = some (.int .i64 (Z : Int)) := blk_cell h.blk rfl
theorem RefIs.c2 {w : World} {r D Z : Nat} {v : Value} {C : List Ad} (h : RefIs w r v D Z C) : w.cell? ⟨r, 2, none⟩ = some v := blk_cell h.blk rfl
theorem RefIs.lt {w : World} {r D Z : Nat} {v : Value} {C : List Ad} (h : RefIs w r v D Z C) : r < w.heap.size := lt_of_block h.blk
theorem RefIs.len {w : World} {r D Z : Nat} {v : Value} {C : List Ad} (h : RefIs w r v D Z C) : C.length ≤ 32768 := by
  have h1 := sum_free (rises_nodup' h.up) h.inn (show 5 ≤ Z by have := h.bd; omega)
  have h2 : D * (Z - 5) ≤ 8 * 4096 := Nat.mul_le_mul h.bd.2.1 (by have := h.bd; omega)
  omega
/-- Its list is told anew. -/
theorem RefIs.set {w w2 : World} {r D Z : Nat} {v v' : Value} {C C' : List Ad} (h : RefIs w r v D Z C) (k : Keep noBlk w w2) (hr : Rd w2 2 v' C'.length (adCells C')) (hf : v'.ownBlock ≠ some r) (hl : ∀ i, v'.ownBlock = some i → i < w2.heap.size) (hu : Rises C') (hi : ∀ x ∈ C', PlaceIn x D Z) :
    RefIs (w2.setCell ⟨r, 2, none⟩ v') r v' D Z C' ∧ Keep (fun i => i = r) w2 (w2.setCell ⟨r, 2, none⟩ v') := by
  have hk : Keep (fun i => i = r) w2 (w2.setCell ⟨r, 2, none⟩ v') := (Keep.refl (fun i => i = r) w2).setCell (p := ⟨r, 2, none⟩) (fun _ => rfl) _
  refine ⟨⟨?_, hr.keep hk (fun i h1 h2 => hf (by rw [h1, h2])), hf, fun i h => Nat.lt_of_lt_of_le (hl i h) hk.size, hu, hi, h.bd⟩, hk⟩
  have h1 := set_blk (k.blk h.blk id) 2 v'
  exact h1
theorem canon_in {l : List Ad} {D Z : Nat} (h : ∀ x ∈ l, PlaceIn x D Z) : ∀ x ∈ canon l, PlaceIn x D Z := fun x hx => h x (mem_canon.1 hx)
theorem may_in {l : List Ad} {D Z : Nat} (hD : 2 ≤ D ∧ D ≤ 8 ∧ 8 ≤ Z ∧ Z ≤ 4096) (h : l.all (fun x => mayB x D Z) = true) : ∀ x ∈ l, PlaceIn x D Z := fun x hx => (mayB_in hD).1 (List.all_eq_true.1 h x hx)

set_option maxHeartbeats 8000000 in
theorem places_any (w : World) (v : Value) (l : List Ad) (D Z : Int) (hr : Rd w 2 v l.length (adCells l)) : Calls Try.prog 40 #[v, .int .i64 D, .int .i64 Z] w fun e w' => e = .returned (.bool (l.all fun x => mayB x D Z)) ∧ Keep noBlk w w' := by
  obtain ⟨bb, hbb⟩ : ∃ b, l.all (fun x => mayB x D Z) = b := ⟨_, rfl⟩
  have HBB := Lib.hid hbb
  rw [hbb]
  clear hbb
  obtain ⟨oa, ca, rfl, -, hmm⟩ := hr.form
  have hmx_n : l.length ≤ maxLen := by have h := hr.2; obtain ⟨a', cap', h1, h2, h3, -⟩ := h; omega
  unfold maxLen at hmx_n
  clear hmm
  have HR := Lib.hid hr
  obtain ⟨n, hn_n⟩ : ∃ n, l.length = n := ⟨_, rfl⟩
  have HN := Lib.hid hn_n
  rw [hn_n] at HR hmx_n
  try rw [hn_n]
  clear hr hn_n
  go_enter Try.func40, Try.ntmps40
  go_wp2_with fail
  go_loopw [7] (fun i wr => ∃ k : Nat, k ≤ n ∧ i = .int .i64 k ∧ Hid (∀ j x, j < k → l[j]? = some x → mayB x D Z = true) ∧ Hid (Keep noBlk w wr)) (fun i _ => n - (intOf i).toNat)
  case atStart => exact ⟨0, Nat.zero_le _, rfl, Lib.hid (fun j x h => absurd h (Nat.not_lt_zero _)), Lib.hid (Keep.refl _ _)⟩
  case round =>
  obtain ⟨k, hk, rfl, HA, HK⟩ := hrel
  have HR := Lib.hid (HR.out.keep HK.out fun _ _ => id)
  by_cases hlt : k < n
  · have hki : (k : Int) < (n : Int) := by omega
    have hk0 : (0 : Int) ≤ (k : Int) := by omega
    obtain ⟨x, h_x⟩ : ∃ x, l[k]? = some x := ⟨l[k]'(by rw [HN.out]; exact hlt), List.getElem?_eq_getElem _⟩
    have h_r := HR.out
    rw [← HN.out] at h_r
    obtain ⟨gp, op, cap', h_v, h_at⟩ := rd_ad h_r h_x
    have e1 : oa = some ⟨gp, op, none⟩ := by cases h_v; rfl
    subst e1
    have HX := Lib.hid h_at; have HE := Lib.hid h_x
    clear h_x h_r h_v h_at
    have HM := Lib.hid (fun w => rmay_any x D Z w)
    obtain ⟨bm, hbm⟩ : ∃ b, mayB x D Z = b := ⟨_, rfl⟩
    have HBM := Lib.hid hbm
    rw [hbm] at HM
    clear hbm
    go_wp2_with (first
      | ((with_reducible show wpList _ _ _ (⟨_, .load 50 (.tmp 16), _, _, _, _⟩ :: _) _ _); refine wpList_load_mid rfl 50 (.tmp 16) rfl gp (op + k * 2) rfl (adCs x) _ HX.out adUnder rfl sizeAd ?_))
    refine (HM.out _).mono ?_
    rintro e w1 ⟨rfl, hk⟩
    have HR := Lib.hid (HR.out.keep hk fun _ _ => id)
    have HK := Lib.hid (HK.out.trans hk)
    have HX := Lib.hid (hk.rangeAt HX.out)
    clear hk
    cases bm
    · have HF : Hid (bb = false) := Lib.hid (by
        cases bb
        · rfl
        · rw [List.all_eq_true] at HBB
          have h := HBB.out x (List.mem_of_getElem? HE.out)
          rw [HBM.out] at h; cases h)
      go_wp2_with fail
      go_ret
      exact ⟨by rw [HF.out]; rfl, HK.out⟩
    · go_wp2_with fail
      go_roundw
      case rel => exact ⟨k + 1, by omega, by go_num, Lib.hid (fun j y hj hy => by
        rcases Nat.lt_or_ge j k with h | h
        · exact HA.out j y h hy
        · obtain rfl : j = k := by omega
          rw [HE.out] at hy; cases hy; exact HBM.out), HK⟩
      case measure => simp [intOf]; omega
  · obtain rfl : n = k := by omega
    have HF : Hid (bb = true) := Lib.hid (by
      rw [← HBB.out, List.all_eq_true]
      intro x hx
      obtain ⟨j, hj⟩ := List.getElem?_of_mem hx
      exact HA.out j x (by rw [← HN.out]; exact (List.getElem?_eq_some_iff.1 hj).1) hj)
    go_wp2_with fail
    go_ret
    exact ⟨by rw [HF.out]; rfl, HK.out⟩

def RNewPost (w : World) (D Z : Int) (u : List Ad) (e : Ending) (w' : World) : Prop :=
  if newB D Z u then ∃ r v, e = .returned (.tuple #[.pointer (some ⟨r, 0, none⟩), .int .i64 0]) ∧ RefIs w' r v D.toNat Z.toNat (canon u) ∧ w.heap.size ≤ r ∧ (∀ i, v.ownBlock = some i → w.heap.size ≤ i) ∧ Keep noBlk w w'
  else e = .returned (.tuple #[.pointer none, .int .i64 2]) ∧ Keep noBlk w w'
set_option maxHeartbeats 16000000 in
theorem rnew_any (w : World) (D Z : Int) (v : Value) (l : List Ad) (hr : Rd w 2 v l.length (adCells l)) (hl : l.length ≤ 65536) : Calls Try.prog 12 #[.int .i64 D, .int .i64 Z, v] w (RNewPost w D Z l) := by
  have HPL := Lib.hid (places_any w v l D Z hr)
  have HSO := Lib.hid (fun wx (k : Keep noBlk w wx) => rsort_any wx v l (hr.keep k fun _ _ => id) hl)
  obtain ⟨bb, hbb⟩ : ∃ b, newB D Z l = b := ⟨_, rfl⟩
  obtain ⟨bp, hbp⟩ : ∃ b, l.all (fun x => mayB x D Z) = b := ⟨_, rfl⟩
  have hnb : newB D Z l = (decide (2 ≤ D) && decide (D ≤ 8) && decide (8 ≤ Z) && decide (Z ≤ 4096) && bp) := by rw [← hbp]; rfl
  rw [hbp] at HPL
  have HPB : Hid (bb = false → ∀ w', Keep noBlk w w' → ∀ e, e = .returned (.tuple #[.pointer none, .int .i64 2]) → RNewPost w D Z l e w') := Lib.hid (fun h w' k e he => by unfold RNewPost; rw [hbb, h, if_neg (by decide)]; exact ⟨he, k⟩)
  have HPG : Hid (bb = true → ∀ e w', (∃ r v, e = .returned (.tuple #[.pointer (some ⟨r, 0, none⟩), .int .i64 0]) ∧ RefIs w' r v D.toNat Z.toNat (canon l) ∧ w.heap.size ≤ r ∧ (∀ i, v.ownBlock = some i → w.heap.size ≤ i) ∧ Keep noBlk w w') → RNewPost w D Z l e w') := Lib.hid (fun h e w' he => by unfold RNewPost; rw [hbb, h, if_pos rfl]; exact he)
  have HBP := Lib.hid hbp
  rw [hbb] at hnb
  obtain ⟨oa, ca, rfl, -, -⟩ := hr.form
  obtain ⟨n, hn⟩ : ∃ n, l.length = n := ⟨_, rfl⟩
  rw [hn] at HPL HSO ⊢
  have HK := Lib.hid (Keep.refl noBlk w)
  clear hr hbb hbp hn
  by_cases hc : 2 ≤ D ∧ D ≤ 8 ∧ 8 ≤ Z ∧ Z ≤ 4096
  · obtain ⟨h1, h2, h3, h4⟩ := hc
    have d1 : ¬ D < 2 := by omega
    have d2 : ¬ 8 < D := by omega
    have d3 : ¬ Z < 8 := by omega
    have d4 : ¬ 4096 < Z := by omega
    have hbb : bb = bp := by rw [hnb, decide_eq_true h1, decide_eq_true h2, decide_eq_true h3, decide_eq_true h4]; simp
    have HBB := Lib.hid hbb
    clear hnb hbb
    go_enter Try.func12, Try.ntmps12
    go_wp2_with fail
    refine (HPL.out).mono ?_
    rintro e w1 ⟨rfl, hk⟩
    have HK := Lib.hid (HK.out.trans hk)
    clear hk
    cases bp
    · go_wp2_with fail
      go_ret2
      exact HPB.out HBB.out _ HK.out _ rfl
    · have hsz := HK.out.size
      go_wp2_with fail
      refine (HSO.out w1 HK.out).mono ?_
      rintro e w2 ⟨vs, rfl, ho, hk⟩
      have HK := Lib.hid (HK.out.trans hk)
      obtain ⟨xa, xc, rfl, -, -⟩ := (Rd.of_owns ho).form
      have HO := Lib.hid ho
      obtain ⟨D', hD'⟩ : ∃ D' : Nat, D = (D' : Int) := ⟨D.toNat, by omega⟩
      obtain ⟨Z', hZ'⟩ : ∃ Z' : Nat, Z = (Z' : Int) := ⟨Z.toNat, by omega⟩
      subst hD'
      subst hZ'
      obtain ⟨w5, hw5, hk5, hb5, hs5⟩ := alloc_facts w2 #[.int .i64 (D' : Int), .int .i64 (Z' : Int), .slice xa (canon l).length xc] 47
      have hszk := HK.out.size
      have HFIN := Lib.hid (HPG.out HBB.out (.returned (.tuple #[.pointer (some ⟨w2.heap.size, 0, none⟩), .int .i64 0])) w5 ⟨w2.heap.size, _, rfl, ⟨by rw [Int.toNat_natCast, Int.toNat_natCast]; exact hb5, (Rd.of_owns ho).keep hk5 fun _ _ => id, fun e => by obtain ⟨cur, hc⟩ := owns_block ho e; exact absurd (lt_of_block hc) (Nat.lt_irrefl _), fun i hi => by obtain ⟨cur, hc⟩ := owns_block ho hi; exact Nat.lt_of_lt_of_le (lt_of_block hc) hk5.size, canon_rises _, canon_in (by rw [Int.toNat_natCast, Int.toNat_natCast]; exact may_in (by omega) HBP.out), by omega⟩, hszk, fun i hi => Nat.le_trans (by exact hsz) (owns_base ho hi), HK.out.trans hk5⟩)
      clear hk ho hk5 hb5 hs5
      go_wp2_with fail
      go_ret2
      exact HFIN.out
  · have hbb : bb = false := by
      rw [hnb]
      cases e : (decide (2 ≤ D) && decide (D ≤ 8) && decide (8 ≤ Z) && decide (Z ≤ 4096) && bp) with
      | false => rfl
      | true =>
        simp only [Bool.and_eq_true, decide_eq_true_eq] at e
        exact absurd ⟨e.1.1.1.1, e.1.1.1.2, e.1.1.2, e.1.2⟩ hc
    have HBB := Lib.hid (HPB.out hbb)
    clear hnb hbb
    go_enter Try.func12, Try.ntmps12
    by_cases c1 : D < 2
    · go_wp2_with fail
      go_ret2
      exact HBB.out _ HK.out _ rfl
    by_cases c2 : 8 < D
    · go_wp2_with fail
      go_ret2
      exact HBB.out _ HK.out _ rfl
    by_cases c3 : Z < 8
    · go_wp2_with fail
      go_ret2
      exact HBB.out _ HK.out _ rfl
    have c4 : 4096 < Z := by omega
    · go_wp2_with fail
      go_ret2
      exact HBB.out _ HK.out _ rfl

set_option maxHeartbeats 16000000 in
theorem rfree_any (w : World) (r D Z : Nat) (v : Value) (C : List Ad) (h : RefIs w r v D Z C) : Calls Try.prog 18 #[.pointer (some ⟨r, 0, none⟩)] w (IPost w (freeN C D Z)) := by
  have HI := Lib.hid h
  have HC1 := Lib.hid h.c1; have HC2 := Lib.hid h.c2
  have hbd := h.bd
  have HON := Lib.hid (fun wx (k : Keep noBlk w wx) (d : Nat) => ron_any wx v C (d : Int) (h.rd.keep k fun _ _ => id) (by have := h.len; omega))
  have HFR := Lib.hid (fun d : Nat => on_free (d := d) (rises_nodup' h.up) h.inn (show 5 ≤ Z by omega))
  obtain ⟨oa, ca, rfl, -, -⟩ := h.rd.form
  obtain ⟨q, hq⟩ : ∃ q, C.length = q := ⟨_, rfl⟩
  rw [hq] at HI HON HC2
  clear h hq
  go_enter Try.func18, Try.ntmps18
  go_wp2_with fail
  go_loopw [3, 4] (fun t i wr => ∃ (k : Nat) (pa : Option Addr) (pc : Nat), k ≤ D ∧ t = .slice pa k pc ∧ i = .int .i64 k ∧ Hid (wr.ownsRow w.heap.size 3 1 (.slice pa k pc) k ((freeN C k Z).map fun x => .int .i64 x)) ∧ Hid (Keep noBlk w wr)) (fun _ i _ => D - (intOf i).toNat)
  case atStart => exact ⟨0, none, 0, Nat.zero_le _, rfl, rfl, Lib.hid (World.ownsRow_nil _ _ _ _), Lib.hid (Keep.refl _ _)⟩
  case round =>
  obtain ⟨k, pa, pc, hk, rfl, rfl, HO, HK⟩ := hrel
  have HI := Lib.hid (HI.out.keep0 HK.out)
  have hc0 := HI.out.c0; have hc1 := HI.out.c1; have hc2 := HI.out.c2
  by_cases hlt : k < D
  · have hki : (k : Int) < (D : Int) := by omega
    have hk0 : (0 : Int) ≤ (k : Int) := by omega
    obtain ⟨m, hm⟩ : ∃ m, (canon (C.filter fun x => decide (x.dev = (k : Int)))).length = m := ⟨_, rfl⟩
    have HM := Lib.hid hm
    obtain ⟨f, hf⟩ : ∃ f, (freeTo C k Z).length = f := ⟨_, rfl⟩
    have hmf := HFR.out k
    rw [hm, hf] at hmf
    have HF := Lib.hid hf
    have hval : (Z : Int) - 5 - (m : Int) = (f : Int) := by omega
    have hw1 : IntKind.i64.wrap ((Z : Int) - 5) = (Z : Int) - 5 := by rw [IntWalk.i64_in _ (by omega)]
    have hw3 : IntKind.i64.wrap (f : Int) = (f : Int) := by rw [IntWalk.i64_in _ (by omega)]
    have hw2 : IntKind.i64.wrap ((Z : Int) - 5 - (m : Int)) = (f : Int) := by rw [IntWalk.i64_in _ (by omega)]; omega
    have HFS : Hid ((freeN C (k + 1) Z).map (fun x => Value.int .i64 x) = (freeN C k Z).map (fun x => Value.int .i64 x) ++ [.int .i64 (f : Int)]) := Lib.hid (by unfold freeN; rw [List.range_succ, List.map_append, List.map_append, ← hf]; rfl)
    clear hm hf hmf
    have HO := Lib.hid ((Keep.refl noBlk wr).drew.owns HO.out fun _ _ => id)
    go_wp2_with fail
    obtain ⟨S, hS0⟩ : ∃ S : World → Prop, S = fun w' => Keep noBlk w w' := ⟨_, rfl⟩
    have HSE := Lib.hid (show ∀ w', S w' → Keep noBlk w w' from fun w' h => by rw [hS0] at h; exact h)
    have HSI := Lib.hid (show ∀ w', Keep noBlk w w' → S w' from fun w' h => by rw [hS0]; exact h)
    have hS : S wr.drew := by rw [hS0]; exact HK.out.drew
    clear hS0
    refine wp_region_held (S := S) (by kernel_rfl) ?_
    change wpAnyH _ _ _ _ _ _ _ _ wr.drew
    generalize wr.drew = wq41 at hS ⊢ HO
    refine tna 0 (.slice pa k pc) rfl hS ?_
    refine tna 1 (.pointer (some ⟨r, 0, none⟩)) rfl hS ?_
    refine tnb 2 (.pointer (some ⟨r, 0, none⟩)) rfl hS ?_
    refine tnb 3 (.pointer (some ⟨r, 1, none⟩)) rfl hS ?_
    refine tnd 4 (.int .i64 (Z : Int)) rfl (.inl ⟨by rfl, fun w' hw' => by have c := (HSE.out w' hw').cell HC1.out id; go_simp⟩) hS ?_
    refine tnb 5 (.int .i64 ((Z : Int) - 5)) rfl hS ?_
    refine tna 6 (.pointer (some ⟨r, 0, none⟩)) rfl hS ?_
    refine tnb 7 (.pointer (some ⟨r, 0, none⟩)) rfl hS ?_
    refine tnb 8 (.pointer (some ⟨r, 2, none⟩)) rfl hS ?_
    refine tnd 9 (.slice oa q ca) rfl (.inl ⟨by rfl, fun w' hw' => by have c := (HSE.out w' hw').cell HC2.out id; go_simp⟩) hS ?_
    refine tna 10 (.int .i64 (k : Int)) rfl hS ?_
    refine wpAnyH_one (k := 11) rfl (by kernel_rfl) ?_
    go_wp2_with fail
    refine (HON.out wq41 (HSE.out _ hS) k).mono ?_
    rintro e wq42 ⟨vo, rfl, ho_, hk⟩
    have HO := Lib.hid (hk.owns HO.out fun _ _ => id)
    rw [HM.out] at ho_
    obtain ⟨xa, xc, rfl, -, -⟩ := (Rd.of_owns ho_).form
    clear ho_
    have hS1 := HSI.out _ ((HSE.out _ hS).trans hk)
    clear hS hk
    go_wp2_with fail
    refine ⟨hS1, ?_⟩
    refine tnb 12 (.int .i64 m) rfl hS1 ?_
    refine tnb 13 (.int .i64 (f : Int)) rfl hS1 ?_
    refine wpAnyH_one (k := 14) rfl (by kernel_rfl) ?_
    go_wp2_with fail
    obtain ⟨wq43, hw_, hk, hb_, hs_⟩ := alloc_facts wq42 #[.int .i64 (f : Int)] 3
    rw [hw_]
    have HO := Lib.hid (hk.owns HO.out fun _ _ => id)
    obtain ⟨x14, hx14⟩ : ∃ x, wq42.heap.size = x := ⟨_, rfl⟩
    rw [hx14] at hb_ ⊢
    have HR14 := Lib.hid (rd_blk (n := 1) (size := 1) (vs := [.int .i64 (f : Int)]) hb_ rfl (by unfold maxLen; omega))
    clear hw_ hb_ hs_ hx14
    have hS2 := HSI.out _ ((HSE.out _ hS1).trans hk)
    clear hS1 hk
    go_wp2_with fail
    refine ⟨hS2, ?_⟩
    refine wpAnyH_one (k := 15) rfl (by kernel_rfl) ?_
    have hone : ∀ u ∈ [Value.int .i64 (f : Int)], u.oneCell' = true := by simp [Value.oneCell']
    refine wpList_append_rd (by rfl) (.tmp 13) (.tmp 27) 43 (by rfl) w.heap.size 3 (.int .i64 0) 1 8 Try.underlying43 infoI64 rfl (by decide) (.slice pa k pc) k _ (by rfl) HO.out (.slice (some ⟨x14, 0, none⟩) 1 1) 1 [.int .i64 (f : Int)] (by rfl) HR14.out hone (by unfold maxLen; omega) (by omega) (HSE.out _ hS2).size ?_
    intro v' wq44 ho5 hk0 hn5 hb5
    obtain ⟨va, vc, rfl, -, -⟩ := (Rd.of_owns ho5).form
    have HO5 : Hid (wq44.ownsRow w.heap.size 3 1 (.slice va (k + 1) vc) (k + 1) ((freeN C (k + 1) Z).map fun x => .int .i64 x)) := Lib.hid (by rw [HFS.out]; exact ho5)
    have hk2 : Keep noBlk w wq44 := (HSE.out _ hS2).trans' hk0 (U := noBlk) (fun _ _ h => h) (fun i hi e => by have := owns_base HO.out e; omega)
    clear ho5 hk0 hn5 hb5
    have hS3 := HSI.out _ hk2
    clear hS2 hk2
    go_wp2_with fail
    refine ⟨hS3, ?_⟩
    refine tna 16 (.slice va (k + 1) vc) rfl hS3 ?_
    refine wpAnyH_done (by kernel_rfl) ?_ _
    have HKR := Lib.hid (HSE.out _ hS3)
    clear hS3 HSE HSI
    have HK := HKR
    go_wp2_with fail
    go_roundw
    case rel => exact ⟨k + 1, va, vc, by omega, rfl, by go_num, HO5, HK⟩
    case measure => simp [intOf]; omega
  · obtain rfl : D = k := by omega
    have hki : ¬ (D : Int) < (D : Int) := by omega
    have HP : Hid (IPost w (freeN C D Z) (.returned (.slice pa D pc)) wr) := Lib.hid ⟨_, rfl, by rw [freeN_len]; exact HO.out, HK.out⟩
    go_wp2_with fail
    go_ret
    exact HP.out

set_option maxHeartbeats 16000000 in
theorem rleast_any (w : World) (r D Z d : Nat) (v : Value) (C : List Ad) (h : RefIs w r v D Z C) (x : Int) (rest : List Int) (hf : freeTo C d Z = x :: rest) : Calls Try.prog 66 #[.pointer (some ⟨r, 0, none⟩), .int .i64 (d : Int)] w fun e w' => e = .returned (.agg (adCs ⟨(d : Int), x⟩).toArray) ∧ Keep noBlk w w' := by
  obtain ⟨t, rfl, ht1, ht5, htu, htl, -⟩ := freeTo_take hf
  have HI := Lib.hid h
  have HHA := Lib.hid (fun wx (k : Keep noBlk w wx) (a : Ad) => rhas_any wx v C a (h.rd.keep k fun _ _ => id))
  have hZ := h.bd.2.2.2
  obtain ⟨oa, ca, rfl, -, -⟩ := h.rd.form
  obtain ⟨q, hq⟩ : ∃ q, C.length = q := ⟨_, rfl⟩
  rw [hq] at HI HHA
  have HTU := Lib.hid htu; have HTL := Lib.hid htl
  clear h hq hf htu htl
  go_enter Try.func66, Try.ntmps66
  obtain ⟨w1, hw1, hk1, hb1, hs1⟩ := alloc_facts w #[.int .i64 0, .int .i64 0] 50
  obtain ⟨w2, hw2, hk2, hb2, hs2⟩ := alloc_facts w1 #[.int .i64 0, .int .i64 0] 50
  have hb12 := hk2.blk hb1 id
  obtain ⟨b0, hb0⟩ : ∃ b, w.heap.size = b := ⟨_, rfl⟩
  obtain ⟨bx, hbx⟩ : ∃ b, w1.heap.size = b := ⟨_, rfl⟩
  have hne : b0 < bx := by omega
  rw [hbx] at hb2
  rw [hb0] at hb12
  have HB0N := Lib.hid hb0; have HBXN := Lib.hid hbx
  clear hb0 hbx hs1 hs2
  go_wp2_with (first
    | ((with_reducible show wpList _ _ _ (⟨some 4, .alloc 50, _, _, _, _⟩ :: _) _ _); refine wpList_alloc_at rfl 50 rfl zeroAd zeroAddr #[.int .i64 0, .int .i64 0] rfl ?_; rw [hw1])
    | ((with_reducible show wpList _ _ _ (⟨some 5, .alloc 50, _, _, _, _⟩ :: _) _ _); refine wpList_alloc_at rfl 50 rfl zeroAd zeroAddr #[.int .i64 0, .int .i64 0] rfl ?_; rw [hw2, HB0N.out, HBXN.out])
    | ((with_reducible show wpList _ _ _ (⟨none, .store 50 (.tmp 5) (.tmp 7), _, _, _, _⟩ :: _) _ _); refine wpList_store_agg rfl 50 (.tmp 5) (.tmp 7) rfl bx 0 (adCs ⟨(d : Int), 5⟩) rfl rfl #[.int .i64 0, .int .i64 0] 50 hb2 (Nat.le_refl _) sizeAd (oneCell_ad _) ?_
       intro w5 hb5 hk5
       rw [spl_whole _ _ (by rfl)] at hb5
       have hk25 : Keep noBlk w w5 := (hk1.trans hk2).trans' hk5 (fun _ _ h => h) (fun i hi e => by have h0 := HB0N.out; have h1 := HBXN.out; have h2 := hk1.size; omega)
       have hb05 := hk5.blk hb12 (fun e => by have e : b0 = bx := e; omega)
       have HK := Lib.hid hk25; have HX := Lib.hid hb5; have HB0 := Lib.hid hb05
       clear hk5 hb5 hk25 hb05))
  clear hw1 hw2 hk1 hk2 hb1 hb2 hb12
  refine nrm ?_
  go_loopw [] (fun wr => ∃ a : Nat, 5 ≤ a ∧ a ≤ t ∧ Hid (wr.heap[bx]? = some (.cells (adCs ⟨(d : Int), (a : Int)⟩).toArray 50 (0, 0))) ∧ Hid (wr.heap[b0]? = some (.cells #[.int .i64 0, .int .i64 0] 50 (0, 0))) ∧ Hid (Keep noBlk w wr)) (fun wr => match wr.cell? ⟨bx, 1, none⟩ with | some v => t - (intOf v).toNat | none => 0)
  case atStart => exact ⟨5, Nat.le_refl _, ht5, HX, HB0, HK⟩
  case round =>
  clear HX HB0 HK
  obtain ⟨a, ha5, hat, HX, HB0, HK⟩ := hrel
  have HI := Lib.hid (HI.out.keep0 HK.out)
  have HC2 := Lib.hid HI.out.c2
  have HAA : Hid (∀ w', Keep noBlk wr w' → Calls Try.prog 47 #[.slice oa q ca, .agg (adCs ⟨(d : Int), (a : Int)⟩).toArray] w' fun e w2 => e = .returned (.bool (usedB C d a)) ∧ Keep noBlk w' w2) := Lib.hid (fun w' k => HHA.out w' (HK.out.trans k) _)
  have HCX : Hid (wr.cell? ⟨bx, 1, none⟩ = some (.int .i64 (a : Int))) := Lib.hid (blk_cell HX.out rfl)
  have HCM := Lib.hid HCX.out
  by_cases hta : a < t
  · have hu := HTL.out a ha5 hta
    rw [hu] at HAA
    clear hu
    go_wp2_with fail
    obtain ⟨S, hS0⟩ : ∃ S : World → Prop, S = fun w' => Keep noBlk wr w' := ⟨_, rfl⟩
    have HSE := Lib.hid (show ∀ w', S w' → Keep noBlk wr w' from fun w' h => by rw [hS0] at h; exact h)
    have HSI := Lib.hid (show ∀ w', Keep noBlk wr w' → S w' from fun w' h => by rw [hS0]; exact h)
    have hS : S wr.drew := by rw [hS0]; exact (Keep.refl _ _).drew
    clear hS0
    refine wp_region_held (S := S) (by kernel_rfl) ?_
    change wpAnyH _ _ _ _ _ _ _ _ wr.drew
    generalize wr.drew = wq41 at hS ⊢
    refine tna 0 (.pointer (some ⟨r, 0, none⟩)) rfl hS ?_
    refine tnb 1 (.pointer (some ⟨r, 0, none⟩)) rfl hS ?_
    refine tnb 2 (.pointer (some ⟨r, 2, none⟩)) rfl hS ?_
    refine tnd 3 (.slice oa q ca) rfl (.inl ⟨by rfl, fun w' hw' => by have c := (HSE.out w' hw').cell HC2.out id; go_simp⟩) hS ?_
    refine tnd 4 (.agg ((adCs ⟨(d : Int), (a : Int)⟩)).toArray) rfl (yieldsIf_load_mid (by rfl) 50 (.tmp 5) rfl (bx) (0) rfl ((adCs ⟨(d : Int), (a : Int)⟩)) _ (fun w' h => rangeAt_whole ((HSE.out w' h).blk HX.out id)) adUnder rfl sizeAd) hS ?_
    refine wpAnyH_one (k := 5) rfl (by kernel_rfl) ?_
    go_wp2_with fail
    refine (HAA.out wq41 (HSE.out _ hS)).mono ?_
    rintro e wq42 ⟨rfl, hk⟩
    have hS1 := HSI.out _ ((HSE.out _ hS).trans hk)
    clear hS hk
    go_wp2_with fail
    refine ⟨hS1, ?_⟩
    refine wpAnyH_done (by kernel_rfl) ?_ _
    have HKR := Lib.hid (HSE.out _ hS1)
    clear hS1 HSE HSI
    have HX := Lib.hid (HKR.out.blk HX.out id)
    have HB0 := Lib.hid (HKR.out.blk HB0.out id)
    have HK := Lib.hid (HK.out.trans HKR.out)
    have HI := Lib.hid (HI.out.keep0 HKR.out)
    have HCX := Lib.hid (HKR.out.cell HCX.out id)
    have hcx := HCX.out
    have hfx := blk_free HX.out 1
    have hbi := set_blk HX.out 1 (.int .i64 ((a : Int) + 1))
    have hki := (Keep.refl (fun i => i = bx) wq42).setCell (p := ⟨bx, 1, none⟩) (fun _ => rfl) (.int .i64 ((a : Int) + 1))
    have HKI : Hid (Keep noBlk w (wq42.setCell ⟨bx, 1, none⟩ (.int .i64 ((a : Int) + 1)))) := Lib.hid (HK.out.trans' hki (fun _ _ h => h) (fun i hi e => by have := HB0N.out; omega))
    have HBI : Hid ((wq42.setCell ⟨bx, 1, none⟩ (.int .i64 ((a : Int) + 1))).heap[bx]? = some (.cells (adCs ⟨(d : Int), ((a + 1 : Nat) : Int)⟩).toArray 50 (0, 0))) := Lib.hid (by
      have e : ((a + 1 : Nat) : Int) = (a : Int) + 1 := by omega
      rw [e]
      exact hbi)
    have HBZ := Lib.hid (hki.blk HB0.out (fun e => by have e : b0 = bx := e; omega))
    have HCN : Hid ((wq42.setCell ⟨bx, 1, none⟩ (.int .i64 ((a : Int) + 1))).cell? ⟨bx, 1, none⟩ = some (.int .i64 ((a : Int) + 1))) := Lib.hid (blk_cell hbi rfl)
    clear hbi hki
    go_wp2_with fail
    go_roundw
    case rel => exact ⟨a + 1, by omega, by omega, HBI, HBZ, HKI⟩
    case measure =>
      rw [HCN.out, HCM.out]
      simp [intOf]; omega
  · obtain rfl : a = t := by omega
    have hu := HTU.out
    rw [hu] at HAA
    clear hu
    go_wp2_with fail
    obtain ⟨S, hS0⟩ : ∃ S : World → Prop, S = fun w' => Keep noBlk wr w' := ⟨_, rfl⟩
    have HSE := Lib.hid (show ∀ w', S w' → Keep noBlk wr w' from fun w' h => by rw [hS0] at h; exact h)
    have HSI := Lib.hid (show ∀ w', Keep noBlk wr w' → S w' from fun w' h => by rw [hS0]; exact h)
    have hS : S wr.drew := by rw [hS0]; exact (Keep.refl _ _).drew
    clear hS0
    refine wp_region_held (S := S) (by kernel_rfl) ?_
    change wpAnyH _ _ _ _ _ _ _ _ wr.drew
    generalize wr.drew = wq41 at hS ⊢
    refine tna 0 (.pointer (some ⟨r, 0, none⟩)) rfl hS ?_
    refine tnb 1 (.pointer (some ⟨r, 0, none⟩)) rfl hS ?_
    refine tnb 2 (.pointer (some ⟨r, 2, none⟩)) rfl hS ?_
    refine tnd 3 (.slice oa q ca) rfl (.inl ⟨by rfl, fun w' hw' => by have c := (HSE.out w' hw').cell HC2.out id; go_simp⟩) hS ?_
    refine tnd 4 (.agg ((adCs ⟨(d : Int), (a : Int)⟩)).toArray) rfl (yieldsIf_load_mid (by rfl) 50 (.tmp 5) rfl (bx) (0) rfl ((adCs ⟨(d : Int), (a : Int)⟩)) _ (fun w' h => rangeAt_whole ((HSE.out w' h).blk HX.out id)) adUnder rfl sizeAd) hS ?_
    refine wpAnyH_one (k := 5) rfl (by kernel_rfl) ?_
    go_wp2_with fail
    refine (HAA.out wq41 (HSE.out _ hS)).mono ?_
    rintro e wq42 ⟨rfl, hk⟩
    have hS1 := HSI.out _ ((HSE.out _ hS).trans hk)
    clear hS hk
    go_wp2_with fail
    refine ⟨hS1, ?_⟩
    refine wpAnyH_done (by kernel_rfl) ?_ _
    have HKR := Lib.hid (HSE.out _ hS1)
    clear hS1 HSE HSI
    have HX := Lib.hid (HKR.out.blk HX.out id)
    have HB0 := Lib.hid (HKR.out.blk HB0.out id)
    have HK := Lib.hid (HK.out.trans HKR.out)
    have HI := Lib.hid (HI.out.keep0 HKR.out)
    have HCX := Lib.hid (HKR.out.cell HCX.out id)
    go_wp2_with (first
      | ((with_reducible show wpList _ _ _ (⟨_, .load 50 (.tmp 5), _, _, _, _⟩ :: _) _ _); refine wpList_load_mid rfl 50 (.tmp 5) rfl bx 0 rfl (adCs ⟨(d : Int), (a : Int)⟩) _ (rangeAt_whole HX.out) adUnder rfl sizeAd ?_)
      | ((with_reducible show wpList _ _ _ (⟨none, .store 50 (.tmp 4) (.tmp 18), _, _, _, _⟩ :: _) _ _); refine wpList_store_agg rfl 50 (.tmp 4) (.tmp 18) rfl b0 0 (adCs ⟨(d : Int), (a : Int)⟩) rfl rfl #[.int .i64 0, .int .i64 0] 50 HB0.out (Nat.le_refl _) sizeAd (oneCell_ad _) ?_
         intro w9 hb9 hk9
         rw [spl_whole _ _ (by rfl)] at hb9
         have HK9 := Lib.hid (HK.out.trans' hk9 (U := noBlk) (fun _ _ h => h) (fun i hi e => by have := HB0N.out; omega))
         have HB9 := Lib.hid hb9
         clear hb9 hk9))
    refine bodyPost_ret (results_cell_row rfl _ _ b0 _ _ _ _ rfl HB9.out adUnder rfl (by rw [List.size_toArray]; exact sizeAd)) rfl ?_
    exact ⟨rfl, HK9.out⟩
end Go.Proofs.Ytfjklgbakhjjiaa

/-
  caulkerref17: once, Mark, Release, Room.
  Conditions: none but those told.
-/
namespace Go.Proofs.Ytfjklgbakhjjiaa
open Go.RowKit Go.Maps Go.ChangeMaps
set_option maxRecDepth 100000
set_option linter.unusedVariables false

def RTakePost (w : World) (r D Z : Nat) (C : List Ad) (th : List Bool) (cp : Int) (e : Ending) (w' : World) : Prop :=
  if checkB (freeN C D Z) th cp then
    match chooseL (freeN C D Z) th cp.toNat with
    | none => e = .returned (.tuple #[.slice none 0 0, .int .i64 15]) ∧ Keep noBlk w w'
    | some l => ∃ vo v', e = .returned (.tuple #[vo, .int .i64 0]) ∧ RefIs w' r v' D Z (canon (C ++ takenL C Z l)) ∧ w'.ownsRow w.heap.size 50 2 vo l.length (adCells (takenL C Z l)) ∧ (∀ i, v'.ownBlock = some i → w.heap.size ≤ i) ∧ Keep (fun i => i = r) w w'
  else e = .returned (.tuple #[.slice none 0 0, .int .i64 2]) ∧ Keep noBlk w w'
def RTurnsPost (w : World) (r D Z : Nat) (C l : List Ad) (u : Bool) (e : Ending) (w' : World) : Prop :=
  if okT C l u D Z then e = .returned (.int .i64 0) ∧ ∃ v', RefIs w' r v' D Z (canon (turnL C l u)) ∧ (∀ i, v'.ownBlock = some i → w.heap.size ≤ i) ∧ Keep (fun i => i = r) w w'
  else e = .returned (.int .i64 2) ∧ Keep noBlk w w'
theorem okT_in {C l : List Ad} {u : Bool} {D Z : Nat} (hD : 2 ≤ D ∧ D ≤ 8 ∧ 8 ≤ Z ∧ Z ≤ 4096) (h : okT C l u D Z = true) : ∀ x ∈ l, PlaceIn x D Z := fun x hx => by
  unfold okT at h
  rw [Bool.and_eq_true, List.all_eq_true] at h
  have h1 := h.1 x hx
  rw [Bool.and_eq_true] at h1
  exact (mayB_in hD).1 h1.1
theorem turn_in {C l : List Ad} {u : Bool} {D Z : Nat} (hC : ∀ x ∈ C, PlaceIn x D Z) (hl : ∀ x ∈ l, PlaceIn x D Z) : ∀ x ∈ turnL C l u, PlaceIn x D Z := fun x hx => by
  unfold turnL at hx
  split at hx
  · exact hC x (List.mem_filter.1 hx).1
  · exact (List.mem_append.1 hx).elim (hC x) (hl x)

set_option maxHeartbeats 16000000 in
theorem ronce_any (w : World) (r D Z : Nat) (v : Value) (C : List Ad) (h : RefIs w r v D Z C) (vl : Value) (l : List Ad) (hr : Rd w 2 vl l.length (adCells l)) (hl : l.length ≤ 32768) (u : Bool) : Calls Try.prog 68 #[.pointer (some ⟨r, 0, none⟩), vl, .bool u] w fun e w' => e = .returned (.bool (okT C l u D Z)) ∧ Keep noBlk w w' := by
  have HI := Lib.hid h
  have HPL := Lib.hid (fun wx (k : Keep noBlk w wx) => places_any wx vl l D Z (hr.keep k fun _ _ => id))
  have HSO := Lib.hid (fun wx (k : Keep noBlk w wx) => rsort_any wx vl l (hr.keep k fun _ _ => id) (by omega))
  have HBO := Lib.hid (fun wx (k : Keep noBlk w wx) => rboth_any wx vl v l C (hr.keep k fun _ _ => id) (h.rd.keep k fun _ _ => id) (by omega))
  have hbd := h.bd
  obtain ⟨bb, hbb⟩ : ∃ b, okT C l u D Z = b := ⟨_, rfl⟩
  have hoe : bb = onceB C l u D Z := by rw [once_ok]; exact hbb.symm
  unfold onceB at hoe
  obtain ⟨bp, hbp⟩ : ∃ b, l.all (fun x => mayB x D Z) = b := ⟨_, rfl⟩
  rw [hbp] at HPL hoe
  obtain ⟨q2, hq2⟩ : ∃ b, (canon l).length = b := ⟨_, rfl⟩
  obtain ⟨q3, hq3⟩ : ∃ b, (canon (l.filter fun x => decide (x ∈ C))).length = b := ⟨_, rfl⟩
  have HQ2 := Lib.hid hq2; have HQ3 := Lib.hid hq3
  obtain ⟨la, lc, rfl, -, -⟩ := hr.form
  obtain ⟨oa, ca, rfl, -, -⟩ := h.rd.form
  obtain ⟨q, hq⟩ : ∃ q, C.length = q := ⟨_, rfl⟩
  obtain ⟨m, hm⟩ : ∃ m, l.length = m := ⟨_, rfl⟩
  rw [hbb]
  rw [hq] at HI HBO
  rw [hm] at HPL HSO HBO hl ⊢
  rw [hq2, hq3, hm] at hoe
  have HOE := Lib.hid hoe
  have HC0 := Lib.hid HI.out.c0; have HC1 := Lib.hid HI.out.c1
  have hq2m : q2 ≤ m := by rw [← hq2, ← hm]; exact canon_len l
  have hq3m : q3 ≤ m := by rw [← hq3, ← hm]; exact Nat.le_trans (canon_len _) (List.length_filter_le _ _)
  clear h hr hq hm hq2 hq3 hbp hbb hoe
  have HK := Lib.hid (Keep.refl noBlk w)
  go_enter Try.func68, Try.ntmps68
  go_wp2_with fail
  have HW0 := Lib.hid (Keep.refl noBlk w)
  cases bp
  · have HBB : Hid (bb = false) := Lib.hid (by rw [HOE.out]; rfl)
    obtain ⟨S, hS0⟩ : ∃ S : World → Prop, S = fun w' => Keep noBlk w w' := ⟨_, rfl⟩
    have HSE := Lib.hid (show ∀ w', S w' → Keep noBlk w w' from fun w' h => by rw [hS0] at h; exact h)
    have HSI := Lib.hid (show ∀ w', Keep noBlk w w' → S w' from fun w' h => by rw [hS0]; exact h)
    have hS : S w.drew := by rw [hS0]; exact (Keep.refl _ _).drew
    clear hS0
    refine wp_region_held (S := S) (by kernel_rfl) ?_
    change wpAnyH _ _ _ _ _ _ _ _ w.drew
    generalize w.drew = wq41 at hS ⊢
    refine tna 0 (.slice la m lc) rfl hS ?_
    refine tna 1 (.pointer (some ⟨r, 0, none⟩)) rfl hS ?_
    refine tnb 2 (.pointer (some ⟨r, 0, none⟩)) rfl hS ?_
    refine tnb 3 (.pointer (some ⟨r, 0, none⟩)) rfl hS ?_
    refine tnd 4 (.int .i64 (D : Int)) rfl (.inl ⟨by rfl, fun w' hw' => by have c := (HSE.out w' hw').cell HC0.out id; go_simp⟩) hS ?_
    refine tna 5 (.pointer (some ⟨r, 0, none⟩)) rfl hS ?_
    refine tnb 6 (.pointer (some ⟨r, 0, none⟩)) rfl hS ?_
    refine tnb 7 (.pointer (some ⟨r, 1, none⟩)) rfl hS ?_
    refine tnd 8 (.int .i64 (Z : Int)) rfl (.inl ⟨by rfl, fun w' hw' => by have c := (HSE.out w' hw').cell HC1.out id; go_simp⟩) hS ?_
    refine wpAnyH_one (k := 9) rfl (by kernel_rfl) ?_
    go_wp2_with fail
    refine (HPL.out wq41 (HSE.out _ hS)).mono ?_
    rintro e wq42 ⟨rfl, hk⟩
    have hS1 := HSI.out _ ((HSE.out _ hS).trans hk)
    clear hS hk
    go_wp2_with fail
    refine ⟨hS1, ?_⟩
    refine tnb 10 (.bool true) rfl hS1 ?_
    refine tna 11 (.bool true) rfl hS1 ?_
    refine tnc 12 undef rfl hS1 ?_
    refine tnc 13 undef rfl hS1 ?_
    refine tnc 14 undef rfl hS1 ?_
    refine tnc 15 undef rfl hS1 ?_
    refine tnc 16 undef rfl hS1 ?_
    refine tnc 17 undef rfl hS1 ?_
    refine tna 18 (.bool true) rfl hS1 ?_
    refine wpAnyH_done (by kernel_rfl) ?_ _
    have HKR := Lib.hid (HSE.out _ hS1)
    clear hS1 HSE HSI
    have HI := Lib.hid (HI.out.keep0 HKR.out)
    have HK := Lib.hid (HK.out.trans HKR.out)
    go_wp2_with fail
    go_ret
    exact ⟨by rw [HBB.out]; rfl, HK.out⟩
  · by_cases hne : q2 = m
    · obtain rfl : m = q2 := hne.symm
      have HBE : Hid (bb = (u && decide (q3 = m) || !u && decide (q3 = 0))) := Lib.hid (by rw [HOE.out]; simp)
      obtain ⟨S, hS0⟩ : ∃ S : World → Prop, S = fun w' => Keep noBlk w w' := ⟨_, rfl⟩
      have HSE := Lib.hid (show ∀ w', S w' → Keep noBlk w w' from fun w' h => by rw [hS0] at h; exact h)
      have HSI := Lib.hid (show ∀ w', Keep noBlk w w' → S w' from fun w' h => by rw [hS0]; exact h)
      have hS : S w.drew := by rw [hS0]; exact (Keep.refl _ _).drew
      clear hS0
      refine wp_region_held (S := S) (by kernel_rfl) ?_
      change wpAnyH _ _ _ _ _ _ _ _ w.drew
      generalize w.drew = wq41 at hS ⊢
      refine tna 0 (.slice la m lc) rfl hS ?_
      refine tna 1 (.pointer (some ⟨r, 0, none⟩)) rfl hS ?_
      refine tnb 2 (.pointer (some ⟨r, 0, none⟩)) rfl hS ?_
      refine tnb 3 (.pointer (some ⟨r, 0, none⟩)) rfl hS ?_
      refine tnd 4 (.int .i64 (D : Int)) rfl (.inl ⟨by rfl, fun w' hw' => by have c := (HSE.out w' hw').cell HC0.out id; go_simp⟩) hS ?_
      refine tna 5 (.pointer (some ⟨r, 0, none⟩)) rfl hS ?_
      refine tnb 6 (.pointer (some ⟨r, 0, none⟩)) rfl hS ?_
      refine tnb 7 (.pointer (some ⟨r, 1, none⟩)) rfl hS ?_
      refine tnd 8 (.int .i64 (Z : Int)) rfl (.inl ⟨by rfl, fun w' hw' => by have c := (HSE.out w' hw').cell HC1.out id; go_simp⟩) hS ?_
      refine wpAnyH_one (k := 9) rfl (by kernel_rfl) ?_
      go_wp2_with fail
      refine (HPL.out wq41 (HSE.out _ hS)).mono ?_
      rintro e wq42 ⟨rfl, hk⟩
      have hS1 := HSI.out _ ((HSE.out _ hS).trans hk)
      clear hS hk
      go_wp2_with fail
      refine ⟨hS1, ?_⟩
      refine tnb 10 (.bool false) rfl hS1 ?_
      refine tna 11 (.bool false) rfl hS1 ?_
      refine tna 12 (.slice la m lc) rfl hS1 ?_
      refine tna 15 (.slice la m lc) rfl hS1 ?_
      refine tnb 16 (.int .i64 m) rfl hS1 ?_
      refine wpAnyH_one (k := 13) rfl (by kernel_rfl) ?_
      go_wp2_with fail
      refine (HSO.out wq42 (HSE.out _ hS1)).mono ?_
      rintro e wq43 ⟨vo, rfl, ho_, hk⟩
      rw [HQ2.out] at ho_
      obtain ⟨xa, xc, rfl, -, -⟩ := (Rd.of_owns ho_).form
      clear ho_
      have hS2 := HSI.out _ ((HSE.out _ hS1).trans hk)
      clear hS1 hk
      go_wp2_with fail
      refine ⟨hS2, ?_⟩
      refine tnb 14 (.int .i64 m) rfl hS2 ?_
      refine tnb 17 (.bool false) rfl hS2 ?_
      refine tna 18 (.bool false) rfl hS2 ?_
      refine wpAnyH_done (by kernel_rfl) ?_ _
      have HKR := Lib.hid (HSE.out _ hS2)
      clear hS2 HSE HSI
      have HI := Lib.hid (HI.out.keep0 HKR.out)
      have HK := Lib.hid (HK.out.trans HKR.out)
      have hc2 := HI.out.c2
      go_wp2_with fail
      refine (HBO.out wq43 HK.out).mono ?_
      rintro e w5 ⟨vo, rfl, ho_, hk⟩
      rw [HQ3.out] at ho_
      obtain ⟨xa3, xc3, rfl, -, -⟩ := (Rd.of_owns ho_).form
      have HK := Lib.hid (HK.out.trans hk)
      clear ho_ hk hc2
      cases u
      · by_cases h3 : q3 = 0
        · subst h3
          have HBB : Hid (bb = true) := Lib.hid (by rw [HBE.out]; simp)
          go_wp2_with fail
          go_ret
          exact ⟨by rw [HBB.out]; rfl, HK.out⟩
        · have h3i : ((q3 : Int) == 0) = false := by simp; omega
          have HBB : Hid (bb = false) := Lib.hid (by rw [HBE.out, decide_eq_false h3]; simp)
          go_wp2_with fail
          go_ret
          exact ⟨by rw [HBB.out]; rfl, HK.out⟩
      · by_cases h3 : q3 = m
        · subst h3
          have h3i : ((q3 : Int) == (q3 : Int)) = true := by simp
          have HBB : Hid (bb = true) := Lib.hid (by rw [HBE.out]; simp)
          go_wp2_with fail
          go_ret
          exact ⟨by rw [HBB.out]; rfl, HK.out⟩
        · have h3i : ((q3 : Int) == (m : Int)) = false := by simp; omega
          have HBB : Hid (bb = false) := Lib.hid (by rw [HBE.out, decide_eq_false h3]; simp)
          go_wp2_with fail
          go_ret
          exact ⟨by rw [HBB.out]; rfl, HK.out⟩
    · have HBB : Hid (bb = false) := Lib.hid (by rw [HOE.out, decide_eq_false hne]; simp)
      have hni : ((q2 : Int) != (m : Int)) = true := by simp; omega
      obtain ⟨S, hS0⟩ : ∃ S : World → Prop, S = fun w' => Keep noBlk w w' := ⟨_, rfl⟩
      have HSE := Lib.hid (show ∀ w', S w' → Keep noBlk w w' from fun w' h => by rw [hS0] at h; exact h)
      have HSI := Lib.hid (show ∀ w', Keep noBlk w w' → S w' from fun w' h => by rw [hS0]; exact h)
      have hS : S w.drew := by rw [hS0]; exact (Keep.refl _ _).drew
      clear hS0
      refine wp_region_held (S := S) (by kernel_rfl) ?_
      change wpAnyH _ _ _ _ _ _ _ _ w.drew
      generalize w.drew = wq41 at hS ⊢
      refine tna 0 (.slice la m lc) rfl hS ?_
      refine tna 1 (.pointer (some ⟨r, 0, none⟩)) rfl hS ?_
      refine tnb 2 (.pointer (some ⟨r, 0, none⟩)) rfl hS ?_
      refine tnb 3 (.pointer (some ⟨r, 0, none⟩)) rfl hS ?_
      refine tnd 4 (.int .i64 (D : Int)) rfl (.inl ⟨by rfl, fun w' hw' => by have c := (HSE.out w' hw').cell HC0.out id; go_simp⟩) hS ?_
      refine tna 5 (.pointer (some ⟨r, 0, none⟩)) rfl hS ?_
      refine tnb 6 (.pointer (some ⟨r, 0, none⟩)) rfl hS ?_
      refine tnb 7 (.pointer (some ⟨r, 1, none⟩)) rfl hS ?_
      refine tnd 8 (.int .i64 (Z : Int)) rfl (.inl ⟨by rfl, fun w' hw' => by have c := (HSE.out w' hw').cell HC1.out id; go_simp⟩) hS ?_
      refine wpAnyH_one (k := 9) rfl (by kernel_rfl) ?_
      go_wp2_with fail
      refine (HPL.out wq41 (HSE.out _ hS)).mono ?_
      rintro e wq42 ⟨rfl, hk⟩
      have hS1 := HSI.out _ ((HSE.out _ hS).trans hk)
      clear hS hk
      go_wp2_with fail
      refine ⟨hS1, ?_⟩
      refine tnb 10 (.bool false) rfl hS1 ?_
      refine tna 11 (.bool false) rfl hS1 ?_
      refine tna 12 (.slice la m lc) rfl hS1 ?_
      refine tna 15 (.slice la m lc) rfl hS1 ?_
      refine tnb 16 (.int .i64 m) rfl hS1 ?_
      refine wpAnyH_one (k := 13) rfl (by kernel_rfl) ?_
      go_wp2_with fail
      refine (HSO.out wq42 (HSE.out _ hS1)).mono ?_
      rintro e wq43 ⟨vo, rfl, ho_, hk⟩
      rw [HQ2.out] at ho_
      obtain ⟨xa, xc, rfl, -, -⟩ := (Rd.of_owns ho_).form
      clear ho_
      have hS2 := HSI.out _ ((HSE.out _ hS1).trans hk)
      clear hS1 hk
      go_wp2_with fail
      refine ⟨hS2, ?_⟩
      refine tnb 14 (.int .i64 q2) rfl hS2 ?_
      refine tnb 17 (.bool true) rfl hS2 ?_
      refine tna 18 (.bool true) rfl hS2 ?_
      refine wpAnyH_done (by kernel_rfl) ?_ _
      have HKR := Lib.hid (HSE.out _ hS2)
      clear hS2 HSE HSI
      have HI := Lib.hid (HI.out.keep0 HKR.out)
      have HK := Lib.hid (HK.out.trans HKR.out)
      go_wp2_with fail
      go_ret
      exact ⟨by rw [HBB.out]; rfl, HK.out⟩

set_option maxHeartbeats 8000000 in
theorem rmark_any (w : World) (r D Z : Nat) (v : Value) (C : List Ad) (h : RefIs w r v D Z C) (vl : Value) (l : List Ad) (hr : Rd w 2 vl l.length (adCells l)) (hl : l.length ≤ 32768) : Calls Try.prog 44 #[.pointer (some ⟨r, 0, none⟩), vl] w (RTurnsPost w r D Z C l false) := by
  have HI := Lib.hid h
  have HON := Lib.hid (ronce_any w r D Z v C h vl l hr hl false)
  have hbd := h.bd
  have hcl := h.len
  have HUN := Lib.hid (fun wx (k : Keep noBlk w wx) => runion_any wx v vl C l (h.rd.keep k fun _ _ => id) (hr.keep k fun _ _ => id) (by omega))
  obtain ⟨bb, hbb⟩ : ∃ b, okT C l false D Z = b := ⟨_, rfl⟩
  have HBB := Lib.hid hbb
  rw [hbb] at HON
  have HNO : Hid (bb = false → ∀ e w', e = .returned (.int .i64 2) → Keep noBlk w w' → RTurnsPost w r D Z C l false e w') := Lib.hid (fun hb e w' he k => by unfold RTurnsPost; rw [hbb, hb, if_neg (by decide)]; exact ⟨he, k⟩)
  have HYE : Hid (bb = true → ∀ e w' v', e = .returned (.int .i64 0) → RefIs w' r v' D Z (canon (turnL C l false)) → (∀ i, v'.ownBlock = some i → w.heap.size ≤ i) → Keep (fun i => i = r) w w' → RTurnsPost w r D Z C l false e w') := Lib.hid (fun hb e w' v' he h1 h2 k => by unfold RTurnsPost; rw [hbb, hb, if_pos rfl]; exact ⟨he, v', h1, h2, k⟩)
  have HPI : Hid (bb = true → ∀ x ∈ canon (turnL C l false), PlaceIn x D Z) := Lib.hid (fun hb => canon_in (turn_in h.inn (okT_in hbd (hbb.trans hb))))
  obtain ⟨la, lc, rfl, -, -⟩ := hr.form
  obtain ⟨oa, ca, rfl, -, -⟩ := h.rd.form
  obtain ⟨q, hq⟩ : ∃ q, C.length = q := ⟨_, rfl⟩
  obtain ⟨m, hm⟩ : ∃ m, l.length = m := ⟨_, rfl⟩
  rw [hq] at HI HUN
  rw [hm] at HON HUN ⊢
  have HK := Lib.hid (Keep.refl noBlk w)
  clear h hr hq hm hbb
  go_enter Try.func44, Try.ntmps44
  go_wp2_with fail
  refine (HON.out).mono ?_
  rintro e wq41 ⟨rfl, hk⟩
  have HI := Lib.hid (HI.out.keep0 hk)
  have HK := Lib.hid (HK.out.trans hk)
  clear hk
  cases bb
  · go_wp2_with fail
    go_ret
    exact HNO.out (by simp) _ _ rfl HK.out
  · have hc2 := HI.out.c2
    go_wp2_with fail
    refine (HUN.out wq41 HK.out).mono ?_
    rintro e w5 ⟨vo, rfl, ho, hk⟩
    obtain ⟨xa, xc, rfl, -, -⟩ := (Rd.of_owns ho).form
    have hrw := HI.out.lt
    have hsz := HK.out.size
    have hset := HI.out.set (C' := canon (turnL C l false)) hk (Rd.of_owns ho) (fun e => by have := owns_base ho e; omega) (fun i hi => by obtain ⟨cur, hc⟩ := owns_block ho hi; exact lt_of_block hc) (canon_rises _) (HPI.out (by simp))
    have hkk := HK.out.trans hk
    have HFI := Lib.hid (HYE.out (by simp) (.returned (.int .i64 0)) _ _ rfl hset.1 (fun i hi => Nat.le_trans hsz (owns_base ho hi)) (hkk.trans' hset.2 (U := fun i => i = r) (fun _ _ h => h.elim) (fun i _ e => e)))
    have hc2 := (HI.out.keep0 hk).c2
    have hf2 := blk_free (HI.out.keep0 hk).blk 2
    clear hset hkk hk ho hrw
    go_wp2_with fail
    go_ret
    exact HFI.out

set_option maxHeartbeats 8000000 in
theorem rrelease_any (w : World) (r D Z : Nat) (v : Value) (C : List Ad) (h : RefIs w r v D Z C) (vl : Value) (l : List Ad) (hr : Rd w 2 vl l.length (adCells l)) (hl : l.length ≤ 32768) : Calls Try.prog 45 #[.pointer (some ⟨r, 0, none⟩), vl] w (RTurnsPost w r D Z C l true) := by
  have HI := Lib.hid h
  have HON := Lib.hid (ronce_any w r D Z v C h vl l hr hl true)
  have hbd := h.bd
  have hcl := h.len
  have HUN := Lib.hid (fun wx (k : Keep noBlk w wx) => rminus_any wx v vl C l (h.rd.keep k fun _ _ => id) (hr.keep k fun _ _ => id) (by omega))
  obtain ⟨bb, hbb⟩ : ∃ b, okT C l true D Z = b := ⟨_, rfl⟩
  have HBB := Lib.hid hbb
  rw [hbb] at HON
  have HNO : Hid (bb = false → ∀ e w', e = .returned (.int .i64 2) → Keep noBlk w w' → RTurnsPost w r D Z C l true e w') := Lib.hid (fun hb e w' he k => by unfold RTurnsPost; rw [hbb, hb, if_neg (by decide)]; exact ⟨he, k⟩)
  have HYE : Hid (bb = true → ∀ e w' v', e = .returned (.int .i64 0) → RefIs w' r v' D Z (canon (turnL C l true)) → (∀ i, v'.ownBlock = some i → w.heap.size ≤ i) → Keep (fun i => i = r) w w' → RTurnsPost w r D Z C l true e w') := Lib.hid (fun hb e w' v' he h1 h2 k => by unfold RTurnsPost; rw [hbb, hb, if_pos rfl]; exact ⟨he, v', h1, h2, k⟩)
  have HPI : Hid (bb = true → ∀ x ∈ canon (turnL C l true), PlaceIn x D Z) := Lib.hid (fun hb => canon_in (turn_in h.inn (okT_in hbd (hbb.trans hb))))
  obtain ⟨la, lc, rfl, -, -⟩ := hr.form
  obtain ⟨oa, ca, rfl, -, -⟩ := h.rd.form
  obtain ⟨q, hq⟩ : ∃ q, C.length = q := ⟨_, rfl⟩
  obtain ⟨m, hm⟩ : ∃ m, l.length = m := ⟨_, rfl⟩
  rw [hq] at HI HUN
  rw [hm] at HON HUN ⊢
  have HK := Lib.hid (Keep.refl noBlk w)
  clear h hr hq hm hbb
  go_enter Try.func45, Try.ntmps45
  go_wp2_with fail
  refine (HON.out).mono ?_
  rintro e wq41 ⟨rfl, hk⟩
  have HI := Lib.hid (HI.out.keep0 hk)
  have HK := Lib.hid (HK.out.trans hk)
  clear hk
  cases bb
  · go_wp2_with fail
    go_ret
    exact HNO.out (by simp) _ _ rfl HK.out
  · have hc2 := HI.out.c2
    go_wp2_with fail
    refine (HUN.out wq41 HK.out).mono ?_
    rintro e w5 ⟨vo, rfl, ho, hk⟩
    obtain ⟨xa, xc, rfl, -, -⟩ := (Rd.of_owns ho).form
    have hrw := HI.out.lt
    have hsz := HK.out.size
    have hset := HI.out.set (C' := canon (turnL C l true)) hk (Rd.of_owns ho) (fun e => by have := owns_base ho e; omega) (fun i hi => by obtain ⟨cur, hc⟩ := owns_block ho hi; exact lt_of_block hc) (canon_rises _) (HPI.out (by simp))
    have hkk := HK.out.trans hk
    have HFI := Lib.hid (HYE.out (by simp) (.returned (.int .i64 0)) _ _ rfl hset.1 (fun i hi => Nat.le_trans hsz (owns_base ho hi)) (hkk.trans' hset.2 (U := fun i => i = r) (fun _ _ h => h.elim) (fun i _ e => e)))
    have hc2 := (HI.out.keep0 hk).c2
    have hf2 := blk_free (HI.out.keep0 hk).blk 2
    clear hset hkk hk ho hrw
    go_wp2_with fail
    go_ret
    exact HFI.out

set_option maxHeartbeats 4000000 in
theorem rroom_any (w : World) (r D Z : Nat) (v : Value) (L : List Ad) (h : RefIs w r v D Z L) (vt : Value) (th : List Bool) (cp : Int) (ht : Rd w 1 vt th.length (th.map Value.bool)) :
    Calls Try.prog 46 #[.pointer (some ⟨r, 0, none⟩), vt, .int .i64 cp] w (ManyPost w (freeN L D Z) th cp) := by
  have HF := rfree_any w r D Z v L h
  obtain ⟨fr, hfr⟩ : ∃ fr, freeN L D Z = fr := ⟨_, rfl⟩
  rw [hfr] at HF ⊢
  have HF := Lib.hid HF; have HT := Lib.hid ht
  have HM := Lib.hid (fun wx vx (k : Keep noBlk w wx) (hr : Rd wx 1 vx fr.length (fr.map fun x => .int .i64 x)) => rpmany_any wx vx _ fr th cp hr (ht.keep k fun _ _ => id))
  obtain ⟨ta, tc, rfl, -, -⟩ := ht.form
  obtain ⟨q, hq⟩ : ∃ q, th.length = q := ⟨_, rfl⟩
  rw [hq] at HM ⊢
  clear h ht hfr hq
  go_enter Try.func46, Try.ntmps46
  go_wp2_with fail
  refine HF.out.mono ?_
  rintro e w2 ⟨vf, rfl, hov, hk⟩
  have HRF := Lib.hid (Rd.of_owns hov); have HK := Lib.hid hk
  obtain ⟨fa, fc, rfl, -, -⟩ := (Rd.of_owns hov).form
  have HM2 := HM.out _ _ HK.out HRF.out
  obtain ⟨m, hm⟩ : ∃ m, fr.length = m := ⟨_, rfl⟩
  rw [hm] at HM2 ⊢
  have HM2 := Lib.hid HM2
  clear hov hk HF hm HM
  go_wp2_with fail
  refine HM2.out.mono ?_
  intro e w3 hp
  have hp2 := hp.of HK.out
  obtain ⟨N, r, rfl⟩ := hp.form
  have HPP := Lib.hid hp2
  clear hp hp2 HM2
  go_wp2_with fail
  go_ret2
  exact HPP.out

end Go.Proofs.Ytfjklgbakhjjiaa

/-
  caulkerref17: Take.
  Conditions: none but those told.
-/
namespace Go.Proofs.Ytfjklgbakhjjiaa
open Go.RowKit Go.Maps Go.ChangeMaps
set_option maxRecDepth 100000
set_option linter.unusedVariables false

set_option maxHeartbeats 16000000 in
theorem rtake_any (w : World) (r D Z : Nat) (v : Value) (C : List Ad) (h : RefIs w r v D Z C) (vt : Value) (th : List Bool) (cp : Int) (ht : Rd w 1 vt th.length (th.map Value.bool)) :
    Calls Try.prog 43 #[.pointer (some ⟨r, 0, none⟩), vt, .int .i64 cp] w (RTakePost w r D Z C th cp) := by
  have HI := Lib.hid h
  have hbd := h.bd
  have hcl := h.len
  obtain ⟨fr, hfr⟩ : ∃ fr, freeN C D Z = fr := ⟨_, rfl⟩
  have HFL : Hid (fr.length = D) := Lib.hid (by rw [← hfr]; exact freeN_len C D Z)
  have HF := rfree_any w r D Z v C h
  rw [hfr] at HF
  have HF := Lib.hid HF
  obtain ⟨bb, hbb⟩ : ∃ b, checkB fr th cp = b := ⟨_, rfl⟩
  obtain ⟨o, ho⟩ : ∃ o, chooseL fr th cp.toNat = o := ⟨_, rfl⟩
  have HBB := Lib.hid hbb; have HOO := Lib.hid ho; have HFR := Lib.hid hfr
  have HC := Lib.hid (fun wx vx (k : Keep noBlk w wx) (hr : Rd wx 1 vx fr.length (fr.map fun x => .int .i64 x)) => rpchoose_any wx vx vt fr th cp hr (ht.keep k fun _ _ => id))
  have HLE := Lib.hid (fun wx (k : Keep noBlk w wx) d x rest hf => rleast_any wx r D Z d v C (h.keep0 k) x rest hf)
  have HUN := Lib.hid (fun wx (k : Keep noBlk w wx) vb ys hb hy => runion_any wx v vb C ys (h.rd.keep k fun _ _ => id) hb hy)
  have HIN := Lib.hid h.inn
  obtain ⟨ta, tc, rfl, -, -⟩ := ht.form
  obtain ⟨oa, ca, rfl, -, -⟩ := h.rd.form
  obtain ⟨q, hq⟩ : ∃ q, C.length = q := ⟨_, rfl⟩
  have HCL := Lib.hid hq
  rw [hq] at HI HUN hcl
  obtain ⟨tn, htn⟩ : ∃ n, th.length = n := ⟨_, rfl⟩
  rw [htn] at HC ⊢
  have HK := Lib.hid (Keep.refl noBlk w)
  clear h ht hq hbb ho hfr htn
  go_enter Try.func43, Try.ntmps43
  go_wp2_with fail
  refine HF.out.mono ?_
  rintro e w2 ⟨vf, rfl, hov, hk2⟩
  have HRF := Lib.hid (Rd.of_owns hov)
  have HK2 := Lib.hid hk2
  obtain ⟨fa, fc, rfl, -, -⟩ := (Rd.of_owns hov).form
  clear hov hk2 HF
  rw [HFL.out]
  have HC2 := HC.out w2 _ HK2.out HRF.out
  rw [HFL.out] at HC2
  have HC2 := Lib.hid HC2
  clear HC HRF
  go_wp2_with fail
  refine HC2.out.mono ?_
  intro e w3 hpost
  unfold ChPost at hpost
  rw [HBB.out, HOO.out] at hpost
  clear HC2
  cases bb
  · rw [if_neg (by decide)] at hpost
    obtain ⟨rfl, hk⟩ := hpost
    have HK3 := Lib.hid (HK2.out.trans hk)
    have HP : Hid (∀ e, e = .returned (.tuple #[.slice none 0 0, .int .i64 2]) → RTakePost w r D Z C th cp e w3) := Lib.hid (fun e he => by unfold RTakePost; rw [HFR.out, HBB.out, if_neg (by decide)]; exact ⟨he, HK3.out⟩)
    clear hk
    go_wp2_with fail
    go_ret2
    exact HP.out _ rfl
  · rw [if_pos rfl] at hpost
    cases o
    · obtain ⟨rfl, hk⟩ := hpost
      have HK3 := Lib.hid (HK2.out.trans hk)
      have HP : Hid (∀ e, e = .returned (.tuple #[.slice none 0 0, .int .i64 15]) → RTakePost w r D Z C th cp e w3) := Lib.hid (fun e he => by unfold RTakePost; rw [HFR.out, HBB.out, if_pos rfl, HOO.out]; exact ⟨he, HK3.out⟩)
      clear hk
      go_wp2_with fail
      go_ret2
      exact HP.out _ rfl
    · rename_i l
      obtain ⟨vd, rfl, hnr, hk⟩ := hpost
      have HK3 := Lib.hid (HK2.out.trans hk)
      have hch : chooseL (freeN C D Z) th cp.toNat = some l := by rw [HFR.out]; exact HOO.out
      have HHD := Lib.hid (fun d hd => choose_head hch (d := d) hd)
      have HTI : Hid (∀ x ∈ takenL C Z l, PlaceIn x D Z) := Lib.hid (fun x hx => by
        have h := (taken_new hbd hch hx).1
        exact (mayB_in hbd).1 h)
      have hl8 : l.length ≤ 8 := by
        have hcs := choose_some hch
        have h1 : l.length ≤ (List.range D).length := List.Nodup.length_le_of_subset hcs.2.2.2.1 fun d hd => List.mem_range.2 (HHD.out d hd).1
        rw [List.length_range] at h1; omega
      obtain ⟨m, hm⟩ : ∃ m, l.length = m := ⟨_, rfl⟩
      have HM := Lib.hid hm
      obtain ⟨da, dc, rfl, -, -⟩ := hnr.1.form
      have HRD := Lib.hid hnr.1
      rw [hm] at HRD hl8
      rw [hm]
      have HP : Hid (∀ vo v' e w', e = .returned (.tuple #[vo, .int .i64 0]) → RefIs w' r v' D Z (canon (C ++ takenL C Z l)) → w'.ownsRow w.heap.size 50 2 vo m (adCells (takenL C Z l)) → (∀ i, v'.ownBlock = some i → w.heap.size ≤ i) → Keep (fun i => i = r) w w' → RTakePost w r D Z C th cp e w') := Lib.hid (fun vo v' e w' he h1 h2 h3 k => by unfold RTakePost; rw [HFR.out, HBB.out, if_pos rfl, HOO.out]; exact ⟨vo, v', he, h1, by rw [HM.out]; exact h2, h3, k⟩)
      clear hk hnr hch hm
      go_wp2_with fail
      go_loopw [10, 11] (fun t i wr => ∃ (k : Nat) (pa : Option Addr) (pc : Nat), k ≤ m ∧ t = .slice pa k pc ∧ i = .int .i64 k ∧ Hid (wr.ownsRow w3.heap.size 50 2 (.slice pa k pc) k (adCells (takenL C Z (l.take k)))) ∧ Hid (Keep noBlk w3 wr)) (fun _ i _ => m - (intOf i).toNat)
      case atStart => exact ⟨0, none, 0, Nat.zero_le _, rfl, rfl, Lib.hid (World.ownsRow_nil _ _ _ _), Lib.hid (Keep.refl _ _)⟩
      case round =>
      obtain ⟨k, pa, pc, hk, rfl, rfl, HO, HKw⟩ := hrel
      have HRD := Lib.hid (HRD.out.keep HKw.out fun _ _ => id)
      have HK := Lib.hid (HK3.out.trans HKw.out)
      by_cases hlt : k < m
      · have hki : (k : Int) < (m : Int) := by omega
        have hk0 : (0 : Int) ≤ (k : Int) := by omega
        obtain ⟨d, hd⟩ : ∃ d, l[k]? = some d := ⟨l[k]'(by rw [HM.out]; exact hlt), List.getElem?_eq_getElem _⟩
        have hrd := HRD.out
        rw [← HM.out] at hrd
        obtain ⟨p, po, cap', hv, hcx⟩ := rd_nat hrd hd
        rw [HM.out] at hv
        have e1 : da = some ⟨p, po, none⟩ := by cases hv; rfl
        subst e1
        obtain ⟨hdD, x, rest, hfx⟩ := HHD.out d (List.mem_of_getElem? hd)
        have HLS := Lib.hid (HLE.out wr HK.out d x rest hfx)
        have HTS : Hid (takenL C Z (l.take (k + 1)) = takenL C Z (l.take k) ++ [⟨(d : Int), x⟩]) := Lib.hid (by rw [List.take_add_one, hd]; show takenL C Z (l.take k ++ [d]) = _; rw [takenL_snoc, hfx]; rfl)
        clear hrd hv hd hfx
        go_wp2_with fail
        refine HLS.out.mono ?_
        rintro e w4 ⟨rfl, hk_⟩
        have HO := Lib.hid (hk_.owns HO.out fun _ _ => id)
        have HKw := Lib.hid (HKw.out.trans hk_)
        clear hk_
        obtain ⟨ac, hac⟩ : ∃ l, adCs ⟨(d : Int), x⟩ = l := ⟨_, rfl⟩
        have hal : ac.length = 2 := by rw [← hac]; rfl
        have HAO : Hid (∀ u ∈ ac, u.oneCell' = true) := Lib.hid (by rw [← hac]; exact oneCell_ad _)
        have HAC := Lib.hid hac
        rw [hac]
        clear hac
        go_wp2_with (first
          | ((with_reducible show wpList _ _ _ (⟨some 12, .alloc 50, _, _, _, _⟩ :: _) _ _); refine wpList_alloc_at rfl 50 rfl zeroAd zeroAddr #[.int .i64 0, .int .i64 0] rfl ?_)
          | ((with_reducible show wpList _ _ _ (⟨none, .store 50 (.tmp 12) (.tmp 35), _, _, _, _⟩ :: _) _ _); refine wpList_store_agg rfl 50 (.tmp 12) (.tmp 35) rfl w4.heap.size 0 ac rfl rfl #[.int .i64 0, .int .i64 0] _ (heap_alloc_new _ _) (by rw [hal]; exact Nat.le_refl _) (by rw [hal]; exact sizeAd) HAO.out ?_
             intro w5 hb5 hk5
             rw [spl_whole _ _ (by rw [hal]; rfl)] at hb5
             have hk6 : Keep noBlk w4 w5 := ((Keep.refl noBlk w4).alloc _).trans' hk5 (fun _ _ h => h) (fun i hi e => by omega)
             have HX5 := Lib.hid hb5
             have HO := Lib.hid (hk6.owns HO.out fun _ _ => id); have HKw := Lib.hid (HKw.out.trans hk6)
             have hs5 : w3.heap.size ≤ w5.heap.size := HKw.out.size
             obtain ⟨bx, hbx⟩ : ∃ b, w4.heap.size = b := ⟨_, rfl⟩
             rw [hbx] at HX5 ⊢
             clear hb5 hk5 hk6 hbx)
          | ((with_reducible show wpList _ _ _ (⟨_, .load 50 (.tmp 12), _, _, _, _⟩ :: _) _ _); refine wpList_load_mid rfl 50 (.tmp 12) rfl bx 0 rfl ac _ (rangeAt_whole HX5.out) adUnder rfl (by rw [hal]; exact sizeAd) ?_)
          | ((with_reducible show wpList _ _ _ (⟨_, .buildSlice _ 1 _, _, _, _, _⟩ :: _) _ _); refine wpList_build_one rfl 22 50 (.tmp 37) rfl Try.underlying22 infoAd (by decide) (ac) hal (by decide) rfl ?_
             have hkb : Keep noBlk w5 (w5.alloc (.cells (ac).toArray 50)) := (Keep.refl _ _).alloc _
             have HRN := Lib.hid (rd_blk (n := 1) (size := 2) (heap_alloc_new w5 (.cells (ac).toArray 50)) hal (by unfold maxLen; omega))
             have HKB := Lib.hid hkb
             have hsb : w5.heap.size ≤ (w5.alloc (.cells (ac).toArray 50)).heap.size := by rw [World.size_alloc]; omega
             obtain ⟨X_w6, hX_w6⟩ : ∃ s, w5.heap.size = s := ⟨_, rfl⟩
             rw [hX_w6] at HRN hsb ⊢
             have hsc_w6 : w5.heap.size ≤ X_w6 := Nat.le_of_eq hX_w6
             have HX_w6 := Lib.hid hX_w6; clear hX_w6
             generalize hW4 : w5.alloc (.cells (ac).toArray 50) = w6 at *
             clear hW4 hkb)
          | (have HO6 := Lib.hid (HKB.out.owns HO.out fun _ _ => id)
             (at_builtin; refine wpList_append_rd rfl (.tmp 36) (.tmp 38) 22 rfl w3.heap.size 50 zeroAd 2 16 Try.underlying22 infoAd rfl (by decide) (.slice pa k pc) (k) (adCells (takenL C Z (l.take k))) rfl HO6.out (.slice (some ⟨X_w6, 0, none⟩) 1 1) (1) (ac) rfl HRN.out HAO.out (by unfold maxLen; omega) (by omega) (by omega) ?_
              intro v' w7 ho5 hk5 hn5 hb5
              obtain ⟨g', cap', rfl⟩ := ownsRow_succ ho5
              have HO7 := Lib.hid ho5; have HK5 := Lib.hid hk5; have HB5 := Lib.hid hb5
              clear ho5 hk5 hn5 hb5)))
        have HK7 : Hid (Keep noBlk w3 w7) := Lib.hid ((HKw.out.trans HKB.out).trans' HK5.out (fun _ _ h => h) (fun i hi e => by have := owns_base HO6.out e; omega))
        go_roundw
        case rel => exact ⟨k + 1, _, cap', by omega, rfl, by go_num, Lib.hid (by rw [HTS.out, adCells_append, adCells_one, HAC.out]; exact HO7.out), HK7⟩
        case measure => simp [intOf]; omega
      · obtain rfl : m = k := by omega
        have hck : l.take m = l := List.take_of_length_le (by rw [HM.out]; exact Nat.le_refl _)
        have hown := HO.out
        rw [hck] at hown
        have HOW := Lib.hid hown
        have htl : (takenL C Z l).length = m := by rw [takenL_len, HM.out]
        have hrefw := HI.out.keep0 HK.out
        have hc2 := hrefw.c2
        have HUU := HUN.out wr HK.out (.slice pa m pc) (takenL C Z l) (by rw [htl]; exact Rd.of_owns hown) (by rw [htl]; omega)
        have HUU := Lib.hid HUU
        have HRW := Lib.hid hrefw
        clear hck hown hrefw htl
        go_wp2_with fail
        refine HUU.out.mono ?_
        rintro e w8 ⟨vu, rfl, hou, hku⟩
        obtain ⟨xa, xc, rfl, -, -⟩ := (Rd.of_owns hou).form
        have hrw := HRW.out.lt
        have hrw0 := HI.out.lt
        have hsz := HK.out.size
        have hset := HRW.out.set (C' := canon (C ++ takenL C Z l)) hku (Rd.of_owns hou) (fun e => by have := owns_base hou e; omega) (fun i hi => by obtain ⟨cur, hc⟩ := owns_block hou hi; exact lt_of_block hc) (canon_rises _) (canon_in fun x hx => (List.mem_append.1 hx).elim (HIN.out x) (HTI.out x))
        have hs3 := HK3.out.size
        have hown2 := ownsRow_mono (hset.2.owns (hku.owns HOW.out fun _ _ => id) (fun i hi e => by have := owns_base HOW.out hi; omega)) hs3
        have HFI := Lib.hid (HP.out (.slice pa m pc) _ (.returned (.tuple #[.slice pa m pc, .int .i64 0])) _ rfl hset.1 hown2 (fun i hi => Nat.le_trans hsz (owns_base hou hi)) ((HK.out.trans hku).trans' hset.2 (U := fun i => i = r) (fun _ _ h => h.elim) (fun i _ e => e)))
        have hc2 := (HRW.out.keep0 hku).c2
        have hf2 := blk_free (HRW.out.keep0 hku).blk 2
        clear hset hown2 hou hku hrw
        go_wp2_with fail
        go_ret2
        exact HFI.out
end Go.Proofs.Ytfjklgbakhjjiaa
