/-
  The document's sets: some, Minus, Both.
  Conditions: at most 65,536 addresses.
-/
import Derived.Test.YtfjklgbakhjjiaaRSortAddr
namespace Go.Proofs.Ytfjklgbakhjjiaa
open Go.RowKit Go.Maps Go.ChangeMaps
set_option maxRecDepth 100000
set_option linter.unusedVariables false

theorem owns_far {w : World} {base n c : Nat} {a : Option Addr} {xs : List Value} (h : w.ownsRow base 50 2 (.slice a n c) n xs) {k : Nat} (hb : (Value.slice a n c).ownBlock = some k) : base ≤ k := owns_base h hb

set_option maxHeartbeats 4000000 in
theorem some_any (w : World) (v vb : Value) (xs ys : List Ad) (inn : Bool) (hr : Rd w 2 v xs.length (adCells xs)) (hrb : Rd w 2 vb ys.length (adCells ys)) (hl : xs.length ≤ 65536) : Calls Try.prog 82 #[v, vb, .bool inn] w (ListPost w (canon (xs.filter fun x => decide (x ∈ ys) == inn))) := by
  obtain ⟨ob, cb, rfl, -, -⟩ := hrb.form
  obtain ⟨mb, hmb⟩ : ∃ n, ys.length = n := ⟨_, rfl⟩
  have HMB := Lib.hid hmb
  have HRB := Lib.hid hrb
  rw [hmb] at HRB ⊢
  clear hrb hmb
  obtain ⟨oa, ca, rfl, -, hmm⟩ := hr.form
  have hmx_n : xs.length ≤ maxLen := by have h := hr.2; obtain ⟨a', cap', h1, h2, h3, -⟩ := h; omega
  unfold maxLen at hmx_n
  clear hmm
  have HR := Lib.hid hr
  obtain ⟨n, hn_n⟩ : ∃ n, xs.length = n := ⟨_, rfl⟩
  have HN := Lib.hid hn_n
  rw [hn_n] at HR hmx_n
  try rw [hn_n]
  clear hr hn_n
  have hn20 : n ≤ 65536 := by rw [← HN.out]; exact hl
  have HKW := Lib.hid (Keep.refl noBlk w)
  go_enter Try.func82, Try.ntmps82
  go_wp2_with fail
  go_loopw [7, 8] (fun t i wr => ∃ (k m : Nat) (pa : Option Addr) (pc : Nat), k ≤ n ∧ m ≤ k ∧ i = .int .i64 k ∧ t = .slice pa m pc ∧ Hid (((xs.take k).filter (fun x => decide (x ∈ ys) == inn)).length = m) ∧ Hid (wr.ownsRow w.heap.size 50 2 (.slice pa m pc) m (adCells ((xs.take k).filter (fun x => decide (x ∈ ys) == inn)))) ∧ Hid (Keep noBlk w wr)) (fun _ i _ => n - (intOf i).toNat)
  case atStart => exact ⟨0, 0, none, 0, Nat.zero_le _, Nat.le_refl _, rfl, rfl, Lib.hid rfl, Lib.hid (World.ownsRow_nil _ _ _ _), Lib.hid (Keep.refl _ _)⟩
  case round =>
  obtain ⟨k, m, pa, pc, hk, hmk, rfl, rfl, HM, HO, HKA⟩ := hrel
  by_cases hlt : k < n
  · have HR := Lib.hid (HR.out.keep HKA.out fun _ _ => id)
    have HRB := Lib.hid (HRB.out.keep HKA.out fun _ _ => id)
    have HKW := Lib.hid (HKW.out.trans HKA.out)
    have HKZ := Lib.hid HKA.out
    have hsz := HKA.out.size
    have hsw := HKW.out.size
    obtain ⟨x, h_x⟩ : ∃ x, xs[k]? = some x := ⟨xs[k]'(by rw [HN.out]; exact hlt), List.getElem?_eq_getElem _⟩
    have h_r := HR.out
    rw [← HN.out] at h_r
    obtain ⟨g, o, cap', h_v, h_at⟩ := rd_ad h_r h_x
    have e1 : oa = some ⟨g, o, none⟩ := by cases h_v; rfl
    subst e1
    have HX := Lib.hid h_at; have HE := Lib.hid h_x
    clear h_x h_r h_v h_at
    have HTX : Hid (xs.take (k + 1) = xs.take k ++ [x]) := Lib.hid (by rw [List.take_add_one, HE.out]; rfl)
    obtain ⟨bq, hbq⟩ : ∃ b, (fun x => decide (x ∈ ys) == inn) x = b := ⟨_, rfl⟩
    have HF : Hid ((xs.take (k + 1)).filter (fun x => decide (x ∈ ys) == inn) = (xs.take k).filter (fun x => decide (x ∈ ys) == inn) ++ if bq then [x] else []) := Lib.hid (by rw [HTX.out, List.filter_append, ← hbq]; simp only [List.filter_cons, List.filter_nil])
    have HBQ := Lib.hid hbq
    have hki : (k : Int) < (n : Int) := by omega
    have hk0 : (0 : Int) ≤ (k : Int) := by omega
    clear hbq
    have CH := Lib.hid (fun w0 (h : Rd w0 2 (.slice ob mb cb) mb (adCells ys)) => (rhas_any w0 (.slice ob mb cb) ys x (by rw [HMB.out]; exact h)))
    obtain ⟨hb, hhb⟩ : ∃ b, decide (x ∈ ys) = b := ⟨_, rfl⟩
    rw [hhb] at CH
    have he : ∀ w, (binOp .eql 4 (.bool hb) (.bool inn)).run Try.prog w = .ok (.bool bq) w := by
      have h1 : (hb == inn) = bq := by rw [← hhb]; exact HBQ.out
      rw [← h1]
      intro w
      cases hb <;> cases inn <;> kernel_rfl
    clear hhb
    go_wp2_with (first
      | ((with_reducible show wpList _ _ _ (⟨_, .load 50 (.tmp 18), _, _, _, _⟩ :: _) _ _); refine wpList_load_mid rfl 50 (.tmp 18) rfl g (o + k * 2) rfl (adCs x) _ HX.out adUnder rfl sizeAd ?_))
    refine (CH.out _ HRB.out).mono ?_
    rintro e w1 ⟨rfl, hk⟩
    have HR := Lib.hid (HR.out.keep hk fun _ _ => id)
    have HRB := Lib.hid (HRB.out.keep hk fun _ _ => id)
    have HKW := Lib.hid (HKW.out.trans hk)
    have HKZ := Lib.hid (HKZ.out.trans hk)
    have HX := Lib.hid (hk.rangeAt HX.out)
    have HO := Lib.hid (hk.owns HO.out fun _ _ => id)
    clear hk
    clear CH
    cases bq
    · rw [if_neg (by decide), List.append_nil] at HF
      go_wp2_with fail
      go_roundw
      case rel => exact ⟨k + 1, m, _, _, by omega, by omega, by go_num, rfl, Lib.hid (by rw [HF.out]; exact HM.out), Lib.hid (by rw [HF.out]; exact HO.out), HKZ⟩
      case measure => simp [intOf]; omega
    · rw [if_pos rfl] at HF
      have hsx := HKZ.out.size
      go_wp2_with (first
        | ((with_reducible show wpList _ _ _ (⟨_, .load 50 (.tmp 26), _, _, _, _⟩ :: _) _ _); refine wpList_load_mid rfl 50 (.tmp 26) rfl g (o + k * 2) rfl (adCs x) _ HX.out adUnder rfl sizeAd ?_)
        | ((with_reducible show wpList _ _ _ (⟨_, .buildSlice _ 1 _, _, _, _, _⟩ :: _) _ _); refine wpList_build_one rfl 22 50 (.tmp 27) rfl Try.underlying22 infoAd (by decide) (adCs x) rfl (by decide) rfl ?_
           have hkb : Keep noBlk w1 (w1.alloc (.cells (adCs x).toArray 50)) := (Keep.refl _ _).alloc _
           have HRN := Lib.hid (rd_blk (n := 1) (size := 2) (heap_alloc_new w1 (.cells (adCs x).toArray 50)) rfl (by unfold maxLen; omega))
           have HO := Lib.hid (hkb.owns HO.out fun _ _ => id)
           have HKB := Lib.hid hkb
           have hsb : w1.heap.size ≤ (w1.alloc (.cells (adCs x).toArray 50)).heap.size := by rw [World.size_alloc]; omega
           obtain ⟨X_w8, hX_w8⟩ : ∃ s, w1.heap.size = s := ⟨_, rfl⟩
           rw [hX_w8] at HRN hsb ⊢
           have hsc_w8 : w1.heap.size ≤ X_w8 := Nat.le_of_eq hX_w8
           have HX_w8 := Lib.hid hX_w8; clear hX_w8
           generalize hW4 : w1.alloc (.cells (adCs x).toArray 50) = w8 at *
           clear hW4 hkb)
        | (at_builtin; refine wpList_append_rd rfl (.tmp 23) (.tmp 28) 22 rfl w.heap.size 50 zeroAd 2 16 Try.underlying22 infoAd rfl (by decide) (.slice pa m pc) (m) (adCells ((xs.take k).filter (fun x => decide (x ∈ ys) == inn))) rfl HO.out (.slice (some ⟨X_w8, 0, none⟩) 1 1) (1) (adCs x) rfl HRN.out (oneCell_ad _) (by unfold maxLen; omega) (by omega) (by omega) ?_
           intro v' w9 ho5 hk5 hn5 hb5
           obtain ⟨g', cap', rfl⟩ := ownsRow_succ ho5
           have HO5 := Lib.hid ho5; have HK5 := Lib.hid hk5; have HB5 := Lib.hid hb5
           clear ho5 hk5 hn5 hb5))
      have HKE := Lib.hid ((HKZ.out.trans HKB.out).trans' HK5.out (U := noBlk) (fun _ _ h => h) (fun i hi e => by have := owns_far HO.out e; omega))
      have HOE := HO5.out
      rw [← adCells_one, ← adCells_append] at HOE
      have HOE := Lib.hid HOE
      clear HKB HK5 HB5 HRN HO5 HX_w8
      go_roundw
      case rel => exact ⟨k + 1, m + 1, _, _, by omega, by omega, by go_num, rfl, Lib.hid (by rw [HF.out, List.length_append, HM.out]; rfl), Lib.hid (by rw [HF.out]; exact HOE.out), HKE⟩
      case measure => simp [intOf]; omega
  · obtain rfl : k = n := by omega
    have htk : xs.take k = xs := List.take_of_length_le (by rw [HN.out]; exact Nat.le_refl _)
    rw [htk] at HM HO
    have C := Lib.hid (rsort_any wr (.slice pa m pc) (xs.filter (fun x => decide (x ∈ ys) == inn)) (by rw [HM.out]; exact Rd.of_owns HO.out) (by rw [HM.out]; omega))
    have HKZ := Lib.hid (HKW.out.trans HKA.out)
    have hsz := HKZ.out.size
    go_wp2_with fail
    refine C.out.mono ?_
    rintro e wf ⟨v, rfl, ho, hk2⟩
    obtain ⟨va, vc, rfl, -, -⟩ := (Rd.of_owns ho).form
    have HOF := Lib.hid (ownsRow_mono ho hsz); have HKF := Lib.hid (HKZ.out.trans hk2)
    clear ho hk2 C hsz
    go_wp2_with fail
    go_ret
    exact ⟨_, rfl, HOF.out, HKF.out⟩
set_option maxHeartbeats 2000000 in
theorem rminus_any (w : World) (v vb : Value) (xs ys : List Ad) (hr : Rd w 2 v xs.length (adCells xs)) (hrb : Rd w 2 vb ys.length (adCells ys)) (hl : xs.length ≤ 65536) : Calls Try.prog 69 #[v, vb] w (ListPost w (canon (xs.filter fun x => !decide (x ∈ ys)))) := by
  have C := some_any w v vb xs ys false hr hrb hl
  have e : (xs.filter fun x => decide (x ∈ ys) == false) = xs.filter fun x => !decide (x ∈ ys) := by
    congr 1
    funext x
    cases decide (x ∈ ys) <;> rfl
  rw [e] at C
  have C := Lib.hid C
  obtain ⟨U, hU⟩ : ∃ U, canon (xs.filter fun x => !decide (x ∈ ys)) = U := ⟨_, rfl⟩
  rw [hU] at C ⊢
  obtain ⟨oa, ca, rfl, -, -⟩ := hr.form
  obtain ⟨ob, cb, rfl, -, -⟩ := hrb.form
  obtain ⟨n, hn⟩ : ∃ n, xs.length = n := ⟨_, rfl⟩
  obtain ⟨m, hm⟩ : ∃ n, ys.length = n := ⟨_, rfl⟩
  rw [hn, hm] at C ⊢
  clear hr hrb hn hm hl e hU
  go_enter Try.func69, Try.ntmps69
  go_wp2_with fail
  refine C.out.mono ?_
  rintro e wf ⟨v, rfl, ho, hk2⟩
  obtain ⟨va, vc, rfl, -, -⟩ := (Rd.of_owns ho).form
  have HOF := Lib.hid ho; have HKF := Lib.hid hk2
  clear ho hk2 C
  go_wp2_with fail
  go_ret
  exact ⟨_, rfl, HOF.out, HKF.out⟩

set_option maxHeartbeats 2000000 in
theorem rboth_any (w : World) (v vb : Value) (xs ys : List Ad) (hr : Rd w 2 v xs.length (adCells xs)) (hrb : Rd w 2 vb ys.length (adCells ys)) (hl : xs.length ≤ 65536) : Calls Try.prog 81 #[v, vb] w (ListPost w (canon (xs.filter fun x => decide (x ∈ ys)))) := by
  have C := some_any w v vb xs ys true hr hrb hl
  have e : (xs.filter fun x => decide (x ∈ ys) == true) = xs.filter fun x => decide (x ∈ ys) := by
    congr 1
    funext x
    cases decide (x ∈ ys) <;> rfl
  rw [e] at C
  have C := Lib.hid C
  obtain ⟨U, hU⟩ : ∃ U, canon (xs.filter fun x => decide (x ∈ ys)) = U := ⟨_, rfl⟩
  rw [hU] at C ⊢
  obtain ⟨oa, ca, rfl, -, -⟩ := hr.form
  obtain ⟨ob, cb, rfl, -, -⟩ := hrb.form
  obtain ⟨n, hn⟩ : ∃ n, xs.length = n := ⟨_, rfl⟩
  obtain ⟨m, hm⟩ : ∃ n, ys.length = n := ⟨_, rfl⟩
  rw [hn, hm] at C ⊢
  clear hr hrb hn hm hl e hU
  go_enter Try.func81, Try.ntmps81
  go_wp2_with fail
  refine C.out.mono ?_
  rintro e wf ⟨v, rfl, ho, hk2⟩
  obtain ⟨va, vc, rfl, -, -⟩ := (Rd.of_owns ho).form
  have HOF := Lib.hid ho; have HKF := Lib.hid hk2
  clear ho hk2 C
  go_wp2_with fail
  go_ret
  exact ⟨_, rfl, HOF.out, HKF.out⟩

set_option maxHeartbeats 4000000 in
theorem ron_any (w : World) (v : Value) (xs : List Ad) (d : Int) (hr : Rd w 2 v xs.length (adCells xs)) (hl : xs.length ≤ 65536) : Calls Try.prog 50 #[v, .int .i64 d] w (ListPost w (canon (xs.filter fun x => decide (x.dev = d)))) := by
  obtain ⟨oa, ca, rfl, -, hmm⟩ := hr.form
  have hmx_n : xs.length ≤ maxLen := by have h := hr.2; obtain ⟨a', cap', h1, h2, h3, -⟩ := h; omega
  unfold maxLen at hmx_n
  clear hmm
  have HR := Lib.hid hr
  obtain ⟨n, hn_n⟩ : ∃ n, xs.length = n := ⟨_, rfl⟩
  have HN := Lib.hid hn_n
  rw [hn_n] at HR hmx_n
  try rw [hn_n]
  clear hr hn_n
  have hn20 : n ≤ 65536 := by rw [← HN.out]; exact hl
  have HKW := Lib.hid (Keep.refl noBlk w)
  go_enter Try.func50, Try.ntmps50
  go_wp2_with fail
  go_loopw [5, 6] (fun t i wr => ∃ (k m : Nat) (pa : Option Addr) (pc : Nat), k ≤ n ∧ m ≤ k ∧ i = .int .i64 k ∧ t = .slice pa m pc ∧ Hid (((xs.take k).filter (fun x => decide (x.dev = d))).length = m) ∧ Hid (wr.ownsRow w.heap.size 50 2 (.slice pa m pc) m (adCells ((xs.take k).filter (fun x => decide (x.dev = d))))) ∧ Hid (Keep noBlk w wr)) (fun _ i _ => n - (intOf i).toNat)
  case atStart => exact ⟨0, 0, none, 0, Nat.zero_le _, Nat.le_refl _, rfl, rfl, Lib.hid rfl, Lib.hid (World.ownsRow_nil _ _ _ _), Lib.hid (Keep.refl _ _)⟩
  case round =>
  obtain ⟨k, m, pa, pc, hk, hmk, rfl, rfl, HM, HO, HKA⟩ := hrel
  by_cases hlt : k < n
  · have HR := Lib.hid (HR.out.keep HKA.out fun _ _ => id)
    have HKW := Lib.hid (HKW.out.trans HKA.out)
    have HKZ := Lib.hid HKA.out
    have hsz := HKA.out.size
    have hsw := HKW.out.size
    obtain ⟨x, h_x⟩ : ∃ x, xs[k]? = some x := ⟨xs[k]'(by rw [HN.out]; exact hlt), List.getElem?_eq_getElem _⟩
    have h_r := HR.out
    rw [← HN.out] at h_r
    obtain ⟨g, o, cap', h_v, h_at⟩ := rd_ad h_r h_x
    have e1 : oa = some ⟨g, o, none⟩ := by cases h_v; rfl
    subst e1
    have HX := Lib.hid h_at; have HE := Lib.hid h_x
    clear h_x h_r h_v h_at
    have HTX : Hid (xs.take (k + 1) = xs.take k ++ [x]) := Lib.hid (by rw [List.take_add_one, HE.out]; rfl)
    obtain ⟨bq, hbq⟩ : ∃ b, (fun x => decide (x.dev = d)) x = b := ⟨_, rfl⟩
    have HF : Hid ((xs.take (k + 1)).filter (fun x => decide (x.dev = d)) = (xs.take k).filter (fun x => decide (x.dev = d)) ++ if bq then [x] else []) := Lib.hid (by rw [HTX.out, List.filter_append, ← hbq]; simp only [List.filter_cons, List.filter_nil])
    have HBQ := Lib.hid hbq
    have hki : (k : Int) < (n : Int) := by omega
    have hk0 : (0 : Int) ≤ (k : Int) := by omega
    clear hbq
    have hc0 : wr.cell? ⟨g, o + k * 2, none⟩ = some (.int .i64 x.dev) := HX.out 0 _ rfl
    have he : decide (x.dev = d) = bq := HBQ.out
    obtain ⟨xd, hxd⟩ : ∃ n, x.dev = n := ⟨_, rfl⟩
    rw [hxd] at hc0 he
    have HEB := Lib.hid he
    clear hxd he
    cases bq
    · have hne : ¬ xd = d := of_decide_eq_false HEB.out
      have hnd : decide (xd = d) = false := HEB.out
      rw [if_neg (by decide), List.append_nil] at HF
      go_wp2_with fail
      go_roundw
      case rel => exact ⟨k + 1, m, _, _, by omega, by omega, by go_num, rfl, Lib.hid (by rw [HF.out]; exact HM.out), Lib.hid (by rw [HF.out]; exact HO.out), HKZ⟩
      case measure => simp [intOf]; omega
    · obtain rfl : d = xd := (of_decide_eq_true HEB.out).symm
      rw [if_pos rfl] at HF
      have hsx := HKZ.out.size
      go_wp2_with (first
        | ((with_reducible show wpList _ _ _ (⟨_, .load 50 (.tmp 23), _, _, _, _⟩ :: _) _ _); refine wpList_load_mid rfl 50 (.tmp 23) rfl g (o + k * 2) rfl (adCs x) _ HX.out adUnder rfl sizeAd ?_)
        | ((with_reducible show wpList _ _ _ (⟨_, .buildSlice _ 1 _, _, _, _, _⟩ :: _) _ _); refine wpList_build_one rfl 22 50 (.tmp 24) rfl Try.underlying22 infoAd (by decide) (adCs x) rfl (by decide) rfl ?_
           have hkb : Keep noBlk wr (wr.alloc (.cells (adCs x).toArray 50)) := (Keep.refl _ _).alloc _
           have HRN := Lib.hid (rd_blk (n := 1) (size := 2) (heap_alloc_new wr (.cells (adCs x).toArray 50)) rfl (by unfold maxLen; omega))
           have HO := Lib.hid (hkb.owns HO.out fun _ _ => id)
           have HKB := Lib.hid hkb
           have hsb : wr.heap.size ≤ (wr.alloc (.cells (adCs x).toArray 50)).heap.size := by rw [World.size_alloc]; omega
           obtain ⟨X_w8, hX_w8⟩ : ∃ s, wr.heap.size = s := ⟨_, rfl⟩
           rw [hX_w8] at HRN hsb ⊢
           have hsc_w8 : wr.heap.size ≤ X_w8 := Nat.le_of_eq hX_w8
           have HX_w8 := Lib.hid hX_w8; clear hX_w8
           generalize hW4 : wr.alloc (.cells (adCs x).toArray 50) = w8 at *
           clear hW4 hkb)
        | (at_builtin; refine wpList_append_rd rfl (.tmp 20) (.tmp 25) 22 rfl w.heap.size 50 zeroAd 2 16 Try.underlying22 infoAd rfl (by decide) (.slice pa m pc) (m) (adCells ((xs.take k).filter (fun x => decide (x.dev = d)))) rfl HO.out (.slice (some ⟨X_w8, 0, none⟩) 1 1) (1) (adCs x) rfl HRN.out (oneCell_ad _) (by unfold maxLen; omega) (by omega) (by omega) ?_
           intro v' w9 ho5 hk5 hn5 hb5
           obtain ⟨g', cap', rfl⟩ := ownsRow_succ ho5
           have HO5 := Lib.hid ho5; have HK5 := Lib.hid hk5; have HB5 := Lib.hid hb5
           clear ho5 hk5 hn5 hb5))
      have HKE := Lib.hid ((HKZ.out.trans HKB.out).trans' HK5.out (U := noBlk) (fun _ _ h => h) (fun i hi e => by have := owns_far HO.out e; omega))
      have HOE := HO5.out
      rw [← adCells_one, ← adCells_append] at HOE
      have HOE := Lib.hid HOE
      clear HKB HK5 HB5 HRN HO5 HX_w8
      go_roundw
      case rel => exact ⟨k + 1, m + 1, _, _, by omega, by omega, by go_num, rfl, Lib.hid (by rw [HF.out, List.length_append, HM.out]; rfl), Lib.hid (by rw [HF.out]; exact HOE.out), HKE⟩
      case measure => simp [intOf]; omega
  · obtain rfl : k = n := by omega
    have htk : xs.take k = xs := List.take_of_length_le (by rw [HN.out]; exact Nat.le_refl _)
    rw [htk] at HM HO
    have C := Lib.hid (rsort_any wr (.slice pa m pc) (xs.filter (fun x => decide (x.dev = d))) (by rw [HM.out]; exact Rd.of_owns HO.out) (by rw [HM.out]; omega))
    have HKZ := Lib.hid (HKW.out.trans HKA.out)
    have hsz := HKZ.out.size
    go_wp2_with fail
    refine C.out.mono ?_
    rintro e wf ⟨v, rfl, ho, hk2⟩
    obtain ⟨va, vc, rfl, -, -⟩ := (Rd.of_owns ho).form
    have HOF := Lib.hid (ownsRow_mono ho hsz); have HKF := Lib.hid (HKZ.out.trans hk2)
    clear ho hk2 C hsz
    go_wp2_with fail
    go_ret
    exact ⟨_, rfl, HOF.out, HKF.out⟩
set_option maxHeartbeats 4000000 in
theorem runion_any (w : World) (v vb : Value) (xs ys : List Ad) (hr : Rd w 2 v xs.length (adCells xs)) (hrb : Rd w 2 vb ys.length (adCells ys)) (hl : xs.length + ys.length ≤ 65536) : Calls Try.prog 67 #[v, vb] w (ListPost w (canon (xs ++ ys))) := by
  obtain ⟨U, hU⟩ : ∃ U, canon (xs ++ ys) = U := ⟨_, rfl⟩
  have C := fun w v (h : Rd w 2 v (xs ++ ys).length (adCells (xs ++ ys))) => rsort_any w v (xs ++ ys) h (by rw [List.length_append]; exact hl)
  rw [hU] at C ⊢
  have C := Lib.hid C
  clear hU
  obtain ⟨oa, ca, rfl, -, hmm⟩ := hr.form
  have hmx_n : xs.length ≤ maxLen := by have h := hr.2; obtain ⟨a', cap', h1, h2, h3, -⟩ := h; omega
  unfold maxLen at hmx_n
  clear hmm
  have HR := Lib.hid hr
  obtain ⟨n, hn_n⟩ : ∃ n, xs.length = n := ⟨_, rfl⟩
  have HN := Lib.hid hn_n
  rw [hn_n] at HR hmx_n
  try rw [hn_n]
  clear hr hn_n
  obtain ⟨ob, cb, rfl, -, hmm⟩ := hrb.form
  have hmx_m : ys.length ≤ maxLen := by have h := hrb.2; obtain ⟨a', cap', h1, h2, h3, -⟩ := h; omega
  unfold maxLen at hmx_m
  clear hmm
  have HRB := Lib.hid hrb
  obtain ⟨m, hn_m⟩ : ∃ n, ys.length = n := ⟨_, rfl⟩
  have HM := Lib.hid hn_m
  rw [hn_m] at HRB hmx_m
  try rw [hn_m]
  clear hrb hn_m
  have hnm : n + m ≤ 65536 := by rw [← HN.out, ← HM.out]; exact hl
  obtain ⟨w0, hw0, hk0, hb0, hs0⟩ := alloc_facts w #[] 50
  have HO0 : Hid (w0.ownsRow w.heap.size 50 2 (.slice (some ⟨w.heap.size, 0, none⟩) 0 0) 0 []) := Lib.hid (by rw [← hw0]; exact World.ownsRow_made w #[] 0 (Nat.le_refl _) (by unfold maxLen; omega) rfl)
  have HR0 := Lib.hid (HR.out.keep hk0 fun _ _ => id); have HRB0 := Lib.hid (HRB.out.keep hk0 fun _ _ => id)
  have HK0 := Lib.hid hk0
  have hsw : w.heap.size < w0.heap.size := by omega
  clear hk0 hb0 hs0
  go_enter Try.func67, Try.ntmps67
  go_wp2_with (first
    | (at_builtin; refine wpList_append_rd rfl (.tmp 5) (.tmp 6) 22 rfl w.heap.size 50 zeroAd 2 16 Try.underlying22 infoAd rfl (by decide) (.slice (some ⟨w.heap.size, 0, none⟩) 0 0) 0 ([]) rfl HO0.out (.slice oa n ca) n (adCells xs) rfl HR0.out (oneCell_ads _) (by unfold maxLen; omega) (by omega) (by omega) ?_
       intro v' w1 ho5 hk5 hn5 hb5
       obtain ⟨H1a, H1c, rfl, -, -⟩ := (Rd.of_owns ho5).form
       rw [Nat.zero_add, List.nil_append] at ho5
       have H1 := Lib.hid ho5
       have KH1 := Lib.hid hk5
       have hkz := (HK0.out.trans' hk5 (U := noBlk) (fun _ _ h => h) (fun i hi e => by have e' : w.heap.size = i := Option.some.inj e; omega))
       have HRB1 := Lib.hid (HRB.out.keep hkz fun _ _ => id); have HKZ := Lib.hid hkz
       clear hkz
       have hsH1 := hk5.size
       clear ho5 hk5 hn5 hb5)
    | (at_builtin; refine wpList_append_rd rfl (.tmp 7) (.tmp 8) 22 rfl w.heap.size 50 zeroAd 2 16 Try.underlying22 infoAd rfl (by decide) (.slice H1a n H1c) n (adCells xs) rfl H1.out (.slice ob m cb) m (adCells ys) rfl HRB1.out (oneCell_ads _) (by unfold maxLen; omega) (by omega) (by omega) ?_
       intro v' w2 ho5 hk5 hn5 hb5
       obtain ⟨H2a, H2c, rfl, -, -⟩ := (Rd.of_owns ho5).form
       rw [← adCells_append] at ho5
       have H2 := Lib.hid ho5
       have KH2 := Lib.hid hk5
       have hsH2 := hk5.size
       clear ho5 hk5 hn5 hb5))
  have HKY := Lib.hid (HKZ.out.trans' KH2.out (U := noBlk) (fun _ _ h => h) (fun i hi e => by have := owns_far H1.out e; omega))
  have hsy := HKY.out.size
  refine (C.out w2 _ (by rw [List.length_append, HN.out, HM.out]; exact Rd.of_owns H2.out)).mono ?_
  rintro e wf ⟨v, rfl, ho, hk2⟩
  obtain ⟨va, vc, rfl, -, -⟩ := (Rd.of_owns ho).form
  have HOF := Lib.hid (ownsRow_mono ho hsy); have HKF := Lib.hid (HKY.out.trans hk2)
  clear ho hk2 C
  go_wp2_with fail
  go_ret
  exact ⟨_, rfl, HOF.out, HKF.out⟩
set_option maxHeartbeats 4000000 in
theorem copyAddrs_any (w : World) (v : Value) (xs : List Ad) (hr : Rd w 2 v xs.length (adCells xs)) (hl : xs.length ≤ 65536) : Calls Try.prog 10 #[v] w (ListPost w xs) := by
  obtain ⟨oa, ca, rfl, -, hmm⟩ := hr.form
  have hmx_n : xs.length ≤ maxLen := by have h := hr.2; obtain ⟨a', cap', h1, h2, h3, -⟩ := h; omega
  unfold maxLen at hmx_n
  clear hmm
  have HR := Lib.hid hr
  obtain ⟨n, hn_n⟩ : ∃ n, xs.length = n := ⟨_, rfl⟩
  have HN := Lib.hid hn_n
  rw [hn_n] at HR hmx_n
  try rw [hn_n]
  clear hr hn_n
  have hnm : n ≤ 65536 := by rw [← HN.out]; exact hl
  obtain ⟨w0, hw0, hk0, hb0, hs0⟩ := alloc_facts w #[] 50
  have HO0 : Hid (w0.ownsRow w.heap.size 50 2 (.slice (some ⟨w.heap.size, 0, none⟩) 0 0) 0 []) := Lib.hid (by rw [← hw0]; exact World.ownsRow_made w #[] 0 (Nat.le_refl _) (by unfold maxLen; omega) rfl)
  have HR0 := Lib.hid (HR.out.keep hk0 fun _ _ => id)
  have HK0 := Lib.hid hk0
  have hsw : w.heap.size < w0.heap.size := by omega
  clear hk0 hb0 hs0
  go_enter Try.func10, Try.ntmps10
  go_wp2_with (first
    | (at_builtin; refine wpList_append_rd rfl (.tmp 3) (.tmp 4) 22 rfl w.heap.size 50 zeroAd 2 16 Try.underlying22 infoAd rfl (by decide) (.slice (some ⟨w.heap.size, 0, none⟩) 0 0) 0 ([]) rfl HO0.out (.slice oa n ca) n (adCells xs) rfl HR0.out (oneCell_ads _) (by unfold maxLen; omega) (by omega) (by omega) ?_
       intro v' w1 ho5 hk5 hn5 hb5
       obtain ⟨H1a, H1c, rfl, -, -⟩ := (Rd.of_owns ho5).form
       rw [Nat.zero_add, List.nil_append] at ho5
       have H1 := Lib.hid ho5
       have KH1 := Lib.hid hk5
       have hsH1 := hk5.size
       clear ho5 hk5 hn5 hb5))
  have HKY := Lib.hid (HK0.out.trans' KH1.out (U := noBlk) (fun _ _ h => h) (fun i hi e => by have e' : w.heap.size = i := Option.some.inj e; omega))
  go_ret
  exact ⟨_, rfl, by rw [HN.out]; exact H1.out, HKY.out⟩
end Go.Proofs.Ytfjklgbakhjjiaa
