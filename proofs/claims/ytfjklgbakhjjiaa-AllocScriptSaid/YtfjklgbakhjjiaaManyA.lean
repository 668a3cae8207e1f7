/-
  slices.Clone, place.Many, Room.
  Conditions: none but those told.
-/
import Derived.Test.YtfjklgbakhjjiaaLedC
namespace Go.Proofs.Ytfjklgbakhjjiaa
open Go.RowKit Go.Maps Go.ChangeMaps
set_option maxRecDepth 100000
set_option linter.unusedVariables false

/-- A row of numbers, of its own, in block g. -/
def IRow (w : World) (base g cap : Nat) (l : List Int) : Prop := base ≤ g ∧ l.length ≤ cap ∧ cap ≤ maxLen ∧ ∃ cur : Array Value, w.heap[g]? = some (.cells cur 3 (0, 0)) ∧ cur.size = cap ∧ cur.toList.take l.length = l.map fun x => Value.int .i64 x
theorem IRow.keep {T : Nat → Prop} {w w' : World} {base g cap : Nat} {l : List Int} (h : IRow w base g cap l) (k : Keep T w w') (hT : ¬ T g) : IRow w' base g cap l := by
  obtain ⟨h1, h2, h3, cur, h4, h5⟩ := h
  exact ⟨h1, h2, h3, cur, k.blk h4 hT, h5⟩
theorem IRow.lt {w : World} {base g cap : Nat} {l : List Int} (h : IRow w base g cap l) : g < w.heap.size := by
  obtain ⟨h1, h2, h3, cur, h4, h5⟩ := h
  exact (Array.getElem?_eq_some_iff.1 h4).1
theorem IRow.cell {w : World} {base g cap : Nat} {l : List Int} (h : IRow w base g cap l) {k : Nat} {x : Int} (hk : l[k]? = some x) : w.cell? ⟨g, k, none⟩ = some (.int .i64 x) := by
  obtain ⟨h1, h2, h3, cur, h4, h5, h6⟩ := h
  have hl := (List.getElem?_eq_some_iff.1 hk).1
  refine blk_cell h4 ?_
  have h7 : (cur.toList.take l.length)[k]? = some (.int .i64 x) := by
    rw [h6, List.getElem?_map, hk]
    rfl
  rw [List.getElem?_take, if_pos hl] at h7
  simpa using h7
theorem IRow.free {w : World} {base g cap : Nat} {l : List Int} (h : IRow w base g cap l) (k : Nat) : w.frozen? ⟨g, k, none⟩ = false := by
  obtain ⟨h1, h2, h3, cur, h4, h5, h6⟩ := h
  exact blk_free h4 k
theorem IRow.set {w : World} {base g cap : Nat} {l : List Int} (h : IRow w base g cap l) {k : Nat} (x : Int) : IRow (w.setCell ⟨g, k, none⟩ (.int .i64 x)) base g cap (l.set k x) ∧ Keep (fun i => i = g) w (w.setCell ⟨g, k, none⟩ (.int .i64 x)) := by
  obtain ⟨h1, h2, h3, cur, h4, h5, h6⟩ := h
  refine ⟨⟨h1, by rw [List.length_set]; exact h2, h3, _, set_blk h4 k _, by rw [Array.size_setIfInBounds]; exact h5, ?_⟩, (Keep.refl (fun i => i = g) w).setCell (p := ⟨g, k, none⟩) (fun _ => rfl) _⟩
  rw [List.length_set, Array.toList_setIfInBounds, List.take_set, h6, List.map_set]
theorem IRow.rd {w : World} {base g cap : Nat} {l : List Int} (h : IRow w base g cap l) : Rd w 1 (.slice (some ⟨g, 0, none⟩) l.length cap) l.length (l.map fun x => .int .i64 x) := by
  obtain ⟨h1, h2, h3, cur, h4, h5, h6⟩ := h
  refine ⟨by simp, some ⟨g, 0, none⟩, cap, rfl, h2, h3, (by intro e; cases e), fun _ => ⟨g, 0, rfl, fun i u hu => ?_⟩⟩
  refine blk_cell h4 ?_
  have hl : i < l.length := by have := (List.getElem?_eq_some_iff.1 hu).1; simpa using this
  rw [← h6, List.getElem?_take, if_pos hl] at hu
  simpa using hu
theorem IRow.of_owns {w : World} {base m pc : Nat} {pa : Option Addr} {l : List Int} (h : w.ownsRow base 3 1 (.slice pa m pc) m (l.map fun x => .int .i64 x)) (hm : 0 < m) (hl : l.length = m) : ∃ g, pa = some ⟨g, 0, none⟩ ∧ IRow w base g pc l := by
  rcases h.2 with ⟨h1, -⟩ | ⟨g, cap, cur, h1, h2, h3, h4, h5, h6, h7⟩
  · cases h1; omega
  · cases h1
    exact ⟨g, rfl, h2, by omega, h5, cur, h3, by omega, by rw [hl, ← h7, Nat.mul_one]⟩
def ClonePost (w : World) (l : List Int) (e : Ending) (w' : World) : Prop := ∃ g cap, e = .returned (.slice (some ⟨g, 0, none⟩) l.length cap) ∧ IRow w' w.heap.size g cap l ∧ Keep noBlk w w'
set_option maxHeartbeats 4000000 in
theorem clone_any (w : World) (v : Value) (l : List Int) (hr : Rd w 1 v l.length (l.map fun x => .int .i64 x)) (h0 : 0 < l.length) (h8 : l.length ≤ 8) : Calls Try.prog 74 #[v] w (ClonePost w l) := by
  obtain ⟨x, hx⟩ : ∃ x, l[0]? = some x := ⟨l[0]'h0, List.getElem?_eq_getElem _⟩
  obtain ⟨p, o, ca, hv, -⟩ := rd_int hr hx
  subst hv
  obtain ⟨n, hn⟩ : ∃ n, l.length = n := ⟨_, rfl⟩
  have HN := Lib.hid hn
  rw [hn] at hr h0 h8 ⊢
  obtain ⟨w0, hw0, hk0, hb0, hs0⟩ := alloc_facts w #[] 3
  have HO0 : Hid (w0.ownsRow w.heap.size 3 1 (.slice (some ⟨w.heap.size, 0, none⟩) 0 0) 0 []) := Lib.hid (by rw [← hw0]; exact World.ownsRow_made w #[] 0 (Nat.le_refl _) (by unfold maxLen; omega) rfl)
  have HR0 := Lib.hid (hr.keep hk0 fun _ _ => id)
  have HK0 := Lib.hid hk0
  have hsw : w.heap.size < w0.heap.size := by omega
  have he : ∀ w, (binOp .eql 43 (.slice (some ⟨p, o, none⟩) n ca) (.slice none 0 0)).run Try.prog w = .ok (.bool false) w := fun w => by kernel_rfl
  clear hk0 hb0 hs0 hr hx hn
  go_enter Try.func74, Try.ntmps74
  go_wp2_with (first
    | (at_builtin; try rw [hw0]
       refine wpList_append_rd rfl (.tmp 5) (.tmp 6) 43 rfl w.heap.size 3 (.int .i64 0) 1 8 Try.underlying43 infoI64 rfl (by decide) (.slice (some ⟨w.heap.size, 0, none⟩) 0 0) 0 ([]) rfl HO0.out (.slice (some ⟨p, o, none⟩) n ca) n (l.map fun x => .int .i64 x) rfl HR0.out (oneCell_ints _) (by unfold maxLen; omega) (by omega) (by omega) ?_
       intro v' w1 ho5 hk5 hn5 hb5
       obtain ⟨H1a, H1c, rfl, -, -⟩ := (Rd.of_owns ho5).form
       rw [Nat.zero_add, List.nil_append] at ho5
       have H1 := Lib.hid ho5
       have KH1 := Lib.hid hk5
       clear ho5 hk5 hn5 hb5))
  have HKY := Lib.hid (HK0.out.trans' KH1.out (U := noBlk) (fun _ _ h => h) (fun i hi e => by have e' : w.heap.size = i := Option.some.inj e; omega))
  try rw [Nat.zero_add]
  obtain ⟨g, e1, hrow⟩ := IRow.of_owns H1.out h0 HN.out
  subst e1
  have HROW := Lib.hid hrow
  clear hrow
  go_ret
  exact ⟨g, _, by rw [HN.out]; rfl, HROW.out, HKY.out⟩
/-- What Many answers. -/
def ManyPost (w : World) (fr : List Int) (th : List Bool) (cp : Int) (e : Ending) (w' : World) : Prop :=
  if checkB fr th cp then ∃ N : Nat, Rooms th cp.toNat fr N ∧ e = .returned (.tuple #[.int .i64 (N : Int), .int .i64 0]) ∧ Keep noBlk w w'
  else e = .returned (.tuple #[.int .i64 0, .int .i64 2]) ∧ Keep noBlk w w'
theorem sumN_le {fr : List Int} (h : ∀ x ∈ fr, 0 ≤ x ∧ x ≤ 4096) : sumN fr ≤ fr.length * 4096 := by
  unfold sumN
  induction fr with
  | nil => simp
  | cons x fr ih =>
    have h1 := h x (List.mem_cons_self ..)
    have h2 := ih fun y hy => h y (List.mem_cons_of_mem _ hy)
    simp only [List.map_cons, List.sum_cons, List.length_cons]
    omega
theorem getD_le {fr : List Int} (h : ∀ x ∈ fr, 0 ≤ x ∧ x ≤ 4096) (i : Nat) : fr.getD i 0 ≤ 4096 := by
  rw [List.getD_eq_getElem?_getD]
  cases e : fr[i]? with
  | none => show (0 : Int) ≤ 4096; omega
  | some x => exact (h x (List.mem_of_getElem? e)).2

set_option maxHeartbeats 16000000 in
theorem pmany_any (w : World) (v vt : Value) (fr : List Int) (th : List Bool) (cp : Int) (hr : Rd w 1 v fr.length (fr.map fun x => .int .i64 x)) (ht : Rd w 1 vt th.length (th.map Value.bool)) :
    Calls Try.prog 53 #[v, vt, .int .i64 cp] w (ManyPost w fr th cp) := by
  have HC := Lib.hid (pcheck_any w v vt fr th cp hr ht)
  obtain ⟨bb, hbb⟩ : ∃ b, checkB fr th cp = b := ⟨_, rfl⟩
  have HBB := Lib.hid hbb
  rw [hbb] at HC
  have HR := Lib.hid hr; have HT := Lib.hid ht
  obtain ⟨oa, ca, rfl, -, -⟩ := hr.form
  obtain ⟨ta, tc, rfl, -, -⟩ := ht.form
  clear hr ht hbb
  cases bb
  · have HP : Hid (∀ w', Keep noBlk w w' → ∀ e, e = .returned (.tuple #[.int .i64 0, .int .i64 2]) → ManyPost w fr th cp e w') := Lib.hid (fun w' k e he => by unfold ManyPost; rw [HBB.out, if_neg (by decide)]; exact ⟨he, k⟩)
    go_enter Try.func53, Try.ntmps53
    go_wp2_with fail
    refine HC.out.mono ?_
    rintro e w2 ⟨rfl, hk⟩
    have HK := Lib.hid hk
    clear hk HC
    go_wp2_with fail
    go_ret2
    exact HP.out _ HK.out _ rfl
  · obtain ⟨h1, h2, h3, h4, h5, h6⟩ := checkB_true HBB.out
    obtain ⟨c, rfl⟩ : ∃ c : Nat, cp = (c : Int) := ⟨cp.toNat, by omega⟩
    have HP : Hid (∀ N : Nat, Rooms th c fr N → ∀ w', Keep noBlk w w' → ∀ e, e = .returned (.tuple #[.int .i64 (N : Int), .int .i64 0]) → ManyPost w fr th (c : Int) e w') := Lib.hid (fun N hN w' k e he => by unfold ManyPost; rw [HBB.out, if_pos rfl]; exact ⟨N, by rw [Int.toNat_natCast]; exact hN, he, k⟩)
    obtain ⟨n, hn⟩ : ∃ n, fr.length = n := ⟨_, rfl⟩
    have HN := Lib.hid hn
    have HCL := Lib.hid (fun wx (k : Keep noBlk w wx) => clone_any wx _ fr (HR.out.keep k fun _ _ => id) (by omega) h2)
    have HLE := Lib.hid (getD_le h6)
    obtain ⟨S0, hS0⟩ : ∃ s, sumN fr = s := ⟨_, rfl⟩
    have hS0b : S0 ≤ 40000 := by rw [← hS0]; have := sumN_le h6; omega
    have HS0 := Lib.hid hS0
    have HTL := Lib.hid h3
    rw [hn] at HCL HC h1 h2 ⊢
    rw [h3, hn] at HC ⊢
    have hc1 : 1 ≤ c := by omega
    have hc3 : c ≤ 3 := by omega
    clear h3 h4 h5 h6 hn hS0
    go_enter Try.func53, Try.ntmps53
    go_wp2_with fail
    refine HC.out.mono ?_
    rintro e w2 ⟨rfl, hk⟩
    have HK2 := Lib.hid hk
    clear hk HC
    go_wp2_with fail
    refine (HCL.out w2 HK2.out).mono ?_
    rintro e w3 ⟨g, cap, rfl, hrow, hk⟩
    have HROW := Lib.hid hrow; have HK3 := Lib.hid (HK2.out.trans hk)
    have hbase : w.heap.size ≤ g := Nat.le_trans HK2.out.size hrow.1
    clear hk hrow HK2 HCL
    rw [HN.out]
    have HROW : Hid (IRow w3 w.heap.size g cap fr) := Lib.hid ⟨hbase, HROW.out.2⟩
    go_wp2_with fail
    go_loopw [10] (fun i wr => ∃ (N : Nat) (fk : List Int), N ≤ S0 ∧ i = .int .i64 N ∧ Hid (IRow wr w.heap.size g cap fk) ∧ Hid (fk.length = n) ∧ Hid (N + sumN fk ≤ S0) ∧ Hid (∀ i, fk.getD i 0 ≤ 4096) ∧ Hid (∀ m, Rooms th c fk m → Rooms th c fr (N + m)) ∧ Hid (Keep noBlk w wr)) (fun i _ => S0 + 1 - (intOf i).toNat)
    case atStart => exact ⟨0, fr, Nat.zero_le _, rfl, HROW, HN, Lib.hid (by rw [HS0.out]; omega), HLE, Lib.hid (fun m h => by rw [Nat.zero_add]; exact h), HK3⟩
    case round =>
    clear HROW HK3
    obtain ⟨N, fk, hN, rfl, HROW, HFL, HSUM, HFE, HRM, HK⟩ := hrel
    have hcp : (c : Int) = (c : Int) := rfl
    have HCH := choose_any wr _ (.slice ta th.length tc) fk th c HROW.out.rd (HT.out.keep HK.out fun _ _ => id) (by rw [HFL.out]; exact h2) (by rw [HTL.out, HN.out, HFL.out]) hc1 hc3
    rw [HFL.out, HTL.out, HN.out] at HCH
    have HCH := Lib.hid HCH
    obtain ⟨oc, hoc⟩ : ∃ o, chooseL fk th c = o := ⟨_, rfl⟩
    have HOC := Lib.hid hoc
    rw [hoc] at HCH
    clear hoc hcp
    go_wp2_with fail
    refine HCH.out.mono ?_
    intro e w4 hpost
    clear HCH
    cases oc with
    | none =>
      obtain ⟨rfl, hk⟩ := hpost
      have HK4 := Lib.hid (HK.out.trans hk)
      have HRN : Hid (Rooms th c fr N) := Lib.hid (HRM.out 0 (.none HOC.out))
      clear hk
      go_wp2_with fail
      go_ret2
      exact HP.out N HRN.out _ HK4.out _ rfl
    | some l =>
      obtain ⟨v, rfl, hnr, hk⟩ := hpost
      have hgw := HROW.out.lt
      have HROW4 := Lib.hid (HROW.out.keep hk id); have HK4 := Lib.hid (HK.out.trans hk)
      have hcs := choose_some HOC.out
      obtain ⟨q, hq⟩ : ∃ q, l.length = q := ⟨_, rfl⟩
      have HQ := Lib.hid hq
      obtain ⟨va, vc, rfl, -, -⟩ := hnr.1.form
      have HRL := Lib.hid hnr.1
      have HFB : Hid (∀ i, (Value.slice va q vc).ownBlock = some i → i ≠ g) := Lib.hid (fun i hi e => by
        have := hnr.2 i (by rw [← hi, hq])
        omega)
      rw [hq] at HRL
      have hql : q ≤ 8 := by
        have h1 : l.length ≤ (List.range fk.length).length := List.Nodup.length_le_of_subset hcs.2.2.2.1 fun d hd => List.mem_range.2 (hcs.2.2.2.2 d hd).1
        rw [List.length_range, HFL.out] at h1
        omega
      have HND := Lib.hid hcs.2.2.2.1
      have HIN : Hid (∀ d ∈ l, d < n ∧ 0 < fk.getD d 0) := Lib.hid (fun d hd => by
        have h1 := hcs.2.2.2.2 d hd
        rw [HFL.out] at h1
        have h2 := h1.2
        unfold canTake at h2
        rw [Bool.and_eq_true, decide_eq_true_eq] at h2
        exact ⟨h1.1, h2.2⟩)
      have HSD := Lib.hid (choose_dec HOC.out (by omega))
      clear hk hnr hcs hgw
      rw [hq]
      clear hq
      go_wp2_with fail
      go_loopw [38] (fun i wr => ∃ j : Nat, j ≤ q ∧ i = .int .i64 j ∧ Hid (IRow wr w.heap.size g cap (decL fk (l.take j))) ∧ Hid (Rd wr 1 (.slice va q vc) q (nV l)) ∧ Hid (Keep noBlk w wr)) (fun i _ => q - (intOf i).toNat)
      case atStart => exact ⟨0, Nat.zero_le _, rfl, HROW4, HRL, HK4⟩
      case round =>
      clear HROW4 HRL HK4 HROW HK
      obtain ⟨j, hj, rfl, HROW, HRL, HK⟩ := hrel
      by_cases hlt : j < q
      · have hki : (j : Int) < (q : Int) := by omega
        have hk0 : (0 : Int) ≤ (j : Int) := by omega
        obtain ⟨d, hd⟩ : ∃ d, l[j]? = some d := ⟨l[j]'(by rw [HQ.out]; exact hlt), List.getElem?_eq_getElem _⟩
        have hrd := HRL.out
        rw [← HQ.out] at hrd
        obtain ⟨p, o, cap', hv, hcx⟩ := rd_nat hrd hd
        rw [HQ.out] at hv
        have e1 : va = some ⟨p, o, none⟩ := by cases hv; rfl
        subst e1
        obtain ⟨hdn, hdp⟩ := HIN.out d (List.mem_of_getElem? hd)
        have hnk : d ∉ l.take j := by
          intro hm
          obtain ⟨i, hi⟩ := List.getElem?_of_mem hm
          have hik := (List.getElem?_eq_some_iff.1 hi).1
          rw [List.length_take] at hik
          rw [List.getElem?_take, if_pos (by omega)] at hi
          obtain ⟨h1, h2⟩ := List.getElem?_eq_some_iff.1 hi
          obtain ⟨h3, h4⟩ := List.getElem?_eq_some_iff.1 hd
          exact List.pairwise_iff_getElem.1 HND.out i j h1 h3 (by omega) (h2.trans h4.symm)
        have hlen : (decL fk (l.take j)).length = n := by rw [decL_len, HFL.out]
        obtain ⟨x, hx⟩ : ∃ x, (decL fk (l.take j))[d]? = some x := ⟨(decL fk (l.take j))[d]'(by rw [hlen]; exact hdn), List.getElem?_eq_getElem _⟩
        have hxe : x = fk.getD d 0 := by
          have h1 := decL_get (l.take j) fk (List.Nodup.sublist (List.take_sublist _ _) HND.out) (fun i hi => by rw [HFL.out]; exact (HIN.out i (List.mem_of_mem_take hi)).1) d
          rw [if_neg hnk, List.getD_eq_getElem?_getD, hx] at h1
          have h2 : x = fk.getD d 0 - 0 := h1
          omega
        have hx0 : 0 < x := by omega
        have hx4 : x ≤ 4096 := by rw [hxe]; exact HFE.out d
        have hcd := HROW.out.cell hx
        have hfz := HROW.out.free d
        have hset := HROW.out.set (k := d) (x - 1)
        have hds : (decL fk (l.take j)).set d (x - 1) = decL fk (l.take (j + 1)) := by
          rw [List.take_add_one, hd]
          show _ = decL fk (l.take j ++ [d])
          rw [decL_snoc, List.getD_eq_getElem?_getD, hx]
          rfl
        rw [hds] at hset
        have HSET := Lib.hid hset
        have hdi : (d : Int) < (n : Int) := by omega
        have hd0 : (0 : Int) ≤ (d : Int) := by omega
        clear hrd hv hd hnk hlen hx hxe hset hds hdp
        go_wp2_with fail
        have HK5 := Lib.hid (HK.out.trans' HSET.out.2 (U := noBlk) (fun _ _ h => h) (fun i hi e => by omega))
        have HR5 := Lib.hid (HRL.out.keep HSET.out.2 (fun i hi e => HFB.out i hi e))
        have HO5 := Lib.hid HSET.out.1
        clear HSET HROW HRL HK
        go_roundw
        case rel => exact ⟨j + 1, by omega, by go_num, HO5, HR5, HK5⟩
        case measure => simp [intOf]; omega
      · obtain rfl : q = j := by omega
        have hrow := HROW.out
        rw [List.take_of_length_le (by rw [HQ.out]; exact Nat.le_refl _)] at hrow
        have HROW2 := Lib.hid hrow
        have HF2 : Hid ((decL fk l).length = n) := Lib.hid (by rw [decL_len, HFL.out])
        have HS2 : Hid (N + 1 + sumN (decL fk l) ≤ S0) := Lib.hid (by have := HSUM.out; have := HSD.out; omega)
        have hN1 : N + 1 ≤ S0 := by have := HS2.out; omega
        have HE2 : Hid (∀ i, (decL fk l).getD i 0 ≤ 4096) := Lib.hid (fun i => by
          rw [decL_get l fk HND.out (fun i hi => by rw [HFL.out]; exact (HIN.out i hi).1) i]
          have := HFE.out i
          split <;> omega)
        have HR2 : Hid (∀ m, Rooms th c (decL fk l) m → Rooms th c fr (N + 1 + m)) := Lib.hid (fun m hm => by
          have := HRM.out (m + 1) (.more HOC.out hm)
          rwa [show N + 1 + m = N + (m + 1) by omega])
        clear hrow
        go_wp2_with fail
        go_roundw
        case rel => exact ⟨N + 1, decL fk l, hN1, by go_num, HROW2, HF2, HS2, HE2, HR2, HK⟩
        case measure => simp [intOf]; omega

theorem ManyPost.form {w w' : World} {fr : List Int} {th : List Bool} {cp : Int} {e : Ending} (h : ManyPost w fr th cp e w') : ∃ (N : Nat) (r : Int), e = .returned (.tuple #[.int .i64 (N : Int), .int .i64 r]) := by
  unfold ManyPost at h
  split at h
  · obtain ⟨N, -, h1, -⟩ := h
    exact ⟨N, 0, h1⟩
  · exact ⟨0, 2, h.1⟩
theorem ManyPost.of {w w1 w' : World} {fr : List Int} {th : List Bool} {cp : Int} {e : Ending} (h : ManyPost w1 fr th cp e w') (k : Keep noBlk w w1) : ManyPost w fr th cp e w' := by
  unfold ManyPost at h ⊢
  split
  · rename_i hc
    rw [if_pos hc] at h
    obtain ⟨N, h1, h2, h3⟩ := h
    exact ⟨N, h1, h2, k.trans h3⟩
  · rename_i hc
    rw [if_neg hc] at h
    exact ⟨h.1, k.trans h.2⟩
set_option maxHeartbeats 4000000 in
theorem room_any (w : World) (lo a b D Z : Nat) (c : Nat → Option Nat) (L : List Ad) (h : LedIs w lo a b c D Z L) (vt : Value) (th : List Bool) (cp : Int) (ht : Rd w 1 vt th.length (th.map Value.bool)) :
    Calls Try.prog 21 #[.pointer (some ⟨a, 0, none⟩), vt, .int .i64 cp] w (ManyPost w (freeN L D Z) th cp) := by
  have HF := ledFree_any w lo a b D Z c L h
  have hD0 : D ≠ 0 := by have := h.bd; omega
  have HN := none_any w a D Z _ h.top
  rw [decide_eq_false hD0] at HN
  have HN := Lib.hid HN
  obtain ⟨fr, hfr⟩ : ∃ fr, freeN L D Z = fr := ⟨_, rfl⟩
  rw [hfr] at HF ⊢
  have HF := Lib.hid HF; have HT := Lib.hid ht
  have HM := Lib.hid (fun wx v (k : Keep noBlk w wx) (hr : Rd wx 1 v fr.length (fr.map fun x => .int .i64 x)) => pmany_any wx v _ fr th cp hr (ht.keep k fun _ _ => id))
  obtain ⟨ta, tc, rfl, -, -⟩ := ht.form
  obtain ⟨q, hq⟩ : ∃ q, th.length = q := ⟨_, rfl⟩
  rw [hq] at HM ⊢
  clear h ht hD0 hfr hq
  go_enter Try.func21, Try.ntmps21
  go_wp2_with fail
  refine HN.out.mono ?_
  rintro e w1 ⟨rfl, rfl⟩
  clear HN
  go_wp2_with fail
  refine HF.out.mono ?_
  rintro e w2 ⟨v, rfl, hov, hk⟩
  have HRF := Lib.hid (Rd.of_owns hov); have HK := Lib.hid hk
  obtain ⟨fa, fc, rfl, -, -⟩ := (Rd.of_owns hov).form
  have HM2 := HM.out _ _ HK.out HRF.out
  obtain ⟨m, hm⟩ : ∃ m, fr.length = m := ⟨_, rfl⟩
  rw [hm] at HM2 ⊢
  have HM2 := Lib.hid HM2
  clear hov hk HF hm HM
  go_wp2_with fail
  refine HM2.out.mono ?_
  intro e w3 hp
  have hp2 := hp.of HK.out
  obtain ⟨N, r, rfl⟩ := hp.form
  have HPP := Lib.hid hp2
  clear hp hp2 HM2
  go_wp2_with fail
  go_ret2
  exact HPP.out

end Go.Proofs.Ytfjklgbakhjjiaa
