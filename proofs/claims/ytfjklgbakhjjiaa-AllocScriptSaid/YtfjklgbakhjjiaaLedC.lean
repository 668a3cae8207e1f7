/-
  A ledger: Take.
  Conditions: none but those told.
-/
import Derived.Test.YtfjklgbakhjjiaaLedB
import Derived.Test.YtfjklgbakhjjiaaPlaceQ
namespace Go.Proofs.Ytfjklgbakhjjiaa
open Go.RowKit Go.Maps Go.ChangeMaps
set_option maxRecDepth 100000
set_option linter.unusedVariables false

/-- What is taken of some devices. -/
def takenL (L : List Ad) (Z : Nat) (l : List Nat) : List Ad := l.map fun (d : Nat) => (⟨(d : Int), (freeTo L d Z).headD 0⟩ : Ad)
theorem takenL_snoc (L : List Ad) (Z : Nat) (l : List Nat) (d : Nat) : takenL L Z (l ++ [d]) = takenL L Z l ++ [(⟨(d : Int), (freeTo L d Z).headD 0⟩ : Ad)] := by unfold takenL; rw [List.map_append]; rfl
theorem takenL_len (L : List Ad) (Z : Nat) (l : List Nat) : (takenL L Z l).length = l.length := by simp [takenL]
theorem freeTo_taken {L M : List Ad} {Z d : Nat} : ∀ {l : List Nat}, d ∉ l → freeTo (M ++ takenL L Z l) d Z = freeTo M d Z := by
  intro l hd
  refine freeTo_congr fun s _ _ => ?_
  unfold usedB
  rw [decide_eq_decide, List.mem_append]
  refine ⟨fun h => h.elim id fun h => ?_, .inl⟩
  unfold takenL at h
  obtain ⟨e, he, h2⟩ := List.mem_map.1 h
  injection h2 with h3 _
  have : e = d := by omega
  subst this
  exact absurd he hd
theorem LedIs.take {w w1 w2 : World} {lo a b D Z : Nat} {c : Nat → Option Nat} {M : List Ad} (h : LedIs w lo a b c D Z M) {d g : Nat} {x : Int} {r : List Int} (hd : d < D) (hc : c d = some g) (hf : freeTo M d Z = x :: r)
    (h1 : ChanIs w1 g Z r) (k1 : Keep (fun k => k = g) w w1) (h2 : WordsIs w2 b c D (M ++ [⟨(d : Int), x⟩])) (k2 : Keep (fun k => k = b) w1 w2) : LedIs w2 lo a b c D Z (M ++ [⟨(d : Int), x⟩]) := by
  obtain ⟨t, rfl, ht1, ht2, ht3, ht4, ht5⟩ := freeTo_take hf
  have hga : g ≠ a := by
    rintro rfl
    obtain ⟨s, rr, h3⟩ := h1
    obtain ⟨g', h4, h5⟩ := h.chans d hd
    rw [hc] at h4
    cases h4
    obtain ⟨s', r', h6⟩ := h5
    have := h.top
    unfold TopIs at this
    rw [h6] at this
    cases this
  have hba : b ≠ a := by
    rintro rfl
    obtain ⟨cs, h3, -⟩ := h.words.row
    have := h.top
    unfold TopIs at this
    rw [h3] at this
    cases this
  have hgb : ∀ e q, e < D → c e = some q → q ≠ b := by
    rintro e q he hq rfl
    obtain ⟨g', h4, h5⟩ := h.chans e he
    rw [hq] at h4
    cases h4
    obtain ⟨s', r', h6⟩ := h5
    obtain ⟨cs, h3, -⟩ := h.words.row
    rw [h6] at h3
    cases h3
  refine ⟨(h.top.keep k1 (fun e => hga e.symm)).keep k2 (fun e => hba e.symm), h2, fun e he => ?_, h.inj, h.bd, h.lo⟩
  by_cases hed : e = d
  · subst hed
    exact ⟨g, hc, by rw [ht5]; exact h1.keep k2 (hgb e g he hc)⟩
  · obtain ⟨q, h4, h5⟩ := h.chans e he
    refine ⟨q, h4, ?_⟩
    rw [freeTo_other hed]
    exact (h5.keep k1 (fun e2 => hed (h.inj e d q he hd h4 (by rw [hc, e2])))).keep k2 (hgb e q he h4)
theorem rd_nat {w : World} {v : Value} {l : List Nat} (h : Rd w 1 v l.length (nV l)) {k x : Nat} (hk : l[k]? = some x) : ∃ g o cap, v = .slice (some ⟨g, o, none⟩) l.length cap ∧ w.cell? ⟨g, o + k, none⟩ = some (.int .i64 (x : Int)) := by
  obtain ⟨h0, a, cap, rfl, h1, h2, h3, h4⟩ := h
  have hlt := (List.getElem?_eq_some_iff.1 hk).1
  obtain ⟨g, o, rfl, hc⟩ := h4 (by unfold nV; rw [List.length_map]; omega)
  exact ⟨g, o, cap, rfl, hc k _ (by unfold nV; rw [List.getElem?_map, hk]; rfl)⟩
/-- What Take answers. -/
def TakePost (w : World) (lo a b : Nat) (c : Nat → Option Nat) (D Z : Nat) (L : List Ad) (th : List Bool) (cp : Int) (e : Ending) (w' : World) : Prop :=
  if checkB (freeN L D Z) th cp then
    match chooseL (freeN L D Z) th cp.toNat with
    | none => e = .returned (.tuple #[.slice none 0 0, .int .i64 15]) ∧ Keep noBlk w w'
    | some l => ∃ v, e = .returned (.tuple #[v, .int .i64 0]) ∧ LedIs w' lo a b c D Z (L ++ takenL L Z l) ∧ w'.ownsRow w.heap.size 50 2 v l.length (adCells (takenL L Z l)) ∧ Keep (Own a b c D) w w'
  else e = .returned (.tuple #[.slice none 0 0, .int .i64 2]) ∧ Keep noBlk w w'

set_option maxHeartbeats 16000000 in
theorem take_any (w : World) (lo a b D Z : Nat) (c : Nat → Option Nat) (L : List Ad) (h : LedIs w lo a b c D Z L) (vt : Value) (th : List Bool) (cp : Int) (ht : Rd w 1 vt th.length (th.map Value.bool)) :
    Calls Try.prog 20 #[.pointer (some ⟨a, 0, none⟩), vt, .int .i64 cp] w (TakePost w lo a b c D Z L th cp) := by
  have HL := Lib.hid h; have HT := Lib.hid ht
  obtain ⟨ta, tc, rfl, -, -⟩ := ht.form
  have hbd := h.bd
  have hD0 : D ≠ 0 := by omega
  have HN := none_any w a D Z _ h.top
  rw [decide_eq_false hD0] at HN
  have HN := Lib.hid HN
  obtain ⟨fr, hfr⟩ : ∃ fr, freeN L D Z = fr := ⟨_, rfl⟩
  have HFL : Hid (fr.length = D) := Lib.hid (by rw [← hfr]; exact freeN_len L D Z)
  have HF := ledFree_any w lo a b D Z c L h
  rw [hfr] at HF
  have HF := Lib.hid HF
  obtain ⟨bb, hbb⟩ : ∃ b, checkB fr th cp = b := ⟨_, rfl⟩
  obtain ⟨o, ho⟩ : ∃ o, chooseL fr th cp.toNat = o := ⟨_, rfl⟩
  have HBB := Lib.hid hbb; have HO := Lib.hid ho; have HFR := Lib.hid hfr
  have HC := Lib.hid (fun wx v (k : Keep noBlk w wx) (hr : Rd wx 1 v fr.length (fr.map fun x => .int .i64 x)) => pchoose_any wx v _ fr th cp hr (ht.keep k fun _ _ => id))
  clear h ht hD0 hbb ho hfr
  go_enter Try.func20, Try.ntmps20
  go_wp2_with fail
  refine HN.out.mono ?_
  rintro e w1 ⟨rfl, rfl⟩
  clear HN
  go_wp2_with fail
  refine HF.out.mono ?_
  rintro e w2 ⟨v, rfl, hov, hk2⟩
  have HRF := Lib.hid (Rd.of_owns hov)
  have HK2 := Lib.hid hk2
  obtain ⟨fa, fc, rfl, -, -⟩ := (Rd.of_owns hov).form
  clear hov hk2 HF
  rw [HFL.out]
  have HRFn := HRF.out
  rw [HFL.out] at HRFn
  have HC2 := HC.out w2 _ HK2.out HRF.out
  rw [HFL.out] at HC2
  have HC2 := Lib.hid HC2
  clear HRFn HC
  go_wp2_with fail
  refine HC2.out.mono ?_
  intro e w3 hpost
  unfold ChPost at hpost
  rw [HBB.out, HO.out] at hpost
  clear HC2
  cases bb
  · rw [if_neg (by decide)] at hpost
    obtain ⟨rfl, hk⟩ := hpost
    have HK3 := Lib.hid (HK2.out.trans hk)
    have HP : Hid (∀ e, e = .returned (.tuple #[.slice none 0 0, .int .i64 2]) → TakePost w lo a b c D Z L th cp e w3) := Lib.hid (fun e he => by unfold TakePost; rw [HFR.out, HBB.out, if_neg (by decide)]; exact ⟨he, HK3.out⟩)
    clear hk
    go_wp2_with fail
    go_ret2
    exact HP.out _ rfl
  · rw [if_pos rfl] at hpost
    cases o with
    | none =>
      obtain ⟨rfl, hk⟩ := hpost
      have HK3 := Lib.hid (HK2.out.trans hk)
      have HP : Hid (∀ e, e = .returned (.tuple #[.slice none 0 0, .int .i64 15]) → TakePost w lo a b c D Z L th cp e w3) := Lib.hid (fun e he => by unfold TakePost; rw [HFR.out, HBB.out, if_pos rfl, HO.out]; exact ⟨he, HK3.out⟩)
      clear hk
      go_wp2_with fail
      go_ret2
      exact HP.out _ rfl
    | some l =>
      obtain ⟨v, rfl, hnr, hk⟩ := hpost
      have hcs := choose_some HO.out
      have HND := Lib.hid hcs.2.2.2.1
      have HIN : Hid (∀ d ∈ l, d < D ∧ ∃ x r, freeTo L d Z = x :: r) := Lib.hid (fun d hd => by
        have h1 := (hcs.2.2.2.2 d hd)
        rw [HFL.out] at h1
        have h2 := h1.2
        unfold canTake at h2
        rw [Bool.and_eq_true, decide_eq_true_eq, ← HFR.out, freeN_get L h1.1] at h2
        refine ⟨h1.1, ?_⟩
        cases e : freeTo L d Z with
        | nil => rw [e] at h2; simp at h2
        | cons x r => exact ⟨x, r, rfl⟩)
      have HK3 := Lib.hid (HK2.out.trans hk)
      have hnr2 := hnr.of HK2.out
      obtain ⟨q, hq⟩ : ∃ q, l.length = q := ⟨_, rfl⟩
      have hq8 : q ≤ 8 := by
        have h1 := hcs.2.1
        have h2 := hcs.2.2.2.1
        have h3 : l.length ≤ (List.range D).length := List.Nodup.length_le_of_subset h2 fun d hd => List.mem_range.2 (HIN.out d hd).1
        rw [List.length_range] at h3
        omega
      have HQ := Lib.hid hq
      obtain ⟨va, vc, rfl, -, -⟩ := hnr2.1.form
      have HRL := Lib.hid hnr2.1; have HFB := Lib.hid hnr2.2
      have HVL : Hid (0 < l.length → ∀ i, (Value.slice va l.length vc).ownBlock = some i → i < w3.heap.size) := Lib.hid (fun h0 i hi => by
        obtain ⟨j, h1, h2⟩ := hnr2.1.lt (by unfold nV; rw [List.length_map]; exact h0)
        rw [hi] at h1
        cases h1
        exact h2)
      have HK33 : Hid (Keep (Own a b c D) w3 w3) := Lib.hid (Keep.refl _ _)
      have hw33 := HK3.out.size
      rw [hq] at HRL HFB HVL
      have HL3 := Lib.hid (HL.out.keep0 HK3.out)
      have HOWN : Hid (∀ k, Own a b c D k → k < w.heap.size) := Lib.hid (fun k hk => (HL.out.own_lt hk).2)
      clear hk hnr hnr2 hcs hq
      rw [HQ.out]
      go_wp2_with fail
      go_loopw [10, 30] (fun t i wr => ∃ (k : Nat) (pa : Option Addr) (pc : Nat), k ≤ q ∧ t = .slice pa k pc ∧ i = .int .i64 k ∧ Hid (LedIs wr lo a b c D Z (L ++ takenL L Z (l.take k))) ∧ Hid (wr.ownsRow w3.heap.size 50 2 (.slice pa k pc) k (adCells (takenL L Z (l.take k)))) ∧ Hid (Keep (Own a b c D) w3 wr) ∧ Hid (Rd wr 1 (.slice va q vc) q (nV l))) (fun _ i _ => q - (intOf i).toNat)
      case atStart => exact ⟨0, none, 0, Nat.zero_le _, rfl, rfl, Lib.hid (by simpa [takenL] using HL3.out), Lib.hid (World.ownsRow_nil _ _ _ _), HK33, HRL⟩
      case round =>
      clear HL3 HRL
      obtain ⟨k, pa, pc, hk, rfl, rfl, HLD, HO2, HK, HRL⟩ := hrel
      by_cases hlt : k < q
      · have hki : (k : Int) < (q : Int) := by omega
        have hk0 : (0 : Int) ≤ (k : Int) := by omega
        obtain ⟨d, hd⟩ : ∃ d, l[k]? = some d := ⟨l[k]'(by rw [HQ.out]; exact hlt), List.getElem?_eq_getElem _⟩
        have hrd := HRL.out
        rw [← HQ.out] at hrd
        obtain ⟨p, o, cap, hv, hcx⟩ := rd_nat hrd hd
        rw [HQ.out] at hv
        have e1 : va = some ⟨p, o, none⟩ := by cases hv; rfl
        subst e1
        obtain ⟨hdD, x, r, hf⟩ := HIN.out d (List.mem_of_getElem? hd)
        have hTK : l.take (k + 1) = l.take k ++ [d] := by rw [List.take_add_one, hd]; rfl
        have hnk : d ∉ l.take k := by
          intro hm
          obtain ⟨j, hj⟩ := List.getElem?_of_mem hm
          have hjk := (List.getElem?_eq_some_iff.1 hj).1
          rw [List.length_take] at hjk
          rw [List.getElem?_take, if_pos (by omega)] at hj
          obtain ⟨h1, h2⟩ := List.getElem?_eq_some_iff.1 hj
          obtain ⟨h3, h4⟩ := List.getElem?_eq_some_iff.1 hd
          exact List.pairwise_iff_getElem.1 HND.out j k h1 h3 (by omega) (h2.trans h4.symm)
        have hTT : takenL L Z (l.take (k + 1)) = takenL L Z (l.take k) ++ [(⟨(d : Int), x⟩ : Ad)] := by rw [hTK, takenL_snoc, hf]; rfl
        obtain ⟨t, rfl, ht1, ht5, ht2, ht3, ht4⟩ := freeTo_take hf
        have hfm : freeTo (L ++ takenL L Z (l.take k)) d Z = (t : Int) :: r := by rw [freeTo_taken hnk]; exact hf
        obtain ⟨gc, hgc, hch⟩ := HLD.out.chans d hdD
        rw [hfm] at hch
        have HCN := next_some wr b (d * 65) gc Z (t : Int) r (by have h := HLD.out.words.chan hdD; rw [hgc] at h; exact h) hch
        have HTT := Lib.hid hTT; have HFM := Lib.hid hfm
        have HCN := Lib.hid HCN
        have hc1 := HLD.out.top.c1
        have hdi : (d : Int) < (D : Int) := by omega
        have hd0 : (0 : Int) ≤ (d : Int) := by omega
        have HGC := Lib.hid hgc
        have HZ : Hid (t < 4096) := Lib.hid (by have := HL.out.bd; omega)
        have hgw : gc < w.heap.size := HOWN.out gc (.inr (.inr ⟨d, hdD, hgc⟩))
        have hbw : b < w.heap.size := HOWN.out b (.inr (.inl rfl))
        have HUT : Hid (usedB (L ++ takenL L Z (l.take k)) d t = false) := Lib.hid (by
          have h1 : (t : Int) ∈ freeTo (L ++ takenL L Z (l.take k)) d Z := by rw [hfm]; exact List.mem_cons_self ..
          obtain ⟨s, h2, -, -, h3⟩ := mem_freeTo.1 h1
          have : t = s := by omega
          subst this
          exact h3)
        clear hrd hv hd hf hTK hnk hTT hfm hch ht1 ht5 ht2 ht3 ht4 hgc
        obtain ⟨M, hM⟩ : ∃ M, L ++ takenL L Z (l.take k) = M := ⟨_, rfl⟩
        have HME := Lib.hid hM
        rw [hM] at HLD HFM HUT
        clear hM
        obtain ⟨dd, hdd⟩ : ∃ dd, d * 65 = dd := ⟨_, rfl⟩
        rw [hdd] at HCN
        go_wp2_with fail
        try rw [hdd]
        refine HCN.out.mono ?_
        rintro e w5 ⟨rfl, hch5, hk5⟩
        have hwd5 := HLD.out.words.keep hk5 (fun e => by
          obtain ⟨s, rr, h3⟩ := hch5
          obtain ⟨cs, h4, -⟩ := HLD.out.words.row
          obtain ⟨g', h5, s', r', h6⟩ := HLD.out.chans d hdD
          rw [HGC.out] at h5
          cases h5
          rw [← e, h4] at h6
          cases h6)
        have HTN := Lib.hid (dturn_any w5 b D c M (M ++ [⟨(d : Int), (t : Int)⟩]) hwd5 d t hdD HZ.out (fun e s he hs => by
          rw [usedB_snoc]
          by_cases h1 : e = d ∧ s = t
          · obtain ⟨rfl, rfl⟩ := h1
            rw [HUT.out]; simp
          · have : (decide (e = d) && decide (s = t)) = false := by
              rw [Bool.and_eq_false_iff, decide_eq_false_iff_not, decide_eq_false_iff_not]
              by_cases h2 : e = d
              · exact .inr fun h3 => h1 ⟨h2, h3⟩
              · exact .inl h2
            rw [this]; simp))
        have HCH5 := Lib.hid hch5; have HK5 := Lib.hid hk5
        have hag : a ≠ gc := fun e => by
          obtain ⟨g', h5, s', r', h6⟩ := HLD.out.chans d hdD
          rw [HGC.out] at h5
          cases h5
          have h7 := HLD.out.top
          unfold TopIs at h7
          rw [e, h6] at h7
          cases h7
        have hc1 := (HLD.out.top.keep hk5 hag).c1
        rw [hdd] at HTN
        clear hch5 hk5 hwd5 HCN hag
        go_wp2_with fail
        try rw [hdd]
        refine HTN.out.mono ?_
        rintro e w6 ⟨rfl, hwd6, hk6⟩
        have HL6 := Lib.hid (HLD.out.take hdD HGC.out HFM.out HCH5.out HK5.out hwd6 hk6)
        have HO6 := Lib.hid (hk6.owns (HK5.out.owns HO2.out (fun i hi e => by have := owns_base HO2.out hi; omega)) (fun i hi e => by have := owns_base HO2.out hi; omega))
        have HK6 := Lib.hid ((HK.out.trans' HK5.out (U := Own a b c D) (fun _ _ h => h) (fun i _ h => .inr (.inr ⟨d, hdD, by rw [HGC.out, h]⟩))).trans' hk6 (U := Own a b c D) (fun _ _ h => h) (fun i _ h => .inr (.inl h)))
        have HR6 := Lib.hid ((HRL.out.keep HK5.out (fun i hi e => by have := HFB.out i hi; omega)).keep hk6 (fun i hi e => by have := HFB.out i hi; omega))
        clear hwd6 hk6 HTN HCH5 HK5 HLD HO2 HRL HK hc1
        obtain ⟨w8, hw8, hk8, hb8, hs8⟩ := alloc_facts w6 (adCs ⟨(d : Int), (t : Int)⟩).toArray 50
        have HRN : Hid (Rd w8 2 (.slice (some ⟨w6.heap.size, 0, none⟩) 1 1) 1 (adCs ⟨(d : Int), (t : Int)⟩)) := Lib.hid (rd_blk (n := 1) (size := 2) (vs := adCs ⟨(d : Int), (t : Int)⟩) hb8 rfl (by unfold maxLen; omega))
        have HO8 := Lib.hid (hk8.owns HO6.out fun _ _ => id); have HK8 := Lib.hid (HK6.out.trans' hk8 (U := Own a b c D) (fun _ _ h => h) (fun _ _ h => h.elim))
        have HL8 := Lib.hid (HL6.out.keep0 hk8); have HR8 := Lib.hid (HR6.out.keep hk8 fun _ _ => id)
        have hsz8 : w3.heap.size ≤ w8.heap.size := HK8.out.size
        have HAC : Hid (adCells (takenL L Z (l.take (k + 1))) = adCells (takenL L Z (l.take k)) ++ adCs ⟨(d : Int), (t : Int)⟩) := Lib.hid (by rw [HTT.out, adCells_append, adCells_one])
        clear hk8 hb8 hs8 HO6 HK6 HL6 HR6
        go_wp2_with (first
          | ((with_reducible show wpList _ _ _ (⟨_, .buildSlice _ 1 _, _, _, _, _⟩ :: _) _ _); refine wpList_build_one rfl 22 50 (.tmp 57) rfl Try.underlying22 infoAd (by decide) (adCs ⟨(d : Int), (t : Int)⟩) rfl (by decide) rfl ?_; rw [hw8])
          | (at_builtin; refine wpList_append_rd rfl (.tmp 54) (.tmp 58) 22 rfl w3.heap.size 50 zeroAd 2 16 Try.underlying22 infoAd rfl (by decide) (.slice pa k pc) k (adCells (takenL L Z (l.take k))) rfl HO8.out (.slice (some ⟨w6.heap.size, 0, none⟩) 1 1) 1 (adCs ⟨(d : Int), (t : Int)⟩) rfl HRN.out (oneCell_ad _) (by unfold maxLen; omega) (by omega) hsz8 ?_
             intro v' w9 ho5 hk5 hn5 hb5
             obtain ⟨va9, vc9, rfl, -, -⟩ := (Rd.of_owns ho5).form
             have HO5 : Hid (w9.ownsRow w3.heap.size 50 2 (.slice va9 (k + 1) vc9) (k + 1) (adCells (takenL L Z (l.take (k + 1))))) := Lib.hid (by rw [HAC.out]; exact ho5)
             have HK9 := Lib.hid (HK8.out.trans' hk5 (U := Own a b c D) (fun _ _ h => h) (fun i hi e => by have := owns_base HO8.out e; omega))
             have HL9 := Lib.hid (HL8.out.keep hk5 (fun i hi ho => by have := owns_base HO8.out hi; have := HOWN.out i ho; omega))
             have HR9 := Lib.hid (HR8.out.keep hk5 (fun i hi e => by have := owns_base HO8.out e; have := HVL.out (by omega) i hi; omega))
             clear ho5 hk5 hn5 hb5 hw8))
        have HLF : Hid (LedIs w9 lo a b c D Z (L ++ takenL L Z (l.take (k + 1)))) := Lib.hid (by rw [HTT.out, ← List.append_assoc, HME.out]; exact HL9.out)
        go_roundw
        case rel => exact ⟨k + 1, va9, vc9, by omega, rfl, by go_num, HLF, HO5, HK9, HR9⟩
        case measure => simp [intOf]; omega
      · obtain rfl : q = k := by omega
        have htk : l.take q = l := List.take_of_length_le (by rw [HQ.out]; exact Nat.le_refl _)
        have hHL := HLD.out
        have hHO := HO2.out
        rw [htk] at hHL hHO
        have HP : Hid (∀ e, e = .returned (.tuple #[.slice pa q pc, .int .i64 0]) → TakePost w lo a b c D Z L th cp e wr) := Lib.hid (fun e he => by unfold TakePost; rw [HFR.out, HBB.out, if_pos rfl, HO.out]; exact ⟨_, he, hHL, by rw [HQ.out]; exact ownsRow_mono hHO hw33, HK3.out.trans' HK.out (U := Own a b c D) (fun _ _ h => h.elim) (fun _ _ h => h)⟩)
        clear hHL hHO htk
        go_wp2_with fail
        go_ret2
        exact HP.out _ rfl

end Go.Proofs.Ytfjklgbakhjjiaa
