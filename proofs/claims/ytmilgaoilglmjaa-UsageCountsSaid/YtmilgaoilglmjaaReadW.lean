/-
  usage.read: the ledger of holders.
  Conditions: at most 63 holders.
-/
import Derived.Test.YtmilgaoilglmjaaReadU
namespace Go.Proofs.Ytmilgaoilglmjaa
open Go.RowKit Go.Maps Go.ChangeMaps
set_option maxRecDepth 100000
set_option linter.unusedVariables false

def LedP (w : World) (b base : Nat) (rows : List (List Ad)) : Prop := ∃ lst, Led w b base lst (hw rows) ∧ ∀ a, a ∈ lst.map (·.1) ↔ ∃ L ∈ rows, a ∈ L
theorem LedP.nil (w : World) : LedP (w.alloc (.map #[] 0)) w.heap.size w.heap.size [] :=
  ⟨[], ⟨MapIs.made _, (fun p hp => by cases hp), by simp⟩, fun a => by simp⟩
theorem upTo_mem (hs : List (List Ad)) (k : Nat) (L : List Ad) (x a : Ad) : (∃ R ∈ upTo hs k (L ++ [x]), a ∈ R) ↔ (∃ R ∈ upTo hs k L, a ∈ R) ∨ a = x := by
  unfold upTo
  simp only [List.mem_append, List.mem_singleton]
  constructor
  · rintro ⟨R, hR | rfl, ha⟩
    · exact .inl ⟨R, .inl hR, ha⟩
    · rcases List.mem_append.1 ha with h | h
      · exact .inl ⟨L, .inr rfl, h⟩
      · exact .inr (List.mem_singleton.1 h)
  · rintro (⟨R, hR | rfl, ha⟩ | rfl)
    · exact ⟨R, .inl hR, ha⟩
    · exact ⟨_, .inr rfl, List.mem_append.2 (.inl ha)⟩
    · exact ⟨_, .inr rfl, by simp⟩
theorem upTo_full {hs : List (List Ad)} {k : Nat} {L : List Ad} (h : hs[k]? = some L) : upTo hs k L = hs.take (k + 1) := by rw [List.take_add_one, h]; rfl
theorem hw_zero {hs : List (List Ad)} (h64 : hs.length ≤ 64) {x : Ad} (h : ∀ R ∈ hs, x ∉ R) : hw hs x = 0#64 := by
  apply BitVec.eq_of_getLsbD_eq
  intro j hj
  rw [BitVec.getLsbD_zero]
  cases e : (hw hs x).getLsbD j
  · rfl
  · obtain ⟨L, h1, h2⟩ := (hw_bit hs h64 x j hj).1 e
    exact absurd h2 (h L (List.mem_of_getElem? h1))
theorem LedP.begin {w : World} {b base : Nat} {hs : List (List Ad)} (h64 : hs.length ≤ 64) {k : Nat} (hk : k < hs.length) (h : LedP w b base (hs.take k)) : LedP w b base (upTo hs k []) := by
  obtain ⟨lst, h1, h2⟩ := h
  refine ⟨lst, h1.congr fun a => (hw_begin h64 hk a).symm, fun a => ?_⟩
  rw [h2]
  unfold upTo
  simp
theorem zeroBits (w : World) : (zeroValue 54).run Try.prog w = .ok (bV none) w := by kernel_rfl
def ReadPost (w : World) (hs : List (List Ad)) (e : Ending) (w' : World) : Prop := ∃ b, e = .returned (.map (some b)) ∧ LedP w' b b hs ∧ w.heap.size ≤ b ∧ Keep noBlk w w'

set_option maxHeartbeats 8000000 in
theorem read_any (w : World) (v : Value) (hs : List (List Ad)) (ho : ∀ L ∈ hs, AdsOk L) (hr : Rows2 w v hs) (h64 : hs.length ≤ 63) : Calls Try.prog 36 #[v] w (ReadPost w hs) := by
  have hmm := @run_makeMap Try.prog
  obtain ⟨oa, ca, rfl, hlm⟩ := hr.form
  unfold maxLen at hlm
  obtain ⟨n, hn⟩ : ∃ n, hs.length = n := ⟨_, rfl⟩
  have HN := Lib.hid hn; have HR := Lib.hid hr
  rw [hn] at HR h64 ⊢
  clear hr hn hlm
  go_enter Try.func36, Try.ntmps36
  go_wp2_with fail
  obtain ⟨w2, hw2⟩ : ∃ w2, w.alloc (.map #[] 0) = w2 := ⟨_, rfl⟩
  have hk2 : Keep noBlk w w2 := by rw [← hw2]; exact (Keep.refl _ _).alloc _
  have hs2 : w.heap.size < w2.heap.size := by rw [← hw2, World.size_alloc]; omega
  have hm2 : LedP w2 w.heap.size w.heap.size (hs.take 0) := by rw [← hw2]; exact LedP.nil _
  rw [hw2]
  obtain ⟨b, hb⟩ : ∃ b, w.heap.size = b := ⟨_, rfl⟩
  have hbw : w.heap.size ≤ b := Nat.le_of_eq hb
  have hwb : b ≤ w.heap.size := Nat.le_of_eq hb.symm
  rw [hb] at hm2 ⊢
  have HB := Lib.hid hb; have HK2 := Lib.hid hk2; have HM2 := Lib.hid hm2
  clear hw2 hk2 hm2 hmm hb
  go_loopw [13] (fun i wr => ∃ k : Nat, k ≤ n ∧ i = .int .i64 k ∧ Hid (LedP wr b b (hs.take k)) ∧ Hid (Keep noBlk w wr)) (fun i _ => n - (intOf i).toNat)
  case atStart => exact ⟨0, Nat.zero_le _, rfl, HM2, HK2⟩
  case round =>
  obtain ⟨k, hk, rfl, HL, HK⟩ := hrel
  by_cases hlt : k < n
  · obtain ⟨L, hL⟩ : ∃ L, hs[k]? = some L := ⟨hs[k]'(by rw [HN.out]; exact hlt), List.getElem?_eq_getElem _⟩
    have hr := HR.out
    obtain ⟨g, o, cap, a, c, hv, hcell, -⟩ := hr.at hL
    rw [HN.out] at hv
    have e1 : oa = some ⟨g, o, none⟩ := by cases hv; rfl
    subst e1
    have hcr := HK.out.cell hcell id
    have HLE := Lib.hid hL
    obtain ⟨m, hm⟩ : ∃ m, L.length = m := ⟨_, rfl⟩
    have HLM := Lib.hid hm
    rw [hm] at hcr
    have HRL : Hid (Rd w 2 (.slice a m c) m (adCells L)) := Lib.hid (by
      obtain ⟨g', o', cap', a', c', hv', hc', hrd⟩ := hr.at hL
      rw [HN.out] at hv'
      cases hv'
      have : (Value.slice a' L.length c') = .slice a L.length c := Option.some.inj (hc'.symm.trans hcell)
      rw [this, hm] at hrd
      exact hrd)
    have hml : m ≤ maxLen := by obtain ⟨_, a', c', h1, h2, h3, -⟩ := HRL.out; omega
    unfold maxLen at hml
    have hki : (k : Int) < (n : Int) := by omega
    have hk0 : (0 : Int) ≤ (k : Int) := by omega
    have HLB : Hid (LedP wr b b (upTo hs k [])) := Lib.hid (HL.out.begin (by rw [HN.out]; omega) (by rw [HN.out]; exact hlt))
    have HAL : Hid (AdsOk L) := Lib.hid (ho L (List.mem_of_getElem? hL))
    clear hL hv hcell hm hr
    go_wp2_with fail
    clear hcr
    obtain ⟨wo, rfl⟩ : ∃ wo : World, wo = wr := ⟨_, rfl⟩
    go_loopw [20] (fun i wr => ∃ q : Nat, q ≤ m ∧ i = .int .i64 q ∧ Hid (LedP wr b b (upTo hs k (L.take q))) ∧ Hid (Keep noBlk w wr)) (fun i _ => m - (intOf i).toNat)
    case atStart => exact ⟨0, Nat.zero_le _, rfl, Lib.hid (by rw [List.take_zero]; exact HLB.out), HK⟩
    case round =>
    obtain ⟨q, hq, rfl, HQ, HKQ⟩ := hrel
    by_cases hlt2 : q < m
    · obtain ⟨x, hx⟩ : ∃ x, L[q]? = some x := ⟨L[q]'(by rw [HLM.out]; exact hlt2), List.getElem?_eq_getElem _⟩
      have hr2 := HRL.out.keep HKQ.out fun _ _ => id
      rw [← HLM.out] at hr2
      obtain ⟨p, o2, cap2, hv2, hat⟩ := rd_ad hr2 hx
      have e1 : a = some ⟨p, o2, none⟩ := by cases hv2; rfl
      subst e1
      have HX := Lib.hid hat
      have HXO := Lib.hid (HAL.out x (List.mem_of_getElem? hx))
      have HTX : Hid (L.take (q + 1) = L.take q ++ [x]) := Lib.hid (by rw [List.take_add_one, hx]; rfl)
      have hqi : (q : Int) < (m : Int) := by omega
      have hq0 : (0 : Int) ≤ (q : Int) := by omega
      obtain ⟨lst, hled, hkeys⟩ := HQ.out
      have HLED := Lib.hid hled; have HKEYS := Lib.hid hkeys
      have hbr : b < wr.heap.size := hled.map.lt'
      clear hx hr2 hv2 hat hled hkeys
      rcases hlk : look lst x with _ | v
      · have HLK := Lib.hid hlk
        have hnew := look_nn hlk
        have HNEW := Lib.hid hnew
        have hz0 : hw (upTo hs k (L.take q)) x = 0#64 := hw_zero (by rw [upTo_len hs k (by rw [HN.out]; exact hlt), ← Nat.succ_eq_add_one]; omega) (fun R hR hx => by
          have := (HKEYS.out x).2 ⟨R, hR, hx⟩
          obtain ⟨p', hp', e⟩ := List.mem_map.1 this
          exact hnew p' hp' e)
        have HZ0 := Lib.hid hz0
        have CO := Lib.hid (fun w => bof_any w (.slice none 0 0) [] n (Rd.nil w 1) (by omega) (by omega) (fun x hx => by cases hx))
        clear hlk hnew hz0
        go_wp2_with (first
          | ((with_reducible show wpList _ _ _ (⟨some 23, .load 25 (.tmp 22), _, _, _, _⟩ :: _) _ _); refine wpList_load_mid rfl 25 (.tmp 22) rfl p (o2 + q * 2) rfl (adCs x) _ HX.out adUnder rfl sizeAd ?_)
          | ((with_reducible show wpList _ _ _ (⟨some 7, .alloc 25, _, _, _, _⟩ :: _) _ _); refine wpList_alloc_at rfl 25 rfl zeroAd zeroAddr #[.int .i64 0, .int .i64 0] rfl ?_)
          | ((with_reducible show wpList _ _ _ (⟨none, .store 25 (.tmp 7) (.tmp 23), _, _, _, _⟩ :: _) _ _); refine wpList_store_agg rfl 25 (.tmp 7) (.tmp 23) rfl wr.heap.size 0 (adCs x) rfl rfl #[.int .i64 0, .int .i64 0] 25 (heap_alloc_new _ _) (Nat.le_refl _) sizeAd (oneCell_ad _) ?_
             intro w3 hb3 hk3
             rw [spl_whole _ _ (by rfl)] at hb3
             have hkr : Keep noBlk wr w3 := ((Keep.refl noBlk wr).alloc _).trans' hk3 (fun _ _ h => h) (fun i hi e => by omega)
             have HB3 := Lib.hid hb3; have HLED3 := Lib.hid (HLED.out.keep hkr); have HK3 := Lib.hid (HKQ.out.trans hkr)
             have hs3 : wr.heap.size < w3.heap.size := lt_of_block hb3
             clear hb3 hk3 hkr)
          | ((with_reducible show wpList _ _ _ (⟨some 26, .load 25 (.tmp 7), _, _, _, _⟩ :: _) _ _); refine wpList_load_mid rfl 25 (.tmp 7) rfl wr.heap.size 0 rfl (adCs x) _ (rangeAt_whole HB3.out) adUnder rfl sizeAd ?_)
          | ((with_reducible show wpList _ _ _ (⟨_, .lookup _ _ _ true, _, _, _, _⟩ :: _) _ _); refine wpList_lookup_ok_is rfl (.tmp 25) (.tmp 26) 49 rfl adEnc Try.underlying49 (z := none) (zeroBits _) x HXO.out rfl rfl HLED3.out.map ?_
             rw [HLK.out]
             show wpList _ _ _ _ (Act.put _ _ (Value.tuple #[.slice none 0 0, .bool false])) _))
        refine (CO.out _).mono ?_
        rintro e w4 ⟨g4, rfl, hb4, hg4, hk4⟩
        have HB4 := Lib.hid (hk4.blk HB3.out id); have HLED4 := Lib.hid (HLED3.out.keep hk4); have HK4 := Lib.hid (HK3.out.trans hk4); have HW4 := Lib.hid hb4
        have hs4 := hk4.size
        have HD4 : Hid (∀ p ∈ lst, p.2 ≠ some g4) := Lib.hid (fun p hp e => by
          obtain ⟨g', h1, h2, -⟩ := HLED3.out.word p hp
          rw [h1] at e
          cases e
          have := lt_of_block h2
          omega)
        clear hk4 hb4 CO
        go_wp2_with (first
          | ((with_reducible show wpList _ _ _ (⟨some 36, .load 25 (.tmp 7), _, _, _, _⟩ :: _) _ _); refine wpList_load_mid rfl 25 (.tmp 7) rfl wr.heap.size 0 rfl (adCs x) _ (rangeAt_whole HB4.out) adUnder rfl sizeAd ?_)
          | ((with_reducible show wpList _ _ _ (⟨none, .mapUpdate 49 (.tmp 35) (.tmp 36) (.tmp 37), _, _, _, _⟩ :: _) _ _); refine wpList_mapUpdate_is rfl rfl (.tmp 35) (.tmp 36) (.tmp 37) 49 rfl adEnc Try.underlying49 x HXO.out (some g4) rfl rfl rfl HLED4.out.map ?_
             intro w5 hm5 hk5
             have HLED5 := Lib.hid (HLED4.out.add HNEW.out hm5 (by rw [HZ0.out]; exact HW4.out) hk5 (by omega) (by omega) HD4.out)
             have HW5 := Lib.hid (hk5.blk HW4.out (by omega)); have HK5 := Lib.hid (HK4.out.trans' hk5 (U := noBlk) (fun _ _ h => h) (fun i hi e => by omega))
             have hs5 := hk5.size
             clear hm5 hk5))
        refine (bset_any w5 g4 k _ HW5.out (by omega)).mono ?_
        rintro e w6 ⟨rfl, hb6, hk6⟩
        have HP6 : Hid (LedP w6 b b (upTo hs k (L.take (q + 1)))) := Lib.hid (by
          rw [HTX.out]
          refine ⟨upsert lst x (some g4), HLED5.out.turn (x := x) (g := g4) (by rw [upsert_none HNEW.out]; simp) ?_ hk6 (fun a ha => hw_other (by rw [HN.out]; omega) (by rw [HN.out]; exact hlt) _ ha) (by omega), fun a => ?_⟩
          · rw [hw_step (by rw [HN.out]; omega) (by rw [HN.out]; exact hlt), HZ0.out]
            exact hb6
          · rw [keys_upsert, HKEYS.out a, upTo_mem])
        have HK6 := Lib.hid (HK5.out.trans' hk6 (U := noBlk) (fun _ _ h => h) (fun i hi e => by omega))
        clear hb6 hk6
        go_wp2_with fail
        go_roundw
        case rel => exact ⟨q + 1, by omega, by go_num, HP6, HK6⟩
        case measure => simp [intOf]; omega
      · obtain ⟨g4, hv4, hw4, hg4, hgb4⟩ := HLED.out.word _ (look_some hlk)
        have hv4' : v = some g4 := hv4
        subst hv4'
        have HLK := Lib.hid hlk
        have HIN := Lib.hid (look_some hlk)
        have HW3 := Lib.hid hw4
        have hgr : g4 < wr.heap.size := lt_of_block hw4
        clear hlk hv4 hw4
        go_wp2_with (first
          | ((with_reducible show wpList _ _ _ (⟨some 23, .load 25 (.tmp 22), _, _, _, _⟩ :: _) _ _); refine wpList_load_mid rfl 25 (.tmp 22) rfl p (o2 + q * 2) rfl (adCs x) _ HX.out adUnder rfl sizeAd ?_)
          | ((with_reducible show wpList _ _ _ (⟨some 7, .alloc 25, _, _, _, _⟩ :: _) _ _); refine wpList_alloc_at rfl 25 rfl zeroAd zeroAddr #[.int .i64 0, .int .i64 0] rfl ?_)
          | ((with_reducible show wpList _ _ _ (⟨none, .store 25 (.tmp 7) (.tmp 23), _, _, _, _⟩ :: _) _ _); refine wpList_store_agg rfl 25 (.tmp 7) (.tmp 23) rfl wr.heap.size 0 (adCs x) rfl rfl #[.int .i64 0, .int .i64 0] 25 (heap_alloc_new _ _) (Nat.le_refl _) sizeAd (oneCell_ad _) ?_
             intro w3 hb3 hk3
             rw [spl_whole _ _ (by rfl)] at hb3
             have hkr : Keep noBlk wr w3 := ((Keep.refl noBlk wr).alloc _).trans' hk3 (fun _ _ h => h) (fun i hi e => by omega)
             have HB3 := Lib.hid hb3; have HLED3 := Lib.hid (HLED.out.keep hkr); have HK3 := Lib.hid (HKQ.out.trans hkr)
             have hs3 : wr.heap.size < w3.heap.size := lt_of_block hb3
             clear hb3 hk3 hkr)
          | ((with_reducible show wpList _ _ _ (⟨some 26, .load 25 (.tmp 7), _, _, _, _⟩ :: _) _ _); refine wpList_load_mid rfl 25 (.tmp 7) rfl wr.heap.size 0 rfl (adCs x) _ (rangeAt_whole HB3.out) adUnder rfl sizeAd ?_)
          | ((with_reducible show wpList _ _ _ (⟨_, .lookup _ _ _ true, _, _, _, _⟩ :: _) _ _); refine wpList_lookup_ok_is rfl (.tmp 25) (.tmp 26) 49 rfl adEnc Try.underlying49 (z := none) (zeroBits _) x HXO.out rfl rfl HLED3.out.map ?_
             rw [HLK.out]
             show wpList _ _ _ _ (Act.put _ _ (Value.tuple #[.slice (some ⟨g4, 0, none⟩) 1 1, .bool true])) _))
        obtain ⟨g', e1, hw3, -⟩ := HLED3.out.word _ HIN.out
        have e2 : g' = g4 := by cases e1; rfl
        subst e2
        refine (bset_any w3 g' k _ hw3 (by omega)).mono ?_
        rintro e w6 ⟨rfl, hb6, hk6⟩
        have HP6 : Hid (LedP w6 b b (upTo hs k (L.take (q + 1)))) := Lib.hid (by
          rw [HTX.out]
          refine ⟨lst, HLED3.out.turn (x := x) (g := g') HIN.out ?_ hk6 (fun a ha => hw_other (by rw [HN.out]; omega) (by rw [HN.out]; exact hlt) _ ha) (fun e => hgb4 e.symm), fun a => ?_⟩
          · rw [hw_step (by rw [HN.out]; omega) (by rw [HN.out]; exact hlt)]
            exact hb6
          · rw [HKEYS.out a, upTo_mem]
            exact ⟨.inl, fun h => h.elim id fun e => by rw [e]; exact (HKEYS.out x).1 (List.mem_map.2 ⟨_, HIN.out, rfl⟩)⟩)
        have HK6 := Lib.hid (HK3.out.trans' hk6 (U := noBlk) (fun _ _ h => h) (fun i hi e => by omega))
        clear hb6 hk6 hw3
        go_wp2_with fail
        go_roundw
        case rel => exact ⟨q + 1, by omega, by go_num, HP6, HK6⟩
        case measure => simp [intOf]; omega
    · obtain rfl : q = m := by omega
      have hp := HQ.out
      rw [List.take_of_length_le (by rw [HLM.out]; exact Nat.le_refl _), upTo_full HLE.out] at hp
      have HPE := Lib.hid hp
      clear hp
      go_wp2_with fail
      go_roundw
      case rel => exact ⟨k + 1, by omega, by go_num, HPE, HKQ⟩
      case measure => simp [intOf]; omega
  · obtain rfl : k = n := by omega
    have hp := HL.out
    rw [List.take_of_length_le (by rw [HN.out]; exact Nat.le_refl _)] at hp
    have HPE := Lib.hid hp
    clear hp
    go_wp2_with fail
    go_ret
    exact ⟨b, rfl, HPE.out, hbw, HK.out⟩
end Go.Proofs.Ytmilgaoilglmjaa
