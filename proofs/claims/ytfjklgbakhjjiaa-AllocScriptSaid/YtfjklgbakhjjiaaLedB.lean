/-
  A ledger: waits, Free, Used.
  Conditions: none but those told.
-/
import Derived.Test.YtfjklgbakhjjiaaLedA
import Derived.Test.YtfjklgbakhjjiaaIntA
import Derived.Test.YtfjklgbakhjjiaaOfAddr
import Derived.Conc.LoneSelectN
namespace Go.Proofs.Ytfjklgbakhjjiaa
open Go.RowKit Go.Maps Go.ChangeMaps
set_option maxRecDepth 100000
set_option linter.unusedVariables false
open Go.Conc (run_len_chan)

def WaitsPost (w : World) (b D Z : Nat) (L : List Ad) (e : Ending) (w' : World) : Prop :=
  e = .returned (.tuple #[]) ∧ ∃ c : Nat → Option Nat, WordsIs w' b c D L ∧ (∀ d, d < D → ∃ g, c d = some g ∧ w.heap.size ≤ g ∧ ChanIs w' g Z (freeTo L d Z)) ∧ (∀ d e g, d < D → e < D → c d = some g → c e = some g → d = e) ∧ Keep (fun k => k = b) w w'
/-- What was laid so far. -/
structure WaitsInv (w : World) (b D Z : Nat) (L : List Ad) (c : Nat → Option Nat) (i : Nat) (w' : World) : Prop where
  words : WordsIs w' b c D L
  chans : ∀ d, d < i → ∃ g, c d = some g ∧ w.heap.size ≤ g ∧ ChanIs w' g Z (freeTo L d Z)
  inj : ∀ d e g, d < i → e < i → c d = some g → c e = some g → d = e
  keep : Keep (fun k => k = b) w w'
theorem WaitsInv.next {w w' w'' : World} {b D Z i g : Nat} {L : List Ad} {c : Nat → Option Nat} (h : WaitsInv w b D Z L c i w') (hb : b < w.heap.size) (hw : WordsIs w'' b (fun e => if e = i then some g else c e) D L) (hch : ChanIs w'' g Z (freeTo L i Z)) (hg : w'.heap.size ≤ g) (k : Keep (fun k => k = b) w' w'') :
    WaitsInv w b D Z L (fun e => if e = i then some g else c e) (i + 1) w'' := by
  have hs := h.keep.size
  refine ⟨hw, fun d hd => ?_, fun d e q hd he hq hq' => ?_, h.keep.trans k⟩
  · by_cases e : d = i
    · subst e
      exact ⟨g, if_pos rfl, by omega, hch⟩
    · obtain ⟨q, h1, h2, h3⟩ := h.chans d (by omega)
      exact ⟨q, by rw [← h1]; exact if_neg e, h2, h3.keep k (fun e => by omega)⟩
  · have hlt : ∀ d q, d < i → c d = some q → q < w'.heap.size := fun d q hd hc => by
      obtain ⟨q', h1, -, h3⟩ := h.chans d hd
      rw [hc] at h1
      cases h1
      exact h3.lt
    by_cases e1 : d = i <;> by_cases e2 : e = i
    · omega
    · simp only [e1, e2, if_true, if_false] at hq hq'
      cases hq
      have := hlt e g (by omega) hq'
      omega
    · simp only [e1, e2, if_true, if_false] at hq hq'
      cases hq'
      have := hlt d g (by omega) hq
      omega
    · simp only [e1, e2, if_false] at hq hq'
      exact h.inj d e q (by omega) (by omega) hq hq'
/-- What is used, device by device. -/
def usedTo (L : List Ad) (d k : Nat) : List Ad := ((List.range k).filter (usedB L d)).map fun (s : Nat) => (⟨(d : Int), (s : Int)⟩ : Ad)
def usedAll (L : List Ad) (D Z : Nat) : List Ad := (List.range D).flatMap fun d => usedTo L d Z
theorem usedTo_succ (L : List Ad) (d k : Nat) : usedTo L d (k + 1) = usedTo L d k ++ if usedB L d k then [(⟨(d : Int), (k : Int)⟩ : Ad)] else [] := by
  unfold usedTo
  rw [List.range_succ, List.filter_append, List.map_append]
  congr 1
  cases h : usedB L d k <;> simp [h]
theorem usedAll_succ (L : List Ad) (D Z : Nat) : usedAll L (D + 1) Z = usedAll L D Z ++ usedTo L D Z := by
  unfold usedAll
  rw [List.range_succ, List.flatMap_append]
  simp
theorem usedTo_len (L : List Ad) (d k : Nat) : (usedTo L d k).length ≤ k := by
  unfold usedTo
  rw [List.length_map]
  have := List.length_filter_le (usedB L d) (List.range k)
  rwa [List.length_range] at this
theorem usedAll_len (L : List Ad) (D Z : Nat) : (usedAll L D Z).length ≤ D * Z := by
  induction D with
  | zero => simp [usedAll]
  | succ D ih =>
    rw [usedAll_succ, List.length_append, Nat.succ_mul]
    have := usedTo_len L D Z
    omega
theorem mem_usedTo {L : List Ad} {d k : Nat} {x : Ad} : x ∈ usedTo L d k ↔ ∃ s : Nat, s < k ∧ x = ⟨(d : Int), (s : Int)⟩ ∧ x ∈ L := by
  unfold usedTo
  rw [List.mem_map]
  constructor
  · rintro ⟨s, hs, rfl⟩
    obtain ⟨h1, h2⟩ := List.mem_filter.1 hs
    exact ⟨s, List.mem_range.1 h1, rfl, of_decide_eq_true h2⟩
  · rintro ⟨s, h1, rfl, h2⟩
    exact ⟨s, List.mem_filter.2 ⟨List.mem_range.2 h1, decide_eq_true h2⟩, rfl⟩
theorem usedAll_canon {L : List Ad} {D Z : Nat} (hp : ∀ x ∈ L, PlaceIn x D Z) : usedAll L D Z = canon L := by
  refine canon_eq ?_ fun x => ?_
  · unfold usedAll Rises
    rw [List.pairwise_flatMap]
    refine ⟨fun d _ => ?_, List.pairwise_lt_range.imp ?_⟩
    · unfold usedTo
      rw [List.pairwise_map]
      refine (List.Pairwise.filter _ List.pairwise_lt_range).imp ?_
      intro s t h
      rw [adLt_iff]
      exact .inr ⟨rfl, Int.ofNat_lt.2 h⟩
    · intro d e h x hx y hy
      obtain ⟨s, -, rfl, -⟩ := mem_usedTo.1 hx
      obtain ⟨t, -, rfl, -⟩ := mem_usedTo.1 hy
      rw [adLt_iff]
      exact .inl (Int.ofNat_lt.2 h)
  · unfold usedAll
    rw [List.mem_flatMap]
    constructor
    · rintro ⟨d, -, hx⟩
      obtain ⟨s, -, rfl, h⟩ := mem_usedTo.1 hx
      exact h
    · intro hx
      obtain ⟨xd, xs⟩ := x
      obtain ⟨p1, p2, p3, p4⟩ := hp _ hx
      simp only at p1 p2 p3 p4
      obtain ⟨d, rfl⟩ : ∃ d : Nat, xd = (d : Int) := ⟨xd.toNat, by omega⟩
      obtain ⟨s, rfl⟩ : ∃ d : Nat, xs = (d : Int) := ⟨xs.toNat, by omega⟩
      exact ⟨d, List.mem_range.2 (by omega), mem_usedTo.2 ⟨s, by omega, rfl, hx⟩⟩

set_option maxHeartbeats 8000000 in
theorem waits_any (w : World) (a b D Z : Nat) (c : Nat → Option Nat) (L : List Ad) (ht : TopIs w a (Z : Int) (some ⟨b, 0, none⟩) D) (hw : WordsIs w b c D L) (hD : D ≤ 8) (hZ5 : 5 ≤ Z) (hZ : Z ≤ 4096) : Calls Try.prog 39 #[.pointer (some ⟨a, 0, none⟩)] w (WaitsPost w b D Z L) := by
  have hblt := hw.lt
  have hab : a ≠ b := by
    intro e
    subst e
    obtain ⟨cs, h1, -⟩ := hw.row
    unfold TopIs at ht
    rw [ht] at h1
    cases h1
  have HT := Lib.hid ht; have HW := Lib.hid hw
  have hc1 := ht.c1
  have hc0 := ht.c0
  clear ht hw
  go_enter Try.func39, Try.ntmps39
  go_wp2_with fail
  go_loopw [8] (fun i wr => ∃ (k : Nat) (c' : Nat → Option Nat), k ≤ D ∧ i = .int .i64 k ∧ Hid (WaitsInv w b D Z L c' k wr)) (fun i _ => D - (intOf i).toNat)
  case atStart => exact ⟨0, c, Nat.zero_le _, rfl, Lib.hid ⟨HW.out, fun d h => absurd h (Nat.not_lt_zero _), fun d e q h => absurd h (Nat.not_lt_zero _), Keep.refl _ _⟩⟩
  case round =>
  obtain ⟨k, c', hk, rfl, HI⟩ := hrel
  clear hc0 hc1
  have hc1 := (HT.out.keep HI.out.keep hab).c1
  have hc0 := (HT.out.keep HI.out.keep hab).c0
  by_cases hlt : k < D
  · have hki : (k : Int) < (D : Int) := by omega
    have hk0 : (0 : Int) ≤ (k : Int) := by omega
    have HC := Lib.hid (fun wx (kk : Keep noBlk wr wx) => dwait_any wx b D c' L (HI.out.words.keep kk id) k Z hlt hZ5 hZ)
    go_wp2_with fail
    go_still_tail 10, (by kernel_rfl)
    go_wp2_with fail
    refine (HC.out _ (Keep.refl noBlk _).drew).mono ?_
    rintro e w5 ⟨rfl, g, h1, h2, h3, h4⟩
    have HI2 := Lib.hid (HI.out.next hblt h1 h2 h3 ((Keep.refl (fun k => k = b) wr).drew.trans h4))
    clear h1 h2 h3 h4 HC
    go_wp2_with fail
    go_roundw
    case rel => exact ⟨k + 1, _, by omega, by go_num, HI2⟩
    case measure => simp [intOf]; omega
  · obtain rfl : D = k := by omega
    have hpost : WaitsPost w b D Z L (.returned (.tuple #[])) wr := ⟨rfl, c', HI.out.words, HI.out.chans, HI.out.inj, HI.out.keep⟩
    have HPO := Lib.hid hpost
    clear hpost
    go_wp2_with fail
    go_end0
    exact HPO.out

set_option maxHeartbeats 8000000 in
theorem ledFree_any (w : World) (lo a b D Z : Nat) (c : Nat → Option Nat) (L : List Ad) (h : LedIs w lo a b c D Z L) : Calls Try.prog 17 #[.pointer (some ⟨a, 0, none⟩)] w (IPost w (freeN L D Z)) := by
  have HL := Lib.hid h
  have hbd := h.bd
  have hD0 : D ≠ 0 := by omega
  have HN := none_any w a D Z _ h.top
  rw [decide_eq_false hD0] at HN
  have HN := Lib.hid HN
  clear h hD0
  go_enter Try.func17, Try.ntmps17
  go_wp2_with fail
  refine HN.out.mono ?_
  rintro e w1 ⟨rfl, rfl⟩
  clear HN
  have hc1 := HL.out.top.c1
  go_wp2_with fail
  go_loopw [3, 12] (fun t i wr => ∃ (k : Nat) (pa : Option Addr) (pc : Nat), k ≤ D ∧ t = .slice pa k pc ∧ i = .int .i64 k ∧ Hid (wr.ownsRow w.heap.size 3 1 (.slice pa k pc) k ((freeN L k Z).map fun x => .int .i64 x)) ∧ Hid (Keep noBlk w wr)) (fun _ i _ => D - (intOf i).toNat)
  case atStart => exact ⟨0, none, 0, Nat.zero_le _, rfl, rfl, Lib.hid (World.ownsRow_nil _ _ _ _), Lib.hid (Keep.refl _ _)⟩
  case round =>
  obtain ⟨k, pa, pc, hk, rfl, rfl, HO, HK⟩ := hrel
  clear hc1
  have hc1 := HK.out.cell HL.out.top.c1 id
  by_cases hlt : k < D
  · have hki : (k : Int) < (D : Int) := by omega
    have hk0 : (0 : Int) ≤ (k : Int) := by omega
    obtain ⟨gc, hgc, hch⟩ := HL.out.chans k hlt
    have hcc := HK.out.cell (HL.out.words.chan hlt) id
    rw [hgc] at hcc
    obtain ⟨sn, rn, hg⟩ := hch.keep HK.out id
    have hlen := fun ty => run_len_chan (P := Try.prog) 74 ty Try.underlying74 hg
    have hszb : (((freeTo L k Z).map fun x => Value.int .i64 x).toArray).size = (freeTo L k Z).length := by rw [List.size_toArray, List.length_map]
    rw [hszb] at hlen
    obtain ⟨q, hq⟩ : ∃ q, (freeTo L k Z).length = q := ⟨_, rfl⟩
    rw [hq] at hlen
    have HFN : Hid (freeN L (k + 1) Z = freeN L k Z ++ [(q : Int)]) := Lib.hid (by unfold freeN; rw [List.range_succ, List.map_append, ← hq]; rfl)
    have HGB := Lib.hid hg
    obtain ⟨w8, hw8, hk8, hb8, hs8⟩ := alloc_facts wr #[.int .i64 (q : Int)] 3
    have HR8 : Hid (Rd w8 1 (.slice (some ⟨wr.heap.size, 0, none⟩) 1 1) 1 [.int .i64 (q : Int)]) := Lib.hid (rd_blk (n := 1) (size := 1) (vs := [.int .i64 (q : Int)]) hb8 rfl (by unfold maxLen; omega))
    have HO8 := Lib.hid (hk8.owns HO.out fun _ _ => id); have HK8 := Lib.hid (HK.out.trans hk8)
    have hsz8 : w.heap.size ≤ w8.heap.size := HK8.out.size
    clear hk8 hb8 hs8 hg hszb hq hch hgc
    obtain ⟨oo, hoo⟩ : ∃ oo, k * 65 = oo := ⟨_, rfl⟩
    rw [hoo] at hcc
    go_wp2_with (first
      | (at_builtin; try rw [hw8]
         refine wpList_append_rd rfl (.tmp 15) (.tmp 25) 43 rfl w.heap.size 3 (.int .i64 0) 1 8 Try.underlying43 infoI64 rfl (by decide) (.slice pa k pc) k ((freeN L k Z).map fun x => .int .i64 x) rfl HO8.out (.slice (some ⟨wr.heap.size, 0, none⟩) 1 1) 1 [.int .i64 (q : Int)] rfl HR8.out (oneCell_ints [(q : Int)]) (by unfold maxLen; omega) (by omega) hsz8 ?_
         intro v' w5 ho5 hk5 hn5 hb5
         obtain ⟨va, vc, rfl, -, -⟩ := (Rd.of_owns ho5).form
         have HO5 : Hid (w5.ownsRow w.heap.size 3 1 (.slice va (k + 1) vc) (k + 1) ((freeN L (k + 1) Z).map fun x => .int .i64 x)) := Lib.hid (by rw [HFN.out, List.map_append]; exact ho5)
         have HK5 := Lib.hid (HK8.out.trans' hk5 (U := noBlk) (fun _ _ h => h) (fun i hi e => by have := owns_base HO8.out e; omega))
         clear ho5 hk5 hn5 hb5 hw8))
    go_roundw
    case rel => exact ⟨k + 1, va, vc, by omega, rfl, by go_num, HO5, HK5⟩
    case measure => simp [intOf]; omega
  · obtain rfl : D = k := by omega
    go_wp2_with fail
    go_ret
    exact ⟨_, rfl, by rw [freeN_len]; exact HO.out, HK.out⟩

set_option maxHeartbeats 8000000 in
theorem ledUsed_any (w : World) (lo a b D Z : Nat) (c : Nat → Option Nat) (L : List Ad) (h : LedIs w lo a b c D Z L) : Calls Try.prog 19 #[.pointer (some ⟨a, 0, none⟩)] w (ListPost w (usedAll L D Z)) := by
  have HL := Lib.hid h
  have hbd := h.bd
  have hD0 : D ≠ 0 := by omega
  have HN := none_any w a D Z _ h.top
  rw [decide_eq_false hD0] at HN
  have HN := Lib.hid HN
  clear h hD0
  go_enter Try.func19, Try.ntmps19
  go_wp2_with fail
  refine HN.out.mono ?_
  rintro e w1 ⟨rfl, rfl⟩
  clear HN
  have hc1 := HL.out.top.c1
  go_wp2_with fail
  go_loopw [3, 13] (fun t i wr => ∃ (k m : Nat) (pa : Option Addr) (pc : Nat), k ≤ D ∧ m ≤ k * 4096 ∧ t = .slice pa m pc ∧ i = .int .i64 k ∧ Hid ((usedAll L k Z).length = m) ∧ Hid (wr.ownsRow w.heap.size 50 2 (.slice pa m pc) m (adCells (usedAll L k Z))) ∧ Hid (Keep noBlk w wr)) (fun _ i _ => D - (intOf i).toNat)
  case atStart => exact ⟨0, 0, none, 0, Nat.zero_le _, Nat.zero_le _, rfl, rfl, Lib.hid rfl, Lib.hid (World.ownsRow_nil _ _ _ _), Lib.hid (Keep.refl _ _)⟩
  case round =>
  obtain ⟨k, m, pa, pc, hk, hm, rfl, rfl, HM, HO, HK⟩ := hrel
  clear hc1
  have hc0 := HK.out.cell HL.out.top.c0 id
  by_cases hlt : k < D
  · have hki : (k : Int) < (D : Int) := by omega
    have hk0 : (0 : Int) ≤ (k : Int) := by omega
    obtain ⟨wo, hwo⟩ : ∃ wo, wr = wo := ⟨_, rfl⟩
    rw [hwo] at HO HK hc0 ⊢
    clear hwo
    go_wp2_with fail
    go_loopw [3, 20] (fun t i wr => ∃ (s q : Nat) (pa : Option Addr) (pc : Nat), s ≤ Z ∧ q ≤ s ∧ t = .slice pa (m + q) pc ∧ i = .int .i64 s ∧ Hid ((usedTo L k s).length = q) ∧ Hid (wr.ownsRow w.heap.size 50 2 (.slice pa (m + q) pc) (m + q) (adCells (usedAll L k Z ++ usedTo L k s))) ∧ Hid (Keep noBlk w wr)) (fun _ i _ => Z - (intOf i).toNat)
    case atStart => exact ⟨0, 0, pa, pc, Nat.zero_le _, Nat.zero_le _, rfl, rfl, Lib.hid rfl, Lib.hid (by rw [show usedTo L k 0 = [] from rfl, List.append_nil]; exact HO.out), HK⟩
    case round =>
    clear HO HK hc0
    obtain ⟨s, q, pa, pc, hs, hq, rfl, rfl, HQ, HO, HK⟩ := hrel
    by_cases hls : s < Z
    · have hsi : (s : Int) < (Z : Int) := by omega
      have hs0 : (0 : Int) ≤ (s : Int) := by omega
      have hc1 := HK.out.cell HL.out.top.c1 id
      have HC := dhas_any wr b D c L (HL.out.words.keep HK.out id) k s hlt (by omega)
      have HTS := Lib.hid (usedTo_succ L k s)
      obtain ⟨ub, hub⟩ : ∃ u, usedB L k s = u := ⟨_, rfl⟩
      rw [hub] at HC HTS
      have HC := Lib.hid HC
      clear hub
      obtain ⟨mq, hmq⟩ : ∃ mq, m + q = mq := ⟨_, rfl⟩
      have HMQ := Lib.hid hmq
      rw [hmq] at HO ⊢
      have hmq2 : mq ≤ 40000 := by omega
      clear hmq
      go_wp2_with fail
      refine HC.out.mono ?_
      rintro e w4 ⟨rfl, rfl⟩
      clear HC
      cases ub
      · go_wp2_with fail
        go_roundw
        case rel => exact ⟨s + 1, q, _, _, by omega, by omega, by rw [HMQ.out], by go_num, Lib.hid (by rw [HTS.out]; simpa using HQ.out), Lib.hid (by rw [HTS.out, HMQ.out]; simpa using HO.out), HK⟩
        case measure => simp [intOf]; omega
      · obtain ⟨w8, hw8, hk8, hb8, hs8⟩ := alloc_facts wr (adCs ⟨(k : Int), (s : Int)⟩).toArray 50
        have HR8 : Hid (Rd w8 2 (.slice (some ⟨wr.heap.size, 0, none⟩) 1 1) 1 (adCs ⟨(k : Int), (s : Int)⟩)) := Lib.hid (rd_blk (n := 1) (size := 2) (vs := adCs ⟨(k : Int), (s : Int)⟩) hb8 rfl (by unfold maxLen; omega))
        have HO8 := Lib.hid (hk8.owns HO.out fun _ _ => id); have HK8 := Lib.hid (HK.out.trans hk8)
        have hsz8 : w.heap.size ≤ w8.heap.size := HK8.out.size
        have HTT : Hid (adCells (usedAll L k Z ++ usedTo L k (s + 1)) = adCells (usedAll L k Z ++ usedTo L k s) ++ adCs ⟨(k : Int), (s : Int)⟩) := Lib.hid (by rw [HTS.out, if_pos rfl, ← List.append_assoc, adCells_append, adCells_one])
        clear hk8 hb8 hs8
        go_wp2_with (first
          | ((with_reducible show wpList _ _ _ (⟨_, .buildSlice _ 1 _, _, _, _, _⟩ :: _) _ _); refine wpList_build_one rfl 22 50 (.tmp 34) rfl Try.underlying22 infoAd (by decide) (adCs ⟨(k : Int), (s : Int)⟩) rfl (by decide) rfl ?_; rw [hw8])
          | (at_builtin; refine wpList_append_rd rfl (.tmp 31) (.tmp 35) 22 rfl w.heap.size 50 zeroAd 2 16 Try.underlying22 infoAd rfl (by decide) (.slice pa mq pc) mq (adCells (usedAll L k Z ++ usedTo L k s)) rfl HO8.out (.slice (some ⟨wr.heap.size, 0, none⟩) 1 1) 1 (adCs ⟨(k : Int), (s : Int)⟩) rfl HR8.out (oneCell_ad _) (by unfold maxLen; omega) (by omega) hsz8 ?_
             intro v' w5 ho5 hk5 hn5 hb5
             obtain ⟨va, vc, rfl, -, -⟩ := (Rd.of_owns ho5).form
             have HO5 : Hid (w5.ownsRow w.heap.size 50 2 (.slice va (mq + 1) vc) (mq + 1) (adCells (usedAll L k Z ++ usedTo L k (s + 1)))) := Lib.hid (by rw [HTT.out]; exact ho5)
             have HK5 := Lib.hid (HK8.out.trans' hk5 (U := noBlk) (fun _ _ h => h) (fun i hi e => by have := owns_base HO8.out e; omega))
             clear ho5 hk5 hn5 hb5 hw8))
        have HMQ1 : Hid (mq + 1 = m + (q + 1)) := Lib.hid (by have := HMQ.out; omega)
        go_roundw
        case rel => exact ⟨s + 1, q + 1, va, vc, by omega, by omega, by rw [HMQ1.out], by go_num, Lib.hid (by rw [HTS.out]; simp only [if_true]; rw [List.length_append, HQ.out]; rfl), Lib.hid (by rw [← HMQ1.out]; exact HO5.out), HK5⟩
        case measure => simp [intOf]; omega
    · obtain rfl : Z = s := by omega
      have HO2 : Hid (wr.ownsRow w.heap.size 50 2 (.slice pa (m + q) pc) (m + q) (adCells (usedAll L (k + 1) Z))) := Lib.hid (by rw [usedAll_succ]; exact HO.out)
      have HM2 : Hid ((usedAll L (k + 1) Z).length = m + q) := Lib.hid (by rw [usedAll_succ, List.length_append, HM.out, HQ.out])
      go_wp2_with fail
      go_roundw
      case rel => exact ⟨k + 1, m + q, pa, pc, by omega, by omega, rfl, by go_num, HM2, HO2, HK⟩
      case measure => simp [intOf]; omega
  · obtain rfl : D = k := by omega
    go_wp2_with fail
    go_ret
    exact ⟨_, rfl, by rw [HM.out]; exact HO.out, HK.out⟩

end Go.Proofs.Ytfjklgbakhjjiaa
