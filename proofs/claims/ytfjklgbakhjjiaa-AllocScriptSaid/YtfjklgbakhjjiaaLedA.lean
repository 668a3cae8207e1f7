/-
  A ledger in memory; none, place, Has.
  Conditions: none but those told.
-/
import Derived.Test.YtfjklgbakhjjiaaDevC
import Derived.Test.YtfjklgbakhjjiaaMayAddr
import Derived.Test.YtfjklgbakhjjiaaHasAddr
namespace Go.Proofs.Ytfjklgbakhjjiaa
open Go.RowKit Go.Maps Go.ChangeMaps
set_option maxRecDepth 100000
set_option linter.unusedVariables false

/-- A ledger's own block. -/
def TopIs (w : World) (a : Nat) (S : Int) (v : Option Addr) (n : Nat) : Prop := w.heap[a]? = some (.cells #[.int .i64 S, .slice v n n] 53 (0, 0))
theorem TopIs.keep {T : Nat → Prop} {w w' : World} {a n : Nat} {S : Int} {v : Option Addr} (h : TopIs w a S v n) (k : Keep T w w') (hT : ¬ T a) : TopIs w' a S v n := k.blk h hT
theorem TopIs.c0 {w : World} {a n : Nat} {S : Int} {v : Option Addr} (h : TopIs w a S v n) : w.cell? ⟨a, 0, none⟩ = some (.int .i64 S) := blk_cell h rfl
theorem TopIs.c1 {w : World} {a n : Nat} {S : Int} {v : Option Addr} (h : TopIs w a S v n) : w.cell? ⟨a, 1, none⟩ = some (.slice v n n) := blk_cell h rfl
/-- A ledger in memory: L is what is used; its blocks are a, b and the channels c. -/
structure LedIs (w : World) (lo a b : Nat) (c : Nat → Option Nat) (D S : Nat) (L : List Ad) : Prop where
  top : TopIs w a (S : Int) (some ⟨b, 0, none⟩) D
  words : WordsIs w b c D L
  chans : ∀ d, d < D → ∃ g, c d = some g ∧ ChanIs w g S (freeTo L d S)
  inj : ∀ d e g, d < D → e < D → c d = some g → c e = some g → d = e
  bd : 2 ≤ D ∧ D ≤ 8 ∧ 8 ≤ S ∧ S ≤ 4096
  lo : lo ≤ a ∧ lo ≤ b ∧ ∀ d g, d < D → c d = some g → lo ≤ g
/-- A ledger's blocks. -/
def Own (a b : Nat) (c : Nat → Option Nat) (D : Nat) (k : Nat) : Prop := k = a ∨ k = b ∨ ∃ d, d < D ∧ c d = some k
theorem LedIs.keep {T : Nat → Prop} {w w' : World} {lo a b D S : Nat} {c : Nat → Option Nat} {L : List Ad} (h : LedIs w lo a b c D S L) (k : Keep T w w') (hT : ∀ i, T i → ¬ Own a b c D i) : LedIs w' lo a b c D S L :=
  ⟨h.top.keep k (fun ht => hT _ ht (.inl rfl)), h.words.keep k (fun ht => hT _ ht (.inr (.inl rfl))), fun d hd => by
    obtain ⟨g, h1, h2⟩ := h.chans d hd
    exact ⟨g, h1, h2.keep k fun ht => hT _ ht (.inr (.inr ⟨d, hd, h1⟩))⟩, h.inj, h.bd, h.lo⟩
theorem LedIs.keep0 {w w' : World} {lo a b D S : Nat} {c : Nat → Option Nat} {L : List Ad} (h : LedIs w lo a b c D S L) (k : Keep noBlk w w') : LedIs w' lo a b c D S L := h.keep k fun _ h => h.elim
theorem LedIs.congr {w : World} {lo a b D S : Nat} {c : Nat → Option Nat} {L M : List Ad} (h : LedIs w lo a b c D S L) (he : ∀ x, x ∈ L ↔ x ∈ M) : LedIs w lo a b c D S M :=
  ⟨h.top, h.words.congr he, fun d hd => by
    obtain ⟨g, h1, h2⟩ := h.chans d hd
    exact ⟨g, h1, by rw [← freeTo_congr fun s _ _ => usedB_congr he d s]; exact h2⟩, h.inj, h.bd, h.lo⟩
theorem LedIs.own_lt {w : World} {lo a b D S : Nat} {c : Nat → Option Nat} {L : List Ad} (h : LedIs w lo a b c D S L) {k : Nat} (hk : Own a b c D k) : lo ≤ k ∧ k < w.heap.size := by
  rcases hk with rfl | rfl | ⟨d, hd, hc⟩
  · exact ⟨h.lo.1, (Array.getElem?_eq_some_iff.1 h.top).1⟩
  · exact ⟨h.lo.2.1, h.words.lt⟩
  · obtain ⟨g, h1, h2⟩ := h.chans d hd
    rw [hc] at h1
    cases h1
    exact ⟨h.lo.2.2 d k hd hc, h2.lt⟩
/-- What is a place, and is used. -/
def inB (x : Ad) (D S : Nat) (L : List Ad) : Bool := mayB x D S && decide (x ∈ L)
theorem mayB_nat {x : Ad} {D S : Nat} (h : mayB x D S = true) : ∃ d s : Nat, x = ⟨(d : Int), (s : Int)⟩ ∧ d < D ∧ 5 ≤ s ∧ s < S := by
  obtain ⟨xd, xs⟩ := x
  unfold mayB at h
  simp only [Bool.and_eq_true, decide_eq_true_eq] at h
  obtain ⟨⟨⟨⟨⟨⟨⟨h1, h2⟩, h3⟩, h4⟩, h5⟩, h6⟩, h7⟩, h8⟩ := h
  exact ⟨xd.toNat, xs.toNat, by rw [Int.toNat_of_nonneg h5, Int.toNat_of_nonneg (by omega)], by omega, by omega, by omega⟩
theorem mayB_of {d s D S : Nat} (hD : 2 ≤ D ∧ D ≤ 8 ∧ 8 ≤ S ∧ S ≤ 4096) (hd : d < D) (h5 : 5 ≤ s) (hs : s < S) : mayB ⟨(d : Int), (s : Int)⟩ D S = true := by
  unfold mayB
  simp only [Bool.and_eq_true, decide_eq_true_eq]
  refine ⟨⟨⟨⟨⟨⟨⟨?_, ?_⟩, ?_⟩, ?_⟩, ?_⟩, ?_⟩, ?_⟩, ?_⟩ <;> omega
theorem mayB_in {x : Ad} {D S : Nat} (hD : 2 ≤ D ∧ D ≤ 8 ∧ 8 ≤ S ∧ S ≤ 4096) : mayB x D S = true ↔ PlaceIn x D S := by
  constructor
  · intro h
    obtain ⟨d, s, rfl, h1, h2, h3⟩ := mayB_nat h
    exact ⟨by show (0 : Int) ≤ (d : Int); omega, by show (d : Int) < (D : Int); omega, by show (5 : Int) ≤ (s : Int); omega, by show (s : Int) < (S : Int); omega⟩
  · rintro ⟨h1, h2, h3, h4⟩
    unfold mayB
    simp only [Bool.and_eq_true, decide_eq_true_eq]
    refine ⟨⟨⟨⟨⟨⟨⟨?_, ?_⟩, ?_⟩, ?_⟩, ?_⟩, ?_⟩, ?_⟩, ?_⟩ <;> omega

theorem none_nil (w : World) : Calls Try.prog 49 #[.pointer none] w fun e w' => e = .returned (.bool true) ∧ w = w' := by
  go_enter Try.func49, Try.ntmps49
  go_wp2_with fail
  go_ret
  exact ⟨rfl, rfl⟩
theorem none_any (w : World) (a n : Nat) (S : Int) (v : Option Addr) (h : TopIs w a S v n) : Calls Try.prog 49 #[.pointer (some ⟨a, 0, none⟩)] w fun e w' => e = .returned (.bool (decide (n = 0))) ∧ w = w' := by
  have hc1 := h.c1
  obtain ⟨bb, hbb⟩ : ∃ b, decide (n = 0) = b := ⟨_, rfl⟩
  have he : ((n : Int) == 0) = bb := by
    rw [← hbb, Bool.eq_iff_iff, beq_iff_eq, decide_eq_true_eq]
    omega
  rw [hbb]
  clear h hbb
  go_enter Try.func49, Try.ntmps49
  go_wp2_with fail
  go_ret
  exact ⟨rfl, rfl⟩

set_option maxHeartbeats 4000000 in
theorem place_any (w : World) (a n : Nat) (Z : Int) (v : Option Addr) (h : TopIs w a Z v n) (x : Ad) : Calls Try.prog 36 #[.pointer (some ⟨a, 0, none⟩), .agg (adCs x).toArray] w fun e w' => e = .returned (.bool (mayB x n Z)) ∧ Keep noBlk w w' := by
  obtain ⟨w0, hw0, hk0, hb0, hs0⟩ := alloc_facts w (adCs x).toArray 50
  have h0 := h.keep hk0 id
  have hc0 := h0.c0
  have hc1 := h0.c1
  have HBX := Lib.hid hb0; have HK := Lib.hid hk0
  obtain ⟨bb, hbb⟩ : ∃ b, mayB x n Z = b := ⟨_, rfl⟩
  have HM := Lib.hid (fun w' => may_any x n Z w')
  rw [hbb] at HM ⊢
  unfold adV at HM
  clear hb0 hs0 h h0 hk0 hbb
  go_enter Try.func36, Try.ntmps36
  go_wp2_with fail
  clear hw0
  obtain ⟨S, hS0⟩ : ∃ S : World → Prop, S = fun w' => Keep noBlk w0 w' := ⟨_, rfl⟩
  have HSE := Lib.hid (show ∀ w', S w' → Keep noBlk w0 w' from fun w' h => by rw [hS0] at h; exact h)
  have HSI := Lib.hid (show ∀ w', Keep noBlk w0 w' → S w' from fun w' h => by rw [hS0]; exact h)
  have hS : S w0.drew := by rw [hS0]; exact (Keep.refl _ _).drew
  clear hS0
  refine wp_region_held (S := S) (by kernel_rfl) ?_
  change wpAnyH _ _ _ _ _ _ _ _ w0.drew
  generalize w0.drew = wq41 at hS ⊢
  refine tkd 0 (.agg (adCs x).toArray) rfl (yieldsIf_load_mid (by rfl) 50 (.tmp 3) rfl (w.heap.size) (0) rfl (adCs x) _ (fun w' h => rangeAt_whole ((HSE.out w' h).blk HBX.out id)) adUnder rfl sizeAd) hS ?_
  simp only [Act.put, List.setIfInBounds_toArray, List.set_cons_zero, List.set_cons_succ, List.getElem_toArray, List.getElem_cons_zero]
  refine tna 1 (.pointer (some ⟨a, 0, none⟩)) rfl hS ?_
  refine tnb 2 (.pointer (some ⟨a, 0, none⟩)) rfl hS ?_
  refine tnb 3 (.pointer (some ⟨a, 1, none⟩)) rfl hS ?_
  refine tnd 4 (.slice v n n) rfl (.inl ⟨by rfl, fun w' hw' => by have c := (HSE.out w' hw').cell hc1 id; go_simp⟩) hS ?_
  refine tnb 5 (.int .i64 n) rfl hS ?_
  refine tna 6 (.pointer (some ⟨a, 0, none⟩)) rfl hS ?_
  refine tnb 7 (.pointer (some ⟨a, 0, none⟩)) rfl hS ?_
  refine tnb 8 (.pointer (some ⟨a, 0, none⟩)) rfl hS ?_
  refine tnd 9 (.int .i64 Z) rfl (.inl ⟨by rfl, fun w' hw' => by have c := (HSE.out w' hw').cell hc0 id; go_simp⟩) hS ?_
  refine wpAnyH_one (k := 10) rfl (by kernel_rfl) ?_
  go_wp2_with fail
  refine (HM.out _).mono ?_
  rintro e wq42 ⟨rfl, hk⟩
  have hS1 := HSI.out _ ((HSE.out _ hS).trans hk)
  clear hS hk
  go_wp2_with fail
  refine ⟨hS1, ?_⟩
  refine tna 11 (.bool bb) rfl hS1 ?_
  refine wpAnyH_done (by kernel_rfl) ?_ _
  have HKR := Lib.hid (HSE.out _ hS1)
  clear hS1 HSE HSI
  have HK := Lib.hid (HK.out.trans HKR.out)
  go_wp2_with fail
  go_ret
  exact ⟨rfl, HK.out⟩

set_option maxHeartbeats 4000000 in
theorem ledHas_any (w : World) (lo a b D Z : Nat) (c : Nat → Option Nat) (L : List Ad) (h : LedIs w lo a b c D Z L) (x : Ad) : Calls Try.prog 24 #[.pointer (some ⟨a, 0, none⟩), .agg (adCs x).toArray] w fun e w' => e = .returned (.bool (inB x D Z L)) ∧ Keep noBlk w w' := by
  obtain ⟨w0, hw0, hk0, hb0, hs0⟩ := alloc_facts w (adCs x).toArray 50
  have HL := Lib.hid (h.keep0 hk0)
  have HBX := Lib.hid hb0; have HK := Lib.hid hk0
  have hD0 : D ≠ 0 := by have := h.bd; omega
  have HN := Lib.hid (fun w' (k : Keep noBlk w0 w') => none_any w' a D Z _ ((h.keep0 (hk0.trans k)).top))
  have HP := Lib.hid (fun w' (k : Keep noBlk w0 w') => place_any w' a D Z _ ((h.keep0 (hk0.trans k)).top) x)
  rw [decide_eq_false hD0] at HN
  obtain ⟨bb, hbb⟩ : ∃ b, mayB x D Z = b := ⟨_, rfl⟩
  rw [hbb] at HP
  have HBB := Lib.hid hbb
  have hS4 := h.bd
  clear hb0 hs0 hk0 hbb hD0
  cases bb
  · have hin : inB x D Z L = false := by unfold inB; rw [HBB.out]; rfl
    rw [hin]
    clear hin h
    go_enter Try.func24, Try.ntmps24
    go_wp2_with fail
    clear hw0
    obtain ⟨S, hS0⟩ : ∃ S : World → Prop, S = fun w' => Keep noBlk w0 w' := ⟨_, rfl⟩
    have HSE := Lib.hid (show ∀ w', S w' → Keep noBlk w0 w' from fun w' h => by rw [hS0] at h; exact h)
    have HSI := Lib.hid (show ∀ w', Keep noBlk w0 w' → S w' from fun w' h => by rw [hS0]; exact h)
    have hS : S w0.drew := by rw [hS0]; exact (Keep.refl _ _).drew
    clear hS0
    refine wp_region_held (S := S) (by kernel_rfl) ?_
    change wpAnyH _ _ _ _ _ _ _ _ w0.drew
    generalize w0.drew = wq41 at hS ⊢
    refine tka 0 (.pointer (some ⟨a, 0, none⟩)) rfl hS ?_
    simp only [Act.put, List.setIfInBounds_toArray, List.set_cons_zero, List.set_cons_succ, List.getElem_toArray, List.getElem_cons_zero]
    refine wpAnyH_one (k := 1) rfl (by kernel_rfl) ?_
    go_wp2_with fail
    refine (HN.out _ (HSE.out _ hS)).mono ?_
    rintro e wq42 ⟨rfl, rfl⟩
    have hk := Keep.refl noBlk wq41
    have hS1 := HSI.out _ ((HSE.out _ hS).trans hk)
    clear hS hk
    go_wp2_with fail
    refine ⟨hS1, ?_⟩
    refine tnb 2 (.bool true) rfl hS1 ?_
    refine tna 3 (.bool true) rfl hS1 ?_
    refine tna 4 (.pointer (some ⟨a, 0, none⟩)) rfl hS1 ?_
    refine tnd 5 (.agg (adCs x).toArray) rfl (yieldsIf_load_mid (by rfl) 50 (.tmp 3) rfl (w.heap.size) (0) rfl (adCs x) _ (fun w' h => rangeAt_whole ((HSE.out w' h).blk HBX.out id)) adUnder rfl sizeAd) hS1 ?_
    refine wpAnyH_one (k := 6) rfl (by kernel_rfl) ?_
    go_wp2_with fail
    refine (HP.out _ (HSE.out _ hS1)).mono ?_
    rintro e wq43 ⟨rfl, hk⟩
    have hS2 := HSI.out _ ((HSE.out _ hS1).trans hk)
    clear hS1 hk
    go_wp2_with fail
    refine ⟨hS2, ?_⟩
    refine tna 7 (.bool false) rfl hS2 ?_
    refine tna 8 (.bool false) rfl hS2 ?_
    refine tnc 9 undef rfl hS2 ?_
    refine tnc 10 undef rfl hS2 ?_
    refine tnc 11 undef rfl hS2 ?_
    refine tnc 12 undef rfl hS2 ?_
    refine tnc 13 undef rfl hS2 ?_
    refine tnc 14 undef rfl hS2 ?_
    refine tnc 15 undef rfl hS2 ?_
    refine tnc 16 undef rfl hS2 ?_
    refine tnc 17 undef rfl hS2 ?_
    refine tnc 18 undef rfl hS2 ?_
    refine tna 19 (.bool false) rfl hS2 ?_
    refine tna 20 (.bool false) rfl hS2 ?_
    refine wpAnyH_done (by kernel_rfl) ?_ _
    have HKR := Lib.hid (HSE.out _ hS2)
    clear hS2 HSE HSI
    have HK := Lib.hid (HK.out.trans HKR.out)
    go_wp2_with fail
    go_ret
    exact ⟨rfl, HK.out⟩
  · obtain ⟨d, s, rfl, hd, h5, hs⟩ := mayB_nat HBB.out
    have hin : inB ⟨(d : Int), (s : Int)⟩ D Z L = usedB L d s := by unfold inB; rw [HBB.out]; rfl
    rw [hin]
    have HU := Lib.hid (fun w' (k : Keep noBlk w0 w') => dhas_any w' b D c L ((HL.out.keep0 k).words) d s hd (by omega))
    obtain ⟨ub, hub⟩ : ∃ u, usedB L d s = u := ⟨_, rfl⟩
    rw [hub] at HU ⊢
    have hc1 := HL.out.top.c1
    have hx0 : w0.cell? ⟨w.heap.size, 0, none⟩ = some (.int .i64 (d : Int)) := blk_cell HBX.out rfl
    have hx1 : w0.cell? ⟨w.heap.size, 1, none⟩ = some (.int .i64 (s : Int)) := blk_cell HBX.out rfl
    have hdi : (d : Int) < (D : Int) := by omega
    have hd0 : (0 : Int) ≤ (d : Int) := by omega
    clear hin hub HBB h
    go_enter Try.func24, Try.ntmps24
    go_wp2_with fail
    clear hw0
    obtain ⟨S, hS0⟩ : ∃ S : World → Prop, S = fun w' => Keep noBlk w0 w' := ⟨_, rfl⟩
    have HSE := Lib.hid (show ∀ w', S w' → Keep noBlk w0 w' from fun w' h => by rw [hS0] at h; exact h)
    have HSI := Lib.hid (show ∀ w', Keep noBlk w0 w' → S w' from fun w' h => by rw [hS0]; exact h)
    have hS : S w0.drew := by rw [hS0]; exact (Keep.refl _ _).drew
    clear hS0
    refine wp_region_held (S := S) (by kernel_rfl) ?_
    change wpAnyH _ _ _ _ _ _ _ _ w0.drew
    generalize w0.drew = wq41 at hS ⊢
    refine tka 0 (.pointer (some ⟨a, 0, none⟩)) rfl hS ?_
    simp only [Act.put, List.setIfInBounds_toArray, List.set_cons_zero, List.set_cons_succ, List.getElem_toArray, List.getElem_cons_zero]
    refine wpAnyH_one (k := 1) rfl (by kernel_rfl) ?_
    go_wp2_with fail
    refine (HN.out _ (HSE.out _ hS)).mono ?_
    rintro e wq42 ⟨rfl, rfl⟩
    have hk := Keep.refl noBlk wq41
    have hS1 := HSI.out _ ((HSE.out _ hS).trans hk)
    clear hS hk
    go_wp2_with fail
    refine ⟨hS1, ?_⟩
    refine tnb 2 (.bool true) rfl hS1 ?_
    refine tna 3 (.bool true) rfl hS1 ?_
    refine tna 4 (.pointer (some ⟨a, 0, none⟩)) rfl hS1 ?_
    refine tnd 5 (.agg (adCs ⟨(d : Int), (s : Int)⟩).toArray) rfl (yieldsIf_load_mid (by rfl) 50 (.tmp 3) rfl (w.heap.size) (0) rfl (adCs ⟨(d : Int), (s : Int)⟩) _ (fun w' h => rangeAt_whole ((HSE.out w' h).blk HBX.out id)) adUnder rfl sizeAd) hS1 ?_
    refine wpAnyH_one (k := 6) rfl (by kernel_rfl) ?_
    go_wp2_with fail
    refine (HP.out _ (HSE.out _ hS1)).mono ?_
    rintro e wq43 ⟨rfl, hk⟩
    have hS2 := HSI.out _ ((HSE.out _ hS1).trans hk)
    clear hS1 hk
    go_wp2_with fail
    refine ⟨hS2, ?_⟩
    refine tna 7 (.bool true) rfl hS2 ?_
    refine tna 8 (.bool true) rfl hS2 ?_
    refine tna 9 (.pointer (some ⟨a, 0, none⟩)) rfl hS2 ?_
    refine tnb 10 (.pointer (some ⟨a, 0, none⟩)) rfl hS2 ?_
    refine tnb 11 (.pointer (some ⟨a, 1, none⟩)) rfl hS2 ?_
    refine tnd 12 (.slice (some ⟨b, 0, none⟩) D D) rfl (.inl ⟨by rfl, fun w' hw' => by have c := (HSE.out w' hw').cell hc1 id; go_simp⟩) hS2 ?_
    refine tnb 13 (.pointer (some ⟨w.heap.size, 0, none⟩)) rfl hS2 ?_
    refine tnd 14 (.int .i64 (d : Int)) rfl (.inl ⟨by rfl, fun w' hw' => by have c := (HSE.out w' hw').cell hx0 id; go_simp⟩) hS2 ?_
    refine tnb 15 (.pointer (some ⟨b, d * 65, none⟩)) rfl hS2 ?_
    refine tnb 16 (.pointer (some ⟨w.heap.size, 1, none⟩)) rfl hS2 ?_
    refine tnd 17 (.int .i64 (s : Int)) rfl (.inl ⟨by rfl, fun w' hw' => by have c := (HSE.out w' hw').cell hx1 id; go_simp⟩) hS2 ?_
    refine wpAnyH_one (k := 18) rfl (by kernel_rfl) ?_
    go_wp2_with fail
    refine (HU.out _ (HSE.out _ hS2)).mono ?_
    rintro e wq44 ⟨rfl, rfl⟩
    have hk := Keep.refl noBlk wq43
    have hS3 := HSI.out _ ((HSE.out _ hS2).trans hk)
    clear hS2 hk
    go_wp2_with fail
    refine ⟨hS3, ?_⟩
    refine tna 19 (.bool ub) rfl hS3 ?_
    refine tna 20 (.bool ub) rfl hS3 ?_
    refine wpAnyH_done (by kernel_rfl) ?_ _
    have HKR := Lib.hid (HSE.out _ hS3)
    clear hS3 HSE HSI
    have HK := Lib.hid (HK.out.trans HKR.out)
    go_wp2_with fail
    go_ret
    exact ⟨rfl, HK.out⟩

end Go.Proofs.Ytfjklgbakhjjiaa
