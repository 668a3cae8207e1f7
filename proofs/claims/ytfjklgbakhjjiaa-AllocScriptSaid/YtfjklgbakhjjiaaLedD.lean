/-
  A ledger: turns, Mark, Release.
  Conditions: none but those told.
-/
import Derived.Test.YtfjklgbakhjjiaaLedB
import Derived.Test.YtfjklgbakhjjiaaKeyAddr
import Derived.Test.YtfjklgbakhjjiaaRSortAddr
namespace Go.Proofs.Ytfjklgbakhjjiaa
open Go.RowKit Go.Maps Go.ChangeMaps
set_option maxRecDepth 100000
set_option linter.unusedVariables false

/-- May all of these be turned? -/
def okT (L l : List Ad) (u : Bool) (D Z : Nat) : Bool := l.all (fun x => mayB x D Z && (decide (x ∈ L) == u)) && decide l.Nodup
def turnL (L l : List Ad) (u : Bool) : List Ad := if u then L.filter (fun x => !decide (x ∈ l)) else L ++ l
theorem okT_snoc (L P : List Ad) (x : Ad) (u : Bool) (D Z : Nat) : okT L (P ++ [x]) u D Z = (okT L P u D Z && (mayB x D Z && (decide (x ∈ L) == u)) && !decide (x ∈ P)) := by
  unfold okT
  rw [List.all_append]
  have e : decide (P ++ [x]).Nodup = (decide P.Nodup && !decide (x ∈ P)) := by
    rw [Bool.eq_iff_iff, decide_eq_true_eq, Bool.and_eq_true, decide_eq_true_eq, Bool.not_eq_true', decide_eq_false_iff_not, List.nodup_append]
    constructor
    · rintro ⟨h1, -, h2⟩
      exact ⟨h1, fun h => h2 x h x (List.mem_singleton.2 rfl) rfl⟩
    · rintro ⟨h1, h2⟩
      refine ⟨h1, by simp, fun y hy z hz e => ?_⟩
      rw [List.mem_singleton.1 hz] at e
      exact h2 (e ▸ hy)
  rw [e]
  simp only [List.all_cons, List.all_nil, Bool.and_true]
  cases (P.all fun x => mayB x D Z && (decide (x ∈ L) == u)) <;> cases (mayB x D Z && (decide (x ∈ L) == u)) <;> cases decide P.Nodup <;> simp
theorem okT_take {L l : List Ad} {u : Bool} {D Z : Nat} (h : okT L l u D Z = true) (k : Nat) : okT L (l.take k) u D Z = true := by
  unfold okT at h ⊢
  rw [Bool.and_eq_true, List.all_eq_true, decide_eq_true_eq] at h ⊢
  exact ⟨fun x hx => h.1 x (List.mem_of_mem_take hx), List.Nodup.sublist (List.take_sublist _ _) h.2⟩
theorem okT_bad {L l : List Ad} {u : Bool} {D Z k : Nat} {x : Ad} (hx : l[k]? = some x) (hb : (okT L (l.take k) u D Z && (mayB x D Z && (decide (x ∈ L) == u)) && !decide (x ∈ l.take k)) = false) : okT L l u D Z = false := by
  cases h : okT L l u D Z with
  | false => rfl
  | true =>
    have h1 := okT_take h (k + 1)
    rw [List.take_add_one, hx] at h1
    have h2 : okT L (l.take k ++ [x]) u D Z = true := h1
    rw [okT_snoc, hb] at h2
    cases h2
theorem mem_turnL {L l : List Ad} {u : Bool} {x : Ad} : x ∈ turnL L l u ↔ if u then x ∈ L ∧ x ∉ l else x ∈ L ∨ x ∈ l := by
  unfold turnL
  cases u
  · simp
  · simp
theorem used_turn {L l : List Ad} {u : Bool} {D Z k d s : Nat} (h : okT L l u D Z = true) (hx : l[k]? = some ⟨(d : Int), (s : Int)⟩) (e t : Nat) :
    usedB (turnL L (l.take (k + 1)) u) e t = (usedB (turnL L (l.take k) u) e t != (decide (e = d) && decide (t = s))) := by
  have h1 := okT_take h (k + 1)
  rw [List.take_add_one, hx] at h1
  have h2 : okT L (l.take k ++ [⟨(d : Int), (s : Int)⟩]) u D Z = true := h1
  rw [okT_snoc] at h2
  simp only [Bool.and_eq_true, Bool.not_eq_true', decide_eq_false_iff_not, beq_iff_eq] at h2
  obtain ⟨⟨-, -, h3⟩, h4⟩ := h2
  have hm : ∀ y, y ∈ l.take (k + 1) ↔ y ∈ l.take k ∨ y = ⟨(d : Int), (s : Int)⟩ := fun y => by
    rw [List.take_add_one, hx]
    show y ∈ l.take k ++ [_] ↔ _
    rw [List.mem_append, List.mem_singleton]
  unfold usedB
  have hq : (decide (e = d) && decide (t = s)) = decide ((⟨(e : Int), (t : Int)⟩ : Ad) = ⟨(d : Int), (s : Int)⟩) := by
    rw [Bool.eq_iff_iff, Bool.and_eq_true, decide_eq_true_eq, decide_eq_true_eq, decide_eq_true_eq, Ad.mk.injEq]
    omega
  rw [hq]
  by_cases he : (⟨(e : Int), (t : Int)⟩ : Ad) = ⟨(d : Int), (s : Int)⟩
  · rw [he, decide_eq_true rfl]
    cases u
    · have i1 : (⟨(d : Int), (s : Int)⟩ : Ad) ∈ turnL L (l.take (k + 1)) false := mem_turnL.2 (.inr ((hm _).2 (.inr rfl)))
      have i2 : (⟨(d : Int), (s : Int)⟩ : Ad) ∉ turnL L (l.take k) false := fun h => (mem_turnL.1 h).elim (of_decide_eq_false h3) h4
      rw [decide_eq_true i1, decide_eq_false i2]
      rfl
    · have i1 : (⟨(d : Int), (s : Int)⟩ : Ad) ∉ turnL L (l.take (k + 1)) true := fun h => (mem_turnL.1 h).2 ((hm _).2 (.inr rfl))
      have i2 : (⟨(d : Int), (s : Int)⟩ : Ad) ∈ turnL L (l.take k) true := mem_turnL.2 ⟨of_decide_eq_true h3, h4⟩
      rw [decide_eq_false i1, decide_eq_true i2]
      rfl
  · rw [decide_eq_false he, Bool.bne_false, decide_eq_decide, mem_turnL, mem_turnL, hm]
    cases u <;> simp [he]
/-- What turns answers. -/
def TurnsPost (w : World) (lo a b D Z : Nat) (L l : List Ad) (u : Bool) (e : Ending) (w' : World) : Prop :=
  if okT L l u D Z then e = .returned (.int .i64 0) ∧ ∃ c, LedIs w' lo a b c D Z (turnL L l u) ∧ (∀ d g, d < D → c d = some g → w.heap.size ≤ g) ∧ Keep (fun k => k = b) w w'
  else e = .returned (.int .i64 2) ∧ Keep noBlk w w'

set_option maxHeartbeats 32000000 in
theorem turns_far (w : World) (lo a b D Z : Nat) (c : Nat → Option Nat) (L : List Ad) (h : LedIs w lo a b c D Z L) (v : Value) (l : List Ad) (hr : Rd w 2 v l.length (adCells l)) (hfar : 0 < l.length → ∀ i, v.ownBlock = some i → i ≠ b) (u : Bool) :
    Calls Try.prog 54 #[.pointer (some ⟨a, 0, none⟩), v, .bool u] w (TurnsPost w lo a b D Z L l u) := by
  have HRF := Lib.hid hfar
  clear hfar
  have HL := Lib.hid h
  have hbd := h.bd
  have hD0 : D ≠ 0 := by omega
  have HN := none_any w a D Z _ h.top
  rw [decide_eq_false hD0] at HN
  have HN := Lib.hid HN
  obtain ⟨ok, hok⟩ : ∃ b, okT L l u D Z = b := ⟨_, rfl⟩
  have HOK := Lib.hid hok
  have hablt : b < w.heap.size := h.words.lt
  have hab : a ≠ b := by
    rintro rfl
    obtain ⟨cs, h3, -⟩ := h.words.row
    have := h.top
    unfold TopIs at this
    rw [h3] at this
    cases this
  clear h hD0 hok
  obtain ⟨oa, ca, rfl, -, hmm⟩ := hr.form
  have hmx_n : l.length ≤ maxLen := by have h := hr.2; obtain ⟨a', cap', h1, h2, h3, -⟩ := h; omega
  unfold maxLen at hmx_n
  clear hmm
  have HR := Lib.hid hr
  obtain ⟨n, hn_n⟩ : ∃ n, l.length = n := ⟨_, rfl⟩
  have HN2 := Lib.hid hn_n
  rw [hn_n] at HR hmx_n
  try rw [hn_n]
  clear hr hn_n
  go_enter Try.func54, Try.ntmps54
  go_wp2_with fail
  refine HN.out.mono ?_
  rintro e w1 ⟨rfl, rfl⟩
  clear HN
  go_wp2_with fail
  go_loopw [15] (fun i wr => ∃ k : Nat, k ≤ n ∧ i = .int .i64 k ∧ Hid (okT L (l.take k) u D Z = true) ∧ Hid (Keep noBlk w wr)) (fun i _ => n - (intOf i).toNat)
  case atStart => exact ⟨0, Nat.zero_le _, rfl, Lib.hid (by simp [okT]), Lib.hid (Keep.refl _ _)⟩
  case round =>
  obtain ⟨k, hk, rfl, HT, HK⟩ := hrel
  by_cases hlt : k < n
  · have hki : (k : Int) < (n : Int) := by omega
    have hk0 : (0 : Int) ≤ (k : Int) := by omega
    have HRW := Lib.hid (HR.out.keep HK.out fun _ _ => id)
    obtain ⟨x, h_x⟩ : ∃ x, l[k]? = some x := ⟨l[k]'(by rw [HN2.out]; exact hlt), List.getElem?_eq_getElem _⟩
    have h_r := HRW.out
    rw [← HN2.out] at h_r
    obtain ⟨gl, ol, cap', h_v, h_at⟩ := rd_ad h_r h_x
    have e1 : oa = some ⟨gl, ol, none⟩ := by cases h_v; rfl
    subst e1
    have HX := Lib.hid h_at; have HE := Lib.hid h_x
    clear h_x h_r h_v h_at
    go_wp2_with (first
      | ((with_reducible show wpList _ _ _ (⟨_, .load 50 (.tmp 18), _, _, _, _⟩ :: _) _ _); refine wpList_load_mid rfl 50 (.tmp 18) rfl gl (ol + k * 2) rfl (adCs x) _ HX.out adUnder rfl sizeAd ?_)
      | ((with_reducible show wpList _ _ _ (⟨some 8, .alloc 50, _, _, _, _⟩ :: _) _ _); refine wpList_alloc_at rfl 50 rfl zeroAd zeroAddr #[.int .i64 0, .int .i64 0] rfl ?_)
      | ((with_reducible show wpList _ _ _ (⟨none, .store 50 (.tmp 8) (.tmp 19), _, _, _, _⟩ :: _) _ _); refine wpList_store_agg rfl 50 (.tmp 8) (.tmp 19) rfl wr.heap.size 0 (adCs x) rfl rfl #[.int .i64 0, .int .i64 0] 50 (heap_alloc_new _ _) (Nat.le_refl _) sizeAd (oneCell_ad _) ?_
         intro w3 hb3 hk3
         rw [spl_whole _ _ (by rfl)] at hb3
         have hk4 : Keep noBlk wr w3 := ((Keep.refl noBlk wr).alloc _).trans' hk3 (fun _ _ h => h) (fun i hi e => by omega)
         have HB3 := Lib.hid hb3; have HK4 := Lib.hid hk4
         clear hb3 hk3 hk4))
    have HK3 := Lib.hid (HK.out.trans HK4.out)
    have HRW3 := Lib.hid (HR.out.keep HK3.out fun _ _ => id)
    have hwx : wr.heap.size < w3.heap.size := lt_of_block HB3.out
    obtain ⟨X, hX⟩ : ∃ X, wr.heap.size = X := ⟨_, rfl⟩
    rw [hX] at HB3 hwx ⊢
    clear hX HX HK4
    have HP := Lib.hid (fun wx (kk : Keep noBlk w3 wx) => place_any wx a D Z _ ((HL.out.keep0 (HK3.out.trans kk)).top) x)
    obtain ⟨mb, hmb⟩ : ∃ m, mayB x D Z = m := ⟨_, rfl⟩
    rw [hmb] at HP
    have HMB := Lib.hid hmb
    clear hmb
    cases mb
    · obtain ⟨S, hS0⟩ : ∃ S : World → Prop, S = fun w' => Keep noBlk w3 w' := ⟨_, rfl⟩
      have HSE := Lib.hid (show ∀ w', S w' → Keep noBlk w3 w' from fun w' h => by rw [hS0] at h; exact h)
      have HSI := Lib.hid (show ∀ w', Keep noBlk w3 w' → S w' from fun w' h => by rw [hS0]; exact h)
      have hS : S w3.drew := by rw [hS0]; exact (Keep.refl _ _).drew
      clear hS0
      refine wp_region_held (S := S) (by kernel_rfl) ?_
      change wpAnyH _ _ _ _ _ _ _ _ w3.drew
      generalize w3.drew = wq41 at hS ⊢
      refine tna 0 (.pointer (some ⟨a, 0, none⟩)) rfl hS ?_
      refine tnd 1 (.agg (adCs x).toArray) rfl (yieldsIf_load_mid (by rfl) 50 (.tmp 8) rfl (X) (0) rfl (adCs x) _ (fun w' h => rangeAt_whole ((HSE.out w' h).blk HB3.out id)) adUnder rfl sizeAd) hS ?_
      refine wpAnyH_one (k := 2) rfl (by kernel_rfl) ?_
      go_wp2_with fail
      refine (HP.out _ (HSE.out _ hS)).mono ?_
      rintro e wq42 ⟨rfl, hk⟩
      have hS1 := HSI.out _ ((HSE.out _ hS).trans hk)
      clear hS hk
      go_wp2_with fail
      refine ⟨hS1, ?_⟩
      refine tnb 3 (.bool true) rfl hS1 ?_
      refine tna 4 (.bool true) rfl hS1 ?_
      refine tnc 5 undef rfl hS1 ?_
      refine tnc 6 undef rfl hS1 ?_
      refine tnc 7 undef rfl hS1 ?_
      refine tnc 8 undef rfl hS1 ?_
      refine tnc 9 undef rfl hS1 ?_
      refine tnc 10 undef rfl hS1 ?_
      refine tnc 11 undef rfl hS1 ?_
      refine tnc 12 undef rfl hS1 ?_
      refine tnc 13 undef rfl hS1 ?_
      refine tnc 14 undef rfl hS1 ?_
      refine tnc 15 undef rfl hS1 ?_
      refine tnc 16 undef rfl hS1 ?_
      refine tna 17 (.bool true) rfl hS1 ?_
      refine tna 18 (.bool true) rfl hS1 ?_
      refine tnc 19 undef rfl hS1 ?_
      refine tnc 20 undef rfl hS1 ?_
      refine tnc 21 undef rfl hS1 ?_
      refine tnc 22 undef rfl hS1 ?_
      refine tnc 23 undef rfl hS1 ?_
      refine tna 24 (.bool true) rfl hS1 ?_
      refine wpAnyH_done (by kernel_rfl) ?_ _
      have HKR := Lib.hid (HSE.out _ hS1)
      clear hS1 HSE HSI
      have hbad : ok = false := by
        rw [← HOK.out]
        exact okT_bad HE.out (by rw [HMB.out]; simp)
      subst hbad
      have HKF := Lib.hid (HK3.out.trans HKR.out)
      have HPO : Hid (∀ w', Keep noBlk w w' → ∀ e, e = .returned (.int .i64 2) → TurnsPost w lo a b D Z L l u e w') := Lib.hid (fun w' k e he => by unfold TurnsPost; rw [HOK.out, if_neg (by decide)]; exact ⟨he, k⟩)
      clear HKR
      go_wp2_with fail
      go_ret
      exact HPO.out _ HKF.out _ rfl
    · obtain ⟨d, s, rfl, hd, h5, hs⟩ := mayB_nat HMB.out
      have HU := Lib.hid (fun wx (kk : Keep noBlk w3 wx) => dhas_any wx b D c L ((HL.out.keep0 (HK3.out.trans kk)).words) d s hd (by omega))
      obtain ⟨ub, hub⟩ : ∃ u, usedB L d s = u := ⟨_, rfl⟩
      rw [hub] at HU
      have HUB : Hid (decide ((⟨(d : Int), (s : Int)⟩ : Ad) ∈ L) = ub) := Lib.hid hub
      obtain ⟨nb, hnb⟩ : ∃ b, (ub != u) = b := ⟨_, rfl⟩
      have HNB := Lib.hid hnb
      have he : ∀ w, (binOp .neq 4 (.bool ub) (.bool u)).run Try.prog w = .ok (.bool nb) w := fun w => by rw [← hnb]; cases ub <;> cases u <;> kernel_rfl
      have hc1 := (HL.out.keep0 HK3.out).top.c1
      have hx0 : w3.cell? ⟨X, 0, none⟩ = some (.int .i64 (d : Int)) := blk_cell HB3.out rfl
      have hx1 : w3.cell? ⟨X, 1, none⟩ = some (.int .i64 (s : Int)) := blk_cell HB3.out rfl
      have hdi : (d : Int) < (D : Int) := by omega
      have hd0 : (0 : Int) ≤ (d : Int) := by omega
      clear hub hnb
      cases nb
      · have hkc : k ≤ ca := by obtain ⟨_, a', c', h1, h2, -⟩ := HRW3.out; cases h1; omega
        have HTV : Hid (∀ w', (Instr.sliceAt 22 (.slice (some ⟨gl, ol, none⟩) n ca) none (some (.int .i64 k)) none).run Try.prog w' = .ok (.slice (some ⟨gl, ol, none⟩) k ca) w') := Lib.hid (fun w' => run_cut_to Try.underlying22 _ n ca k hkc sizeOfAd w')
        have hcut := HRW3.out.cut_to (k := k) (by omega)
        have hcl : adCells (l.take k) = (adCells l).take (k * 2) := by
          conv => rhs; rw [← List.take_append_drop k l, adCells_append]
          rw [List.take_left' (by rw [adCells_len, List.length_take, HN2.out]; omega)]
        have HCUT : Hid (Rd w3 2 (.slice (some ⟨gl, ol, none⟩) (l.take k).length ca) (l.take k).length (adCells (l.take k))) := Lib.hid (by rw [hcl, List.length_take, HN2.out, Nat.min_eq_left (by omega)]; exact hcut)
        have HLK : Hid ((l.take k).length = k) := Lib.hid (by rw [List.length_take, HN2.out]; omega)
        have HH := Lib.hid (fun wx (kk : Keep noBlk w3 wx) => has_any wx _ (l.take k) ⟨(d : Int), (s : Int)⟩ (HCUT.out.keep kk fun _ _ => id))
        rw [HLK.out] at HH
        obtain ⟨hb, hhb⟩ : ∃ b, decide ((⟨(d : Int), (s : Int)⟩ : Ad) ∈ l.take k) = b := ⟨_, rfl⟩
        rw [hhb] at HH
        have HHB := Lib.hid hhb
        clear hcut hcl hhb
        cases hb
        · obtain ⟨S, hS0⟩ : ∃ S : World → Prop, S = fun w' => Keep noBlk w3 w' := ⟨_, rfl⟩
          have HSE := Lib.hid (show ∀ w', S w' → Keep noBlk w3 w' from fun w' h => by rw [hS0] at h; exact h)
          have HSI := Lib.hid (show ∀ w', Keep noBlk w3 w' → S w' from fun w' h => by rw [hS0]; exact h)
          have hS : S w3.drew := by rw [hS0]; exact (Keep.refl _ _).drew
          clear hS0
          refine wp_region_held (S := S) (by kernel_rfl) ?_
          change wpAnyH _ _ _ _ _ _ _ _ w3.drew
          generalize w3.drew = wq41 at hS ⊢
          refine tna 0 (.pointer (some ⟨a, 0, none⟩)) rfl hS ?_
          refine tnd 1 (.agg (adCs ⟨(d : Int), (s : Int)⟩).toArray) rfl (yieldsIf_load_mid (by rfl) 50 (.tmp 8) rfl (X) (0) rfl (adCs ⟨(d : Int), (s : Int)⟩) _ (fun w' h => rangeAt_whole ((HSE.out w' h).blk HB3.out id)) adUnder rfl sizeAd) hS ?_
          refine wpAnyH_one (k := 2) rfl (by kernel_rfl) ?_
          go_wp2_with fail
          refine (HP.out _ (HSE.out _ hS)).mono ?_
          rintro e wq42 ⟨rfl, hk⟩
          have hS1 := HSI.out _ ((HSE.out _ hS).trans hk)
          clear hS hk
          go_wp2_with fail
          refine ⟨hS1, ?_⟩
          refine tnb 3 (.bool false) rfl hS1 ?_
          refine tna 4 (.bool false) rfl hS1 ?_
          refine tna 5 (.pointer (some ⟨a, 0, none⟩)) rfl hS1 ?_
          refine tnb 6 (.pointer (some ⟨a, 0, none⟩)) rfl hS1 ?_
          refine tnb 7 (.pointer (some ⟨a, 1, none⟩)) rfl hS1 ?_
          refine tnd 8 (.slice (some ⟨b, 0, none⟩) D D) rfl (.inl ⟨by rfl, fun w' hw' => by have c := (HSE.out w' hw').cell hc1 id; go_simp⟩) hS1 ?_
          refine tnb 9 (.pointer (some ⟨X, 0, none⟩)) rfl hS1 ?_
          refine tnd 10 (.int .i64 (d : Int)) rfl (.inl ⟨by rfl, fun w' hw' => by have c := (HSE.out w' hw').cell hx0 id; go_simp⟩) hS1 ?_
          refine tnb 11 (.pointer (some ⟨b, d * 65, none⟩)) rfl hS1 ?_
          refine tnb 12 (.pointer (some ⟨X, 1, none⟩)) rfl hS1 ?_
          refine tnd 13 (.int .i64 (s : Int)) rfl (.inl ⟨by rfl, fun w' hw' => by have c := (HSE.out w' hw').cell hx1 id; go_simp⟩) hS1 ?_
          refine tna 15 (.bool u) rfl hS1 ?_
          refine wpAnyH_one (k := 14) rfl (by kernel_rfl) ?_
          go_wp2_with fail
          refine (HU.out _ (HSE.out _ hS1)).mono ?_
          rintro e wq43 ⟨rfl, rfl⟩
          have hk := Keep.refl noBlk wq42
          have hS2 := HSI.out _ ((HSE.out _ hS1).trans hk)
          clear hS1 hk
          go_wp2_with fail
          refine ⟨hS2, ?_⟩
          refine tnb 16 (.bool false) rfl hS2 ?_
          refine tna 17 (.bool false) rfl hS2 ?_
          refine tna 18 (.bool false) rfl hS2 ?_
          refine tna 19 (.slice (some ⟨gl, ol, none⟩) n ca) rfl hS2 ?_
          refine tna 20 (.int .i64 (k : Int)) rfl hS2 ?_
          refine tnd 21 (.slice (some ⟨gl, ol, none⟩) k ca) rfl (yieldsIf_slice (by rfl) 22 (.tmp 39) none (some (.tmp 40)) none rfl (.slice (some ⟨gl, ol, none⟩) n ca) none (some (.int .i64 k)) none rfl rfl rfl rfl HTV.out) hS2 ?_
          refine tnd 22 (.agg (adCs ⟨(d : Int), (s : Int)⟩).toArray) rfl (yieldsIf_load_mid (by rfl) 50 (.tmp 8) rfl (X) (0) rfl (adCs ⟨(d : Int), (s : Int)⟩) _ (fun w' h => rangeAt_whole ((HSE.out w' h).blk HB3.out id)) adUnder rfl sizeAd) hS2 ?_
          refine wpAnyH_one (k := 23) rfl (by kernel_rfl) ?_
          go_wp2_with fail
          refine (HH.out _ (HSE.out _ hS2)).mono ?_
          rintro e wq44 ⟨rfl, hk⟩
          have hS3 := HSI.out _ ((HSE.out _ hS2).trans hk)
          clear hS2 hk
          go_wp2_with fail
          refine ⟨hS3, ?_⟩
          refine tna 24 (.bool false) rfl hS3 ?_
          refine wpAnyH_done (by kernel_rfl) ?_ _
          have HKR := Lib.hid (HSE.out _ hS3)
          clear hS3 HSE HSI
          have HKF := Lib.hid (HK3.out.trans HKR.out)
          have HT2 : Hid (okT L (l.take (k + 1)) u D Z = true) := Lib.hid (by
            rw [List.take_add_one, HE.out]
            show okT L (l.take k ++ [_]) u D Z = true
            rw [okT_snoc, HT.out, HMB.out, HUB.out, HHB.out]
            have := HNB.out
            cases ub <;> cases u <;> simp_all)
          clear HKR
          go_wp2_with fail
          go_roundw
          case rel => exact ⟨k + 1, by omega, by go_num, HT2, HKF⟩
          case measure => simp [intOf]; omega
        · obtain ⟨S, hS0⟩ : ∃ S : World → Prop, S = fun w' => Keep noBlk w3 w' := ⟨_, rfl⟩
          have HSE := Lib.hid (show ∀ w', S w' → Keep noBlk w3 w' from fun w' h => by rw [hS0] at h; exact h)
          have HSI := Lib.hid (show ∀ w', Keep noBlk w3 w' → S w' from fun w' h => by rw [hS0]; exact h)
          have hS : S w3.drew := by rw [hS0]; exact (Keep.refl _ _).drew
          clear hS0
          refine wp_region_held (S := S) (by kernel_rfl) ?_
          change wpAnyH _ _ _ _ _ _ _ _ w3.drew
          generalize w3.drew = wq41 at hS ⊢
          refine tna 0 (.pointer (some ⟨a, 0, none⟩)) rfl hS ?_
          refine tnd 1 (.agg (adCs ⟨(d : Int), (s : Int)⟩).toArray) rfl (yieldsIf_load_mid (by rfl) 50 (.tmp 8) rfl (X) (0) rfl (adCs ⟨(d : Int), (s : Int)⟩) _ (fun w' h => rangeAt_whole ((HSE.out w' h).blk HB3.out id)) adUnder rfl sizeAd) hS ?_
          refine wpAnyH_one (k := 2) rfl (by kernel_rfl) ?_
          go_wp2_with fail
          refine (HP.out _ (HSE.out _ hS)).mono ?_
          rintro e wq42 ⟨rfl, hk⟩
          have hS1 := HSI.out _ ((HSE.out _ hS).trans hk)
          clear hS hk
          go_wp2_with fail
          refine ⟨hS1, ?_⟩
          refine tnb 3 (.bool false) rfl hS1 ?_
          refine tna 4 (.bool false) rfl hS1 ?_
          refine tna 5 (.pointer (some ⟨a, 0, none⟩)) rfl hS1 ?_
          refine tnb 6 (.pointer (some ⟨a, 0, none⟩)) rfl hS1 ?_
          refine tnb 7 (.pointer (some ⟨a, 1, none⟩)) rfl hS1 ?_
          refine tnd 8 (.slice (some ⟨b, 0, none⟩) D D) rfl (.inl ⟨by rfl, fun w' hw' => by have c := (HSE.out w' hw').cell hc1 id; go_simp⟩) hS1 ?_
          refine tnb 9 (.pointer (some ⟨X, 0, none⟩)) rfl hS1 ?_
          refine tnd 10 (.int .i64 (d : Int)) rfl (.inl ⟨by rfl, fun w' hw' => by have c := (HSE.out w' hw').cell hx0 id; go_simp⟩) hS1 ?_
          refine tnb 11 (.pointer (some ⟨b, d * 65, none⟩)) rfl hS1 ?_
          refine tnb 12 (.pointer (some ⟨X, 1, none⟩)) rfl hS1 ?_
          refine tnd 13 (.int .i64 (s : Int)) rfl (.inl ⟨by rfl, fun w' hw' => by have c := (HSE.out w' hw').cell hx1 id; go_simp⟩) hS1 ?_
          refine tna 15 (.bool u) rfl hS1 ?_
          refine wpAnyH_one (k := 14) rfl (by kernel_rfl) ?_
          go_wp2_with fail
          refine (HU.out _ (HSE.out _ hS1)).mono ?_
          rintro e wq43 ⟨rfl, rfl⟩
          have hk := Keep.refl noBlk wq42
          have hS2 := HSI.out _ ((HSE.out _ hS1).trans hk)
          clear hS1 hk
          go_wp2_with fail
          refine ⟨hS2, ?_⟩
          refine tnb 16 (.bool false) rfl hS2 ?_
          refine tna 17 (.bool false) rfl hS2 ?_
          refine tna 18 (.bool false) rfl hS2 ?_
          refine tna 19 (.slice (some ⟨gl, ol, none⟩) n ca) rfl hS2 ?_
          refine tna 20 (.int .i64 (k : Int)) rfl hS2 ?_
          refine tnd 21 (.slice (some ⟨gl, ol, none⟩) k ca) rfl (yieldsIf_slice (by rfl) 22 (.tmp 39) none (some (.tmp 40)) none rfl (.slice (some ⟨gl, ol, none⟩) n ca) none (some (.int .i64 k)) none rfl rfl rfl rfl HTV.out) hS2 ?_
          refine tnd 22 (.agg (adCs ⟨(d : Int), (s : Int)⟩).toArray) rfl (yieldsIf_load_mid (by rfl) 50 (.tmp 8) rfl (X) (0) rfl (adCs ⟨(d : Int), (s : Int)⟩) _ (fun w' h => rangeAt_whole ((HSE.out w' h).blk HB3.out id)) adUnder rfl sizeAd) hS2 ?_
          refine wpAnyH_one (k := 23) rfl (by kernel_rfl) ?_
          go_wp2_with fail
          refine (HH.out _ (HSE.out _ hS2)).mono ?_
          rintro e wq44 ⟨rfl, hk⟩
          have hS3 := HSI.out _ ((HSE.out _ hS2).trans hk)
          clear hS2 hk
          go_wp2_with fail
          refine ⟨hS3, ?_⟩
          refine tna 24 (.bool true) rfl hS3 ?_
          refine wpAnyH_done (by kernel_rfl) ?_ _
          have HKR := Lib.hid (HSE.out _ hS3)
          clear hS3 HSE HSI
          have hbad : ok = false := by
            rw [← HOK.out]
            exact okT_bad HE.out (by rw [HHB.out]; simp)
          subst hbad
          have HKF := Lib.hid (HK3.out.trans HKR.out)
          have HPO : Hid (∀ w', Keep noBlk w w' → ∀ e, e = .returned (.int .i64 2) → TurnsPost w lo a b D Z L l u e w') := Lib.hid (fun w' k e he => by unfold TurnsPost; rw [HOK.out, if_neg (by decide)]; exact ⟨he, k⟩)
          clear HKR
          go_wp2_with fail
          go_ret
          exact HPO.out _ HKF.out _ rfl
      · obtain ⟨S, hS0⟩ : ∃ S : World → Prop, S = fun w' => Keep noBlk w3 w' := ⟨_, rfl⟩
        have HSE := Lib.hid (show ∀ w', S w' → Keep noBlk w3 w' from fun w' h => by rw [hS0] at h; exact h)
        have HSI := Lib.hid (show ∀ w', Keep noBlk w3 w' → S w' from fun w' h => by rw [hS0]; exact h)
        have hS : S w3.drew := by rw [hS0]; exact (Keep.refl _ _).drew
        clear hS0
        refine wp_region_held (S := S) (by kernel_rfl) ?_
        change wpAnyH _ _ _ _ _ _ _ _ w3.drew
        generalize w3.drew = wq41 at hS ⊢
        refine tna 0 (.pointer (some ⟨a, 0, none⟩)) rfl hS ?_
        refine tnd 1 (.agg (adCs ⟨(d : Int), (s : Int)⟩).toArray) rfl (yieldsIf_load_mid (by rfl) 50 (.tmp 8) rfl (X) (0) rfl (adCs ⟨(d : Int), (s : Int)⟩) _ (fun w' h => rangeAt_whole ((HSE.out w' h).blk HB3.out id)) adUnder rfl sizeAd) hS ?_
        refine wpAnyH_one (k := 2) rfl (by kernel_rfl) ?_
        go_wp2_with fail
        refine (HP.out _ (HSE.out _ hS)).mono ?_
        rintro e wq42 ⟨rfl, hk⟩
        have hS1 := HSI.out _ ((HSE.out _ hS).trans hk)
        clear hS hk
        go_wp2_with fail
        refine ⟨hS1, ?_⟩
        refine tnb 3 (.bool false) rfl hS1 ?_
        refine tna 4 (.bool false) rfl hS1 ?_
        refine tna 5 (.pointer (some ⟨a, 0, none⟩)) rfl hS1 ?_
        refine tnb 6 (.pointer (some ⟨a, 0, none⟩)) rfl hS1 ?_
        refine tnb 7 (.pointer (some ⟨a, 1, none⟩)) rfl hS1 ?_
        refine tnd 8 (.slice (some ⟨b, 0, none⟩) D D) rfl (.inl ⟨by rfl, fun w' hw' => by have c := (HSE.out w' hw').cell hc1 id; go_simp⟩) hS1 ?_
        refine tnb 9 (.pointer (some ⟨X, 0, none⟩)) rfl hS1 ?_
        refine tnd 10 (.int .i64 (d : Int)) rfl (.inl ⟨by rfl, fun w' hw' => by have c := (HSE.out w' hw').cell hx0 id; go_simp⟩) hS1 ?_
        refine tnb 11 (.pointer (some ⟨b, d * 65, none⟩)) rfl hS1 ?_
        refine tnb 12 (.pointer (some ⟨X, 1, none⟩)) rfl hS1 ?_
        refine tnd 13 (.int .i64 (s : Int)) rfl (.inl ⟨by rfl, fun w' hw' => by have c := (HSE.out w' hw').cell hx1 id; go_simp⟩) hS1 ?_
        refine tna 15 (.bool u) rfl hS1 ?_
        refine wpAnyH_one (k := 14) rfl (by kernel_rfl) ?_
        go_wp2_with fail
        refine (HU.out _ (HSE.out _ hS1)).mono ?_
        rintro e wq43 ⟨rfl, rfl⟩
        have hk := Keep.refl noBlk wq42
        have hS2 := HSI.out _ ((HSE.out _ hS1).trans hk)
        clear hS1 hk
        go_wp2_with fail
        refine ⟨hS2, ?_⟩
        refine tnb 16 (.bool true) rfl hS2 ?_
        refine tna 17 (.bool true) rfl hS2 ?_
        refine tna 18 (.bool true) rfl hS2 ?_
        refine tnc 19 undef rfl hS2 ?_
        refine tnc 20 undef rfl hS2 ?_
        refine tnc 21 undef rfl hS2 ?_
        refine tnc 22 undef rfl hS2 ?_
        refine tnc 23 undef rfl hS2 ?_
        refine tna 24 (.bool true) rfl hS2 ?_
        refine wpAnyH_done (by kernel_rfl) ?_ _
        have HKR := Lib.hid (HSE.out _ hS2)
        clear hS2 HSE HSI
        have hbad : ok = false := by
          rw [← HOK.out]
          exact okT_bad HE.out (by rw [HUB.out]; have := HNB.out; cases ub <;> cases u <;> simp_all)
        subst hbad
        have HKF := Lib.hid (HK3.out.trans HKR.out)
        have HPO : Hid (∀ w', Keep noBlk w w' → ∀ e, e = .returned (.int .i64 2) → TurnsPost w lo a b D Z L l u e w') := Lib.hid (fun w' k e he => by unfold TurnsPost; rw [HOK.out, if_neg (by decide)]; exact ⟨he, k⟩)
        clear HKR
        go_wp2_with fail
        go_ret
        exact HPO.out _ HKF.out _ rfl
  · obtain rfl : n = k := by omega
    have hokt : ok = true := by
      rw [← HOK.out]
      have h := HT.out
      rwa [List.take_of_length_le (by rw [HN2.out]; exact Nat.le_refl _)] at h
    subst hokt
    have HL1 := Lib.hid (HL.out.keep0 HK.out)
    have HR1 := Lib.hid (HR.out.keep HK.out fun _ _ => id)
    obtain ⟨wo, hwo⟩ : ∃ wo, wr = wo := ⟨_, rfl⟩
    rw [hwo] at HL1 HR1 HK ⊢
    clear hwo HT
    have hbo : b < wo.heap.size := HL1.out.words.lt
    go_wp2_with fail
    go_loopw [48] (fun i wr => ∃ k : Nat, k ≤ n ∧ i = .int .i64 k ∧ Hid (WordsIs wr b c D (turnL L (l.take k) u)) ∧ Hid (Keep (fun j => j = b) wo wr) ∧ Hid (Rd wr 2 (.slice oa n ca) n (adCells l))) (fun i _ => n - (intOf i).toNat)
    case atStart => exact ⟨0, Nat.zero_le _, rfl, Lib.hid (HL1.out.words.congr fun x => by unfold turnL; cases u <;> simp), Lib.hid (Keep.refl _ _), HR1⟩
    case round =>
    clear HR1
    obtain ⟨k, hk, rfl, HW, HK2, HR1⟩ := hrel
    by_cases hlt : k < n
    · have hki : (k : Int) < (n : Int) := by omega
      have hk0 : (0 : Int) ≤ (k : Int) := by omega
      obtain ⟨x, h_x⟩ : ∃ x, l[k]? = some x := ⟨l[k]'(by rw [HN2.out]; exact hlt), List.getElem?_eq_getElem _⟩
      have h_r := HR1.out
      rw [← HN2.out] at h_r
      obtain ⟨gl, ol, cap', h_v, h_at⟩ := rd_ad h_r h_x
      have e1 : oa = some ⟨gl, ol, none⟩ := by cases h_v; rfl
      subst e1
      have HX := Lib.hid h_at; have HE := Lib.hid h_x
      clear h_x h_r h_v h_at
      have hmx : mayB x D Z = true := by
        have h1 := HOK.out
        unfold okT at h1
        rw [Bool.and_eq_true, List.all_eq_true] at h1
        have h2 := h1.1 x (List.mem_of_getElem? HE.out)
        rw [Bool.and_eq_true] at h2
        exact h2.1
      obtain ⟨d, s, rfl, hd, h5, hs⟩ := mayB_nat hmx
      clear hmx
      go_wp2_with (first
        | ((with_reducible show wpList _ _ _ (⟨_, .load 50 (.tmp 50), _, _, _, _⟩ :: _) _ _); refine wpList_load_mid rfl 50 (.tmp 50) rfl gl (ol + k * 2) rfl (adCs ⟨(d : Int), (s : Int)⟩) _ HX.out adUnder rfl sizeAd ?_)
        | ((with_reducible show wpList _ _ _ (⟨some 10, .alloc 50, _, _, _, _⟩ :: _) _ _); refine wpList_alloc_at rfl 50 rfl zeroAd zeroAddr #[.int .i64 0, .int .i64 0] rfl ?_)
        | ((with_reducible show wpList _ _ _ (⟨none, .store 50 (.tmp 10) (.tmp 51), _, _, _, _⟩ :: _) _ _); refine wpList_store_agg rfl 50 (.tmp 10) (.tmp 51) rfl wr.heap.size 0 (adCs ⟨(d : Int), (s : Int)⟩) rfl rfl #[.int .i64 0, .int .i64 0] 50 (heap_alloc_new _ _) (Nat.le_refl _) sizeAd (oneCell_ad _) ?_
           intro w3 hb3 hk3
           rw [spl_whole _ _ (by rfl)] at hb3
           have hk4 : Keep noBlk wr w3 := ((Keep.refl noBlk wr).alloc _).trans' hk3 (fun _ _ h => h) (fun i hi e => by omega)
           have HB3 := Lib.hid hb3; have HK4 := Lib.hid hk4
           clear hb3 hk3 hk4))
      have hwx : wr.heap.size < w3.heap.size := lt_of_block HB3.out
      have hbr : b < wr.heap.size := HW.out.lt
      obtain ⟨X, hX⟩ : ∃ X, wr.heap.size = X := ⟨_, rfl⟩
      rw [hX] at HB3 hwx hbr ⊢
      clear hX HX
      have hc1 := ((HL1.out.top.keep HK2.out hab).keep HK4.out id).c1
      have hx0 : w3.cell? ⟨X, 0, none⟩ = some (.int .i64 (d : Int)) := blk_cell HB3.out rfl
      have hx1 : w3.cell? ⟨X, 1, none⟩ = some (.int .i64 (s : Int)) := blk_cell HB3.out rfl
      have hdi : (d : Int) < (D : Int) := by omega
      have hd0 : (0 : Int) ≤ (d : Int) := by omega
      have HC := Lib.hid (fun wx (kk : Keep noBlk w3 wx) => dturn_any wx b D c (turnL L (l.take k) u) (turnL L (l.take (k + 1)) u) ((HW.out.keep HK4.out id).keep kk id) d s hd (by omega) (fun e t _ _ => used_turn HOK.out HE.out e t))
      have HKX := Lib.hid (HK2.out.trans' HK4.out (U := fun j => j = b) (fun _ _ h => h) (fun _ _ h => h.elim))
      have HRX := Lib.hid (HR1.out.keep HK4.out fun _ _ => id)
      clear HK2 HK4 HR1 HW
      obtain ⟨dd, hdd⟩ : ∃ dd, d * 65 = dd := ⟨_, rfl⟩
      rw [hdd] at HC
      go_still_tail 9, (by kernel_rfl)
      go_wp2_with fail
      try rw [hdd]
      refine (HC.out _ (Keep.refl noBlk _).drew).mono ?_
      rintro e w6 ⟨rfl, hw6, hk6⟩
      have HW6 := Lib.hid hw6
      have hk7 := (Keep.refl (fun j => j = b) w3).drew.trans hk6
      have HK6 := Lib.hid (HKX.out.trans hk7)
      have HR6 := Lib.hid (HRX.out.keep hk7 (fun i hi e => by
        have h1 := HRF.out (by rw [HN2.out]; omega) i hi
        omega))
      clear hw6 hk6 hk7 HC HKX HRX
      go_wp2_with fail
      go_roundw
      case rel => exact ⟨k + 1, by omega, by go_num, HW6, HK6, HR6⟩
      case measure => simp [intOf]; omega
    · obtain rfl : n = k := by omega
      have hw2 := HW.out
      rw [List.take_of_length_le (by rw [HN2.out]; exact Nat.le_refl _)] at hw2
      have HC := Lib.hid (waits_any wr a b D Z c _ (HL1.out.top.keep HK2.out hab) hw2 hbd.2.1 (by omega) hbd.2.2.2)
      clear hw2
      go_wp2_with fail
      refine HC.out.mono ?_
      rintro e w6 ⟨rfl, c', h1, h2, h3, h4⟩
      have hws : w.heap.size ≤ wr.heap.size := Nat.le_trans HK.out.size HK2.out.size
      have hlo := HL.out.lo
      have hlw := HL.out.own_lt (k := a) (.inl rfl)
      have hPO : ∀ e, e = .returned (.int .i64 0) → TurnsPost w lo a b D Z L l u e w6 := fun e he => by
        unfold TurnsPost
        rw [HOK.out, if_pos rfl]
        refine ⟨he, c', ⟨(HL1.out.top.keep HK2.out hab).keep h4 hab, h1, fun d hd => ?_, h3, hbd, hlo.1, hlo.2.1, fun d g hd hg => ?_⟩, fun d g hd hg => ?_, ((HK.out.trans' HK2.out (U := fun j => j = b) (fun _ _ h => h.elim) (fun _ _ h => h)).trans h4)⟩
        · obtain ⟨g, h5, -, h6⟩ := h2 d hd
          exact ⟨g, h5, h6⟩
        · obtain ⟨g', h5, h6, -⟩ := h2 d hd
          rw [hg] at h5
          cases h5
          omega
        · obtain ⟨g', h5, h6, -⟩ := h2 d hd
          rw [hg] at h5
          cases h5
          omega
      have HPO := Lib.hid hPO
      clear hPO h1 h2 h3 h4 HC
      go_wp2_with fail
      go_ret
      exact HPO.out _ rfl

theorem mark_far (w : World) (lo a b D Z : Nat) (c : Nat → Option Nat) (L : List Ad) (h : LedIs w lo a b c D Z L) (v : Value) (l : List Ad) (hr : Rd w 2 v l.length (adCells l)) (hfar : 0 < l.length → ∀ i, v.ownBlock = some i → i ≠ b) :
    Calls Try.prog 22 #[.pointer (some ⟨a, 0, none⟩), v] w (TurnsPost w lo a b D Z L l false) := by
  have HC := Lib.hid (turns_far w lo a b D Z c L h v l hr hfar false)
  obtain ⟨va, vc, rfl, -, -⟩ := hr.form
  obtain ⟨n, hn⟩ : ∃ n, l.length = n := ⟨_, rfl⟩
  rw [hn] at HC ⊢
  clear h hr hfar hn
  have HP : Hid (∀ e w', TurnsPost w lo a b D Z L l false e w' → ∃ r : Int, e = .returned (.int .i64 r)) := Lib.hid (fun e w' hp => by
    unfold TurnsPost at hp
    split at hp
    · exact ⟨0, hp.1⟩
    · exact ⟨2, hp.1⟩)
  go_enter Try.func22, Try.ntmps22
  go_wp2_with fail
  refine HC.out.mono ?_
  intro e w2 hp
  obtain ⟨r, rfl⟩ := HP.out e w2 hp
  have HPP := Lib.hid hp
  clear hp HC HP
  go_wp2_with fail
  go_ret
  exact HPP.out
theorem mark_any (w : World) (lo a b D Z : Nat) (c : Nat → Option Nat) (L : List Ad) (h : LedIs w lo a b c D Z L) (v : Value) (l : List Ad) (hr : Rd w 2 v l.length (adCells l)) (hfar : ∀ i, v.ownBlock = some i → i ≠ b) :
    Calls Try.prog 22 #[.pointer (some ⟨a, 0, none⟩), v] w (TurnsPost w lo a b D Z L l false) := mark_far w lo a b D Z c L h v l hr fun _ => hfar

theorem release_far (w : World) (lo a b D Z : Nat) (c : Nat → Option Nat) (L : List Ad) (h : LedIs w lo a b c D Z L) (v : Value) (l : List Ad) (hr : Rd w 2 v l.length (adCells l)) (hfar : 0 < l.length → ∀ i, v.ownBlock = some i → i ≠ b) :
    Calls Try.prog 23 #[.pointer (some ⟨a, 0, none⟩), v] w (TurnsPost w lo a b D Z L l true) := by
  have HC := Lib.hid (turns_far w lo a b D Z c L h v l hr hfar true)
  obtain ⟨va, vc, rfl, -, -⟩ := hr.form
  obtain ⟨n, hn⟩ : ∃ n, l.length = n := ⟨_, rfl⟩
  rw [hn] at HC ⊢
  clear h hr hfar hn
  have HP : Hid (∀ e w', TurnsPost w lo a b D Z L l true e w' → ∃ r : Int, e = .returned (.int .i64 r)) := Lib.hid (fun e w' hp => by
    unfold TurnsPost at hp
    split at hp
    · exact ⟨0, hp.1⟩
    · exact ⟨2, hp.1⟩)
  go_enter Try.func23, Try.ntmps23
  go_wp2_with fail
  refine HC.out.mono ?_
  intro e w2 hp
  obtain ⟨r, rfl⟩ := HP.out e w2 hp
  have HPP := Lib.hid hp
  clear hp HC HP
  go_wp2_with fail
  go_ret
  exact HPP.out
theorem release_any (w : World) (lo a b D Z : Nat) (c : Nat → Option Nat) (L : List Ad) (h : LedIs w lo a b c D Z L) (v : Value) (l : List Ad) (hr : Rd w 2 v l.length (adCells l)) (hfar : ∀ i, v.ownBlock = some i → i ≠ b) :
    Calls Try.prog 23 #[.pointer (some ⟨a, 0, none⟩), v] w (TurnsPost w lo a b D Z L l true) := release_far w lo a b D Z c L h v l hr fun _ => hfar

end Go.Proofs.Ytfjklgbakhjjiaa
