/-
  What is none; all, takes, awake.
  Conditions: none.
-/
import Derived.Test.YtfjklgbakhjjiaaLedC
import Derived.Test.YtfjklgbakhjjiaaLedD
import Derived.Test.YtfjklgbakhjjiaaLedE
import Derived.Test.YtfjklgbakhjjiaaSameI
import Derived.Test.YtfjklgbakhjjiaaOfAddr
import Derived.Test.YtfjklgbakhjjiaaSameAddr
namespace Go.Proofs.Ytfjklgbakhjjiaa
open Go.RowKit Go.Maps Go.ChangeMaps
set_option maxRecDepth 100000
set_option linter.unusedVariables false

/-- No ledger: nil, or one that New did not make. -/
def IsNone (w : World) (p : Value) : Prop := p = .pointer none ∨ ∃ a, p = .pointer (some ⟨a, 0, none⟩) ∧ TopIs w a 0 none 0
theorem IsNone.keep {w w' : World} {p : Value} (h : IsNone w p) (k : Keep noBlk w w') : IsNone w' p := h.elim .inl fun ⟨a, h1, h2⟩ => .inr ⟨a, h1, h2.keep k id⟩
theorem isNone_any (w : World) (p : Value) (h : IsNone w p) : Calls Try.prog 49 #[p] w fun e w' => e = .returned (.bool true) ∧ w = w' := by
  rcases h with rfl | ⟨a, rfl, h⟩
  · exact none_nil w
  · exact none_any w a 0 0 none h

theorem take_none (w : World) (p : Value) (h : IsNone w p) (v : Value) (cp : Int) : Calls Try.prog 20 #[p, v, .int .i64 cp] w fun e w' => e = .returned (.tuple #[.slice none 0 0, .int .i64 1]) ∧ w = w' := by
  have HC := Lib.hid (isNone_any w p h)
  clear h
  go_enter Try.func20, Try.ntmps20
  go_wp2_with fail
  refine HC.out.mono ?_
  rintro e w2 ⟨rfl, rfl⟩
  clear HC
  go_wp2_with fail
  go_ret2
  exact ⟨rfl, rfl⟩

theorem room_none (w : World) (p : Value) (h : IsNone w p) (v : Value) (cp : Int) : Calls Try.prog 21 #[p, v, .int .i64 cp] w fun e w' => e = .returned (.tuple #[.int .i64 0, .int .i64 1]) ∧ w = w' := by
  have HC := Lib.hid (isNone_any w p h)
  clear h
  go_enter Try.func21, Try.ntmps21
  go_wp2_with fail
  refine HC.out.mono ?_
  rintro e w2 ⟨rfl, rfl⟩
  clear HC
  go_wp2_with fail
  go_ret2
  exact ⟨rfl, rfl⟩

theorem turns_none (w : World) (p : Value) (h : IsNone w p) (v : Value) (u : Bool) : Calls Try.prog 54 #[p, v, .bool u] w fun e w' => e = .returned (.int .i64 1) ∧ w = w' := by
  have HC := Lib.hid (isNone_any w p h)
  clear h
  go_enter Try.func54, Try.ntmps54
  go_wp2_with fail
  refine HC.out.mono ?_
  rintro e w2 ⟨rfl, rfl⟩
  clear HC
  go_wp2_with fail
  go_ret
  exact ⟨rfl, rfl⟩

theorem free_none (w : World) (p : Value) (h : IsNone w p)  : Calls Try.prog 17 #[p] w fun e w' => e = .returned (.slice none 0 0) ∧ w = w' := by
  have HC := Lib.hid (isNone_any w p h)
  clear h
  go_enter Try.func17, Try.ntmps17
  go_wp2_with fail
  refine HC.out.mono ?_
  rintro e w2 ⟨rfl, rfl⟩
  clear HC
  go_wp2_with fail
  go_ret
  exact ⟨rfl, rfl⟩

theorem used_none (w : World) (p : Value) (h : IsNone w p)  : Calls Try.prog 19 #[p] w fun e w' => e = .returned (.slice none 0 0) ∧ w = w' := by
  have HC := Lib.hid (isNone_any w p h)
  clear h
  go_enter Try.func19, Try.ntmps19
  go_wp2_with fail
  refine HC.out.mono ?_
  rintro e w2 ⟨rfl, rfl⟩
  clear HC
  go_wp2_with fail
  go_ret
  exact ⟨rfl, rfl⟩

theorem mark_none (w : World) (p : Value) (h : IsNone w p) (v : Value) : Calls Try.prog 22 #[p, v] w fun e w' => e = .returned (.int .i64 1) ∧ w = w' := by
  have HC := Lib.hid (turns_none w p h v false)
  clear h
  go_enter Try.func22, Try.ntmps22
  go_wp2_with fail
  refine HC.out.mono ?_
  rintro e w2 ⟨rfl, rfl⟩
  clear HC
  go_wp2_with fail
  go_ret
  exact ⟨rfl, rfl⟩

theorem release_none (w : World) (p : Value) (h : IsNone w p) (v : Value) : Calls Try.prog 23 #[p, v] w fun e w' => e = .returned (.int .i64 1) ∧ w = w' := by
  have HC := Lib.hid (turns_none w p h v true)
  clear h
  go_enter Try.func23, Try.ntmps23
  go_wp2_with fail
  refine HC.out.mono ?_
  rintro e w2 ⟨rfl, rfl⟩
  clear HC
  go_wp2_with fail
  go_ret
  exact ⟨rfl, rfl⟩

set_option maxHeartbeats 4000000 in
theorem has_none (w : World) (p : Value) (h : IsNone w p) (x : Ad) : Calls Try.prog 24 #[p, .agg (adCs x).toArray] w fun e w' => e = .returned (.bool false) ∧ Keep noBlk w w' := by
  obtain ⟨w0, hw0, hk0, hb0, hs0⟩ := alloc_facts w (adCs x).toArray 50
  have HN := Lib.hid (fun wx (k : Keep noBlk w0 wx) => isNone_any wx p (h.keep (hk0.trans k)))
  have HK := Lib.hid hk0
  clear hk0 hb0 hs0 h
  go_enter Try.func24, Try.ntmps24
  go_wp2_with fail
  clear hw0
  obtain ⟨S, hS0⟩ : ∃ S : World → Prop, S = fun w' => Keep noBlk w0 w' := ⟨_, rfl⟩
  have HSE := Lib.hid (show ∀ w', S w' → Keep noBlk w0 w' from fun w' h => by rw [hS0] at h; exact h)
  have HSI := Lib.hid (show ∀ w', Keep noBlk w0 w' → S w' from fun w' h => by rw [hS0]; exact h)
  have hS : S w0.drew := by rw [hS0]; exact (Keep.refl _ _).drew
  clear hS0
  refine wp_region_held (S := S) (by kernel_rfl) ?_
  change wpAnyH _ _ _ _ _ _ _ _ w0.drew
  generalize w0.drew = wq41 at hS ⊢
  refine tka 0 p rfl hS ?_
  simp only [Act.put, List.setIfInBounds_toArray, List.set_cons_zero, List.set_cons_succ, List.getElem_toArray, List.getElem_cons_zero]
  refine wpAnyH_one (k := 1) rfl (by kernel_rfl) ?_
  go_wp2_with fail
  refine (HN.out _ (HSE.out _ hS)).mono ?_
  rintro e wq42 ⟨rfl, rfl⟩
  have hk := Keep.refl noBlk wq41
  have hS1 := HSI.out _ ((HSE.out _ hS).trans hk)
  clear hS hk
  go_wp2_with fail
  refine ⟨hS1, ?_⟩
  refine tnb 2 (.bool false) rfl hS1 ?_
  refine tna 3 (.bool false) rfl hS1 ?_
  refine tnc 4 undef rfl hS1 ?_
  refine tnc 5 undef rfl hS1 ?_
  refine tnc 6 undef rfl hS1 ?_
  refine tna 7 (.bool false) rfl hS1 ?_
  refine tna 8 (.bool false) rfl hS1 ?_
  refine tnc 9 undef rfl hS1 ?_
  refine tnc 10 undef rfl hS1 ?_
  refine tnc 11 undef rfl hS1 ?_
  refine tnc 12 undef rfl hS1 ?_
  refine tnc 13 undef rfl hS1 ?_
  refine tnc 14 undef rfl hS1 ?_
  refine tnc 15 undef rfl hS1 ?_
  refine tnc 16 undef rfl hS1 ?_
  refine tnc 17 undef rfl hS1 ?_
  refine tnc 18 undef rfl hS1 ?_
  refine tna 19 (.bool false) rfl hS1 ?_
  refine tna 20 (.bool false) rfl hS1 ?_
  refine wpAnyH_done (by kernel_rfl) ?_ _
  have HKR := Lib.hid (HSE.out _ hS1)
  clear hS1 HSE HSI
  have HK := Lib.hid (HK.out.trans HKR.out)
  go_wp2_with fail
  go_ret
  exact ⟨rfl, HK.out⟩
theorem infoBool : (Try.prog.info? 4).map (fun i => (i.zero, i.size, i.bytes)) = some (some (.bool false), 1, 1) := by kernel_rfl
def AllPost (w : World) (n : Nat) (e : Ending) (w' : World) : Prop := ∃ v, e = .returned v ∧ w'.ownsRow w.heap.size 4 1 v n ((List.replicate n true).map Value.bool) ∧ Keep noBlk w w'
set_option maxHeartbeats 4000000 in
theorem all_any (w : World) (n : Nat) (hn : n ≤ 100) : Calls Try.prog 27 #[.int .i64 (n : Int)] w (AllPost w n) := by
  go_enter Try.func27, Try.ntmps27
  go_wp2_with fail
  go_loopw [3, 4] (fun t i wr => ∃ (k : Nat) (pa : Option Addr) (pc : Nat), k ≤ n ∧ t = .slice pa k pc ∧ i = .int .i64 k ∧ Hid (wr.ownsRow w.heap.size 4 1 (.slice pa k pc) k ((List.replicate k true).map Value.bool)) ∧ Hid (Keep noBlk w wr)) (fun _ i _ => n - (intOf i).toNat)
  case atStart => exact ⟨0, none, 0, Nat.zero_le _, rfl, rfl, Lib.hid (World.ownsRow_nil _ _ _ _), Lib.hid (Keep.refl _ _)⟩
  case round =>
  obtain ⟨k, pa, pc, hk, rfl, rfl, HO, HK⟩ := hrel
  by_cases hlt : k < n
  · have hki : (k : Int) < (n : Int) := by omega
    have hk0 : (0 : Int) ≤ (k : Int) := by omega
    obtain ⟨w8, hw8, hk8, hb8, hs8⟩ := alloc_facts wr #[.bool true] 4
    have HR8 : Hid (Rd w8 1 (.slice (some ⟨wr.heap.size, 0, none⟩) 1 1) 1 [.bool true]) := Lib.hid (rd_blk (n := 1) (size := 1) (vs := [.bool true]) hb8 rfl (by unfold maxLen; omega))
    have HO8 := Lib.hid (hk8.owns HO.out fun _ _ => id); have HK8 := Lib.hid (HK.out.trans hk8)
    have hsz8 : w.heap.size ≤ w8.heap.size := HK8.out.size
    have hone : ∀ u ∈ [Value.bool true], u.oneCell' = true := by simp [Value.oneCell']
    have HAP : Hid ((List.replicate (k + 1) true).map Value.bool = (List.replicate k true).map Value.bool ++ [.bool true]) := Lib.hid (by rw [List.replicate_succ', List.map_append]; rfl)
    clear hk8 hb8 hs8
    go_wp2_with (first
      | (at_builtin; try rw [hw8]
         refine wpList_append_rd rfl (.tmp 10) (.tmp 11) 39 rfl w.heap.size 4 (.bool false) 1 1 Try.underlying39 infoBool rfl (by decide) (.slice pa k pc) k ((List.replicate k true).map Value.bool) rfl HO8.out (.slice (some ⟨wr.heap.size, 0, none⟩) 1 1) 1 [.bool true] rfl HR8.out hone (by unfold maxLen; omega) (by omega) hsz8 ?_
         intro v' w5 ho5 hk5 hn5 hb5
         obtain ⟨va, vc, rfl, -, -⟩ := (Rd.of_owns ho5).form
         have HO5 : Hid (w5.ownsRow w.heap.size 4 1 (.slice va (k + 1) vc) (k + 1) ((List.replicate (k + 1) true).map Value.bool)) := Lib.hid (by rw [HAP.out]; exact ho5)
         have HK5 := Lib.hid (HK8.out.trans' hk5 (U := noBlk) (fun _ _ h => h) (fun i hi e => by have := owns_base HO8.out e; omega))
         clear ho5 hk5 hn5 hb5 hw8))
    go_roundw
    case rel => exact ⟨k + 1, va, vc, by omega, rfl, by go_num, HO5, HK5⟩
    case measure => simp [intOf]; omega
  · obtain rfl : n = k := by omega
    go_wp2_with fail
    go_ret
    exact ⟨_, rfl, HO.out, HK.out⟩
theorem told_of {P : Program} {f : FuncId} {args : Array Value} {w : World} {l l' : List Ad} (h : Calls P f args w (ListPost w l)) (hl : l = l') : Calls P f args w (ListPost w l') := hl ▸ h
theorem yes_of {P : Program} {f : FuncId} {args : Array Value} {w : World} {b b' : Bool} (h : Calls P f args w fun e w' => e = .returned (.bool b) ∧ Keep noBlk w w') (hb : b = b') : Calls P f args w fun e w' => e = .returned (.bool b') ∧ Keep noBlk w w' := hb ▸ h
def TakesPost (w : World) (lo a b : Nat) (c : Nat → Option Nat) (D Z : Nat) (L : List Ad) (e : Ending) (w' : World) : Prop := e = .returned (.bool true) ∧ LedIs w' lo a b c D Z L ∧ Keep (Own a b c D) w w'
set_option maxHeartbeats 4000000 in
theorem takes_yes (w : World) (lo a b D Z : Nat) (c : Nat → Option Nat) (L : List Ad) (h : LedIs w lo a b c D Z L) (vt : Value) (th : List Bool) (cp : Int) (ht : Rd w 1 vt th.length (th.map Value.bool)) (vw : Value) (want : List Int)
    (hw : Rd w 1 vw want.length (want.map fun x => .int .i64 x)) (hwl : want.length ≤ 100) (hfar : ∀ k, vw.ownBlock = some k → ¬ Own a b c D k) (l : List Nat)
    (hck : checkB (freeN L D Z) th cp = true) (hch : chooseL (freeN L D Z) th cp.toNat = some l) (hp : takenL L Z l = pairs want) :
    Calls Try.prog 26 #[.pointer (some ⟨a, 0, none⟩), vt, .int .i64 cp, vw] w (TakesPost w lo a b c D Z (L ++ pairs want)) := by
  have HC := Lib.hid (take_any w lo a b D Z c L h vt th cp ht)
  have HW := Lib.hid hw; have HF := Lib.hid hfar
  have HCK := Lib.hid hck; have HCH := Lib.hid hch; have HP := Lib.hid hp; have HWL := Lib.hid hwl
  obtain ⟨ta, tc, rfl, -, -⟩ := ht.form
  obtain ⟨wa, wc, rfl, -, -⟩ := hw.form
  obtain ⟨n, hn⟩ : ∃ n, want.length = n := ⟨_, rfl⟩
  obtain ⟨q, hq⟩ : ∃ n, th.length = n := ⟨_, rfl⟩
  have HN := Lib.hid hn
  rw [hq] at HC ⊢
  rw [hn] at HW HF ⊢
  clear h ht hw hfar hck hch hp hn hq hwl
  go_enter Try.func26, Try.ntmps26
  go_wp2_with fail
  refine HC.out.mono ?_
  intro e w2 hpost
  unfold TakePost at hpost
  rw [HCK.out, if_pos rfl, HCH.out] at hpost
  obtain ⟨v, rfl, h1, h2, h3⟩ := hpost
  rw [HP.out] at h1 h2
  have hlen : l.length = (pairs want).length := by rw [← HP.out, takenL_len]
  rw [hlen] at h2
  have HL := Lib.hid h1; have HO := Lib.hid h2; have HK := Lib.hid h3
  have HW2 := Lib.hid (HW.out.keep h3 HF.out)
  obtain ⟨pl, hpl⟩ : ∃ k, (pairs want).length = k := ⟨_, rfl⟩
  have HPL := Lib.hid hpl
  rw [hpl] at HO h2
  obtain ⟨va, vc, rfl, -, -⟩ := (Rd.of_owns h2).form
  clear h1 h2 h3 hlen HC hpl
  go_wp2_with fail
  refine (lawof_any w2 _ want (by rw [HN.out]; exact HW2.out) HWL.out).mono ?_
  rintro e w3 ⟨v2, rfl, ho2, hk2⟩
  have HL3 := Lib.hid (HL.out.keep0 hk2)
  have HR1 := Lib.hid ((Rd.of_owns HO.out).keep hk2 fun _ _ => id)
  have HR2 := Lib.hid (Rd.of_owns ho2)
  have HK3 := Lib.hid (HK.out.trans' hk2 (U := Own a b c D) (fun _ _ h => h) (fun _ _ h => h.elim))
  rw [HPL.out] at HR2 ho2
  obtain ⟨va2, vc2, rfl, -, -⟩ := (Rd.of_owns ho2).form
  clear ho2 hk2
  go_wp2_with fail
  refine (same_any w3 _ _ (pairs want) (pairs want) (by rw [HPL.out]; exact HR1.out) (by rw [HPL.out]; exact HR2.out) true (decide_eq_true rfl)).mono ?_
  rintro e w4 ⟨rfl, hk4⟩
  have HL4 := Lib.hid (HL3.out.keep0 hk4)
  have HK4 := Lib.hid (HK3.out.trans' hk4 (U := Own a b c D) (fun _ _ h => h) (fun _ _ h => h.elim))
  clear hk4
  go_wp2_with fail
  go_ret
  exact ⟨rfl, HL4.out, HK4.out⟩
instance (fr : List Int) (r : List Nat) : Decidable (Ranks fr r) := by unfold Ranks; infer_instance
instance (x : Int) : Decidable (In64 x) := by unfold In64; infer_instance
theorem choose_of {fr : List Int} {th : List Bool} {cp : Nat} {l r : List Nat} (hp : r.Perm (ableTo fr th fr.length)) (hr : Ranks fr r) (h : (if ableTo fr th fr.length = [] ∨ (ableTo fr th fr.length).length < wantN th cp then none else some (r.take (wantN th cp))) = some l) : chooseL fr th cp = some l := by
  unfold chooseL
  rw [← rank_unique hp hr]
  exact h
theorem LedIs.fresh {w0 w w' : World} {lo a b D Z : Nat} {c : Nat → Option Nat} {L : List Ad} (h : LedIs w lo a b c D Z L) (k : Keep (Own a b c D) w w') (hk : Keep noBlk w0 w) (hlo : w0.heap.size ≤ lo) : Keep noBlk w0 w' :=
  hk.trans' k (fun _ _ h => h) (fun i hi ho => by have := (h.own_lt ho).1; omega)

set_option maxHeartbeats 16000000 in
theorem awakeA_any (w : World) : Calls Try.prog 9 #[] w (TherePost w true) := by
  have HK := Lib.hid (Keep.refl noBlk w)
  have hbd := buildAd 1 6
  go_enter Try.func9, Try.ntmps9
  go_wp2_with fail
  refine (lawof_any _ _ [0, 5] (rd_blk (n := 2) (size := 1) (heap_alloc_new _ _) rfl (by unfold maxLen; omega)) (by decide)).mono ?_
  rintro e wq41 ⟨v, rfl, ho2, hk1⟩
  have hk2 : Keep noBlk w wq41 := ((Keep.refl noBlk w).alloc _).trans hk1
  clear hk1
  have HK := Lib.hid (HK.out.trans hk2)
  obtain ⟨Lu, hLu⟩ : ∃ l : List Ad, pairs [0, 5] = l := ⟨_, rfl⟩
  have HELu := Lib.hid hLu
  have HALu : Hid (AdsOk Lu) := Lib.hid (by rw [← hLu]; exact (fun x hx => by simp only [pairs, List.mem_cons, List.not_mem_nil, or_false] at hx; rcases hx with rfl <;> exact ⟨⟨by decide, by decide⟩, by decide, by decide⟩))
  rw [hLu] at ho2
  clear hLu
  obtain ⟨nu, hnu⟩ : ∃ k, Lu.length = k := ⟨_, rfl⟩
  have HNLu := Lib.hid hnu
  rw [hnu] at ho2
  obtain ⟨aLu, cLu, hvLu, -, -⟩ := (Rd.of_owns ho2).form
  subst hvLu
  have HRLu := Lib.hid (Rd.of_owns ho2)
  clear ho2 hk2 hnu
  go_wp2_with fail
  refine (new_any _ 2 8 _ Lu (by rw [HNLu.out]; exact HRLu.out)).mono ?_
  intro e wq42 hpost
  unfold NewPost at hpost
  rw [show newB 2 8 Lu = true by rw [← HELu.out]; decide, if_pos rfl] at hpost
  obtain ⟨a, b, c, rfl, hld, hk⟩ := hpost
  rw [← HELu.out] at hld
  have hlo : w.heap.size ≤ wq41.heap.size := HK.out.size
  obtain ⟨lo, hloe⟩ : ∃ lo, wq41.heap.size = lo := ⟨_, rfl⟩
  rw [hloe] at hld hlo
  have HLD : Hid (LedIs wq42 lo a b c 2 8 [⟨0, 5⟩]) := Lib.hid hld
  clear hld hloe
  have HK := Lib.hid (HK.out.trans hk)
  clear hk HRLu
  go_wp2_with fail
  refine (ledFree_any _ lo a b 2 8 c [⟨0, 5⟩] HLD.out).mono ?_
  rintro e wq43 ⟨v, rfl, hov, hk⟩
  have hfe : freeN [⟨0, 5⟩] 2 8 = [2, 3] := by decide
  rw [hfe] at hov
  obtain ⟨fa, fc, rfl, -, -⟩ := (Rd.of_owns hov).form
  have HFR := Lib.hid (Rd.of_owns hov)
  clear hov hfe
  have HK := Lib.hid (HK.out.trans hk)
  have HLD := Lib.hid (HLD.out.keep0 hk)
  clear hk
  go_wp2_with fail
  refine (yes_of (b' := true) (sameInts_any _ _ _ [2, 3] [2, 3] (HFR.out.keep ((Keep.refl noBlk _).alloc _) fun _ _ => id) (rd_blk (n := 2) (size := 1) (vs := [.int .i64 2, .int .i64 3]) (heap_alloc_new _ _) rfl (by unfold maxLen; omega))) (by decide)).mono ?_
  rintro e wq44 ⟨rfl, hk1⟩
  have hk := ((Keep.refl noBlk wq43).alloc (.cells #[.int .i64 2, .int .i64 3] 3)).trans hk1
  clear hk1 HFR
  have HK := Lib.hid (HK.out.trans hk)
  have HLD := Lib.hid (HLD.out.keep0 hk)
  clear hk
  go_wp2_with fail
  refine (all_any _ 2 (by decide)).mono ?_
  rintro e wq45 ⟨v, rfl, hov, hk⟩
  obtain ⟨ta, tc, rfl, -, -⟩ := (Rd.of_owns hov).form
  have HTH := Lib.hid (Rd.of_owns hov)
  clear hov
  have HK := Lib.hid (HK.out.trans hk)
  have HLD := Lib.hid (HLD.out.keep0 hk)
  clear hk
  go_wp2_with fail
  refine (takes_yes _ lo a b 2 8 c [⟨0, 5⟩] (HLD.out.keep0 ((Keep.refl _ _).alloc _)) _ (List.replicate 2 true) 2 (HTH.out.keep ((Keep.refl noBlk _).alloc _) fun _ _ => id) _ [1, 5, 0, 6] (rd_blk (n := 4) (size := 1) (vs := [.int .i64 1, .int .i64 5, .int .i64 0, .int .i64 6]) (heap_alloc_new _ _) rfl (by unfold maxLen; omega)) (by decide) (fun k hk ho => by have e : wq45.heap.size = k := Option.some.inj hk; have := (HLD.out.own_lt ho).2; omega) [1, 0] (by decide) (choose_of (r := [1, 0]) (by decide) (by decide) (by decide)) (by decide)).mono ?_
  rintro e wq46 ⟨rfl, h1, h2⟩
  have h3 : Keep (Own a b c 2) wq45 wq46 := ((Keep.refl noBlk wq45).alloc _).trans' h2 (fun _ _ h => h.elim) (fun _ _ h => h)
  clear h2 HTH
  have h1 : LedIs wq46 lo a b c 2 8 [⟨0, 5⟩, ⟨1, 5⟩, ⟨0, 6⟩] := h1
  have hkn := HLD.out.fresh h3 HK.out hlo
  have HK := Lib.hid hkn
  have HLD := Lib.hid h1
  clear h1 hkn h3
  go_wp2_with fail
  refine (all_any _ 2 (by decide)).mono ?_
  rintro e wq47 ⟨v, rfl, hov, hk⟩
  obtain ⟨ta, tc, rfl, -, -⟩ := (Rd.of_owns hov).form
  have HTH := Lib.hid (Rd.of_owns hov)
  clear hov
  have HK := Lib.hid (HK.out.trans hk)
  have HLD := Lib.hid (HLD.out.keep0 hk)
  clear hk
  go_wp2_with fail
  refine (takes_yes _ lo a b 2 8 c [⟨0, 5⟩, ⟨1, 5⟩, ⟨0, 6⟩] (HLD.out.keep0 ((Keep.refl _ _).alloc _)) _ (List.replicate 2 true) 1 (HTH.out.keep ((Keep.refl noBlk _).alloc _) fun _ _ => id) _ [1, 6] (rd_blk (n := 2) (size := 1) (vs := [.int .i64 1, .int .i64 6]) (heap_alloc_new _ _) rfl (by unfold maxLen; omega)) (by decide) (fun k hk ho => by have e : wq47.heap.size = k := Option.some.inj hk; have := (HLD.out.own_lt ho).2; omega) [1] (by decide) (choose_of (r := [1, 0]) (by decide) (by decide) (by decide)) (by decide)).mono ?_
  rintro e wq48 ⟨rfl, h1, h2⟩
  have h3 : Keep (Own a b c 2) wq47 wq48 := ((Keep.refl noBlk wq47).alloc _).trans' h2 (fun _ _ h => h.elim) (fun _ _ h => h)
  clear h2 HTH
  have h1 : LedIs wq48 lo a b c 2 8 [⟨0, 5⟩, ⟨1, 5⟩, ⟨0, 6⟩, ⟨1, 6⟩] := h1
  have hkn := HLD.out.fresh h3 HK.out hlo
  have HK := Lib.hid hkn
  have HLD := Lib.hid h1
  clear h1 hkn h3
  go_wp2_with fail
  refine (ledFree_any _ lo a b 2 8 c [⟨0, 5⟩, ⟨1, 5⟩, ⟨0, 6⟩, ⟨1, 6⟩] HLD.out).mono ?_
  rintro e wq49 ⟨v, rfl, hov, hk⟩
  have hfe : freeN [⟨0, 5⟩, ⟨1, 5⟩, ⟨0, 6⟩, ⟨1, 6⟩] 2 8 = [1, 1] := by decide
  rw [hfe] at hov
  obtain ⟨fa, fc, rfl, -, -⟩ := (Rd.of_owns hov).form
  have HFR := Lib.hid (Rd.of_owns hov)
  clear hov hfe
  have HK := Lib.hid (HK.out.trans hk)
  have HLD := Lib.hid (HLD.out.keep0 hk)
  clear hk
  go_wp2_with fail
  refine (yes_of (b' := true) (sameInts_any _ _ _ [1, 1] [1, 1] (HFR.out.keep ((Keep.refl noBlk _).alloc _) fun _ _ => id) (rd_blk (n := 2) (size := 1) (vs := [.int .i64 1, .int .i64 1]) (heap_alloc_new _ _) rfl (by unfold maxLen; omega))) (by decide)).mono ?_
  rintro e wq50 ⟨rfl, hk1⟩
  have hk := ((Keep.refl noBlk wq49).alloc (.cells #[.int .i64 1, .int .i64 1] 3)).trans hk1
  clear hk1 HFR
  have HK := Lib.hid (HK.out.trans hk)
  have HLD := Lib.hid (HLD.out.keep0 hk)
  clear hk
  go_wp2_with fail
  refine (told_of (ledUsed_any _ lo a b 2 8 c [⟨0, 5⟩, ⟨1, 5⟩, ⟨0, 6⟩, ⟨1, 6⟩] HLD.out) (show usedAll [⟨0, 5⟩, ⟨1, 5⟩, ⟨0, 6⟩, ⟨1, 6⟩] 2 8 = [⟨0, 5⟩, ⟨0, 6⟩, ⟨1, 5⟩, ⟨1, 6⟩] by decide)).mono ?_
  rintro e wq51 ⟨v, rfl, hov, hk⟩
  obtain ⟨ua, uc, rfl, -, -⟩ := (Rd.of_owns hov).form
  have HUS := Lib.hid (Rd.of_owns hov)
  clear hov
  have HK := Lib.hid (HK.out.trans hk)
  have HLD := Lib.hid (HLD.out.keep0 hk)
  clear hk
  go_wp2_with fail
  refine (lawof_any _ _ [0, 5, 0, 6, 1, 5, 1, 6] (rd_blk (n := 8) (size := 1) (heap_alloc_new _ _) rfl (by unfold maxLen; omega)) (by decide)).mono ?_
  rintro e wq52 ⟨v, rfl, ho2, hk1⟩
  have hk2 : Keep noBlk wq51 wq52 := ((Keep.refl noBlk wq51).alloc _).trans hk1
  clear hk1
  have HK := Lib.hid (HK.out.trans hk2)
  have HLD := Lib.hid (HLD.out.keep0 hk2)
  have HUS := Lib.hid (HUS.out.keep hk2 fun _ _ => id)
  obtain ⟨Lv, hLv⟩ : ∃ l : List Ad, pairs [0, 5, 0, 6, 1, 5, 1, 6] = l := ⟨_, rfl⟩
  have HELv := Lib.hid hLv
  have HALv : Hid (AdsOk Lv) := Lib.hid (by rw [← hLv]; exact (fun x hx => by simp only [pairs, List.mem_cons, List.not_mem_nil, or_false] at hx; rcases hx with rfl | rfl | rfl | rfl <;> exact ⟨⟨by decide, by decide⟩, by decide, by decide⟩))
  rw [hLv] at ho2
  clear hLv
  obtain ⟨nv, hnv⟩ : ∃ k, Lv.length = k := ⟨_, rfl⟩
  have HNLv := Lib.hid hnv
  rw [hnv] at ho2
  obtain ⟨aLv, cLv, hvLv, -, -⟩ := (Rd.of_owns ho2).form
  subst hvLv
  have HRLv := Lib.hid (Rd.of_owns ho2)
  clear ho2 hk2 hnv
  go_wp2_with fail
  have hev : [⟨0, 5⟩, ⟨0, 6⟩, ⟨1, 5⟩, ⟨1, 6⟩] = Lv := HELv.out
  subst hev
  have hnv : 4 = nv := HNLv.out
  subst hnv
  refine (same_any _ _ _ [⟨0, 5⟩, ⟨0, 6⟩, ⟨1, 5⟩, ⟨1, 6⟩] [⟨0, 5⟩, ⟨0, 6⟩, ⟨1, 5⟩, ⟨1, 6⟩] HUS.out HRLv.out true (decide_eq_true rfl)).mono ?_
  rintro e wq53 ⟨rfl, hk⟩
  have HK := Lib.hid (HK.out.trans hk)
  have HLD := Lib.hid (HLD.out.keep0 hk)
  have HUS := Lib.hid (HUS.out.keep hk fun _ _ => id)
  have HRLv := Lib.hid (HRLv.out.keep hk fun _ _ => id)
  clear hk
  clear HUS HRLv HELv HALv HNLv
  go_wp2_with fail
  refine (yes_of (ledHas_any _ lo a b 2 8 c [⟨0, 5⟩, ⟨1, 5⟩, ⟨0, 6⟩, ⟨1, 6⟩] HLD.out ⟨1, 6⟩) (show inB ⟨1, 6⟩ 2 8 [⟨0, 5⟩, ⟨1, 5⟩, ⟨0, 6⟩, ⟨1, 6⟩] = true by decide)).mono ?_
  rintro e wq54 ⟨rfl, hk⟩
  have HK := Lib.hid (HK.out.trans hk)
  have HLD := Lib.hid (HLD.out.keep0 hk)
  clear hk
  go_wp2_with fail
  go_ret
  exact ⟨rfl, HK.out⟩

end Go.Proofs.Ytfjklgbakhjjiaa
