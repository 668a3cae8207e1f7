/-
  AllocKnown: the chapter's examples are answered as it says.
  Conditions: none.
-/
import Derived.Test.YtfjklgbakhjjiaaLawA
import Derived.Test.YtfjklgbakhjjiaaManyA
namespace Go.Proofs.Ytfjklgbakhjjiaa
open Go.RowKit Go.Maps Go.ChangeMaps
set_option maxRecDepth 100000
set_option linter.unusedVariables false

set_option maxHeartbeats 32000000 in
theorem allocKnown_walk (w : World) : Calls Try.prog 5 #[] w (TherePost w true) := by
  have CW := Lib.hid (fun w => (awakeA_any w).mono fun e w' (h : TherePost w true e w') => (show e = .returned (.bool true) ∧ Keep noBlk w w' from h))
  have HK := Lib.hid (Keep.refl noBlk w)
  have hbd := buildAd 0 4
  go_enter Try.func5, Try.ntmps5
  go_wp2_with fail
  refine (lawof_any _ _ [0, 5] (rd_blk (n := 2) (size := 1) (heap_alloc_new _ _) rfl (by unfold maxLen; omega)) (by decide)).mono ?_
  rintro e wq41 ⟨v, rfl, ho2, hk1⟩
  have hk2 : Keep noBlk w wq41 := ((Keep.refl noBlk w).alloc _).trans hk1
  clear hk1
  have HK := Lib.hid (HK.out.trans hk2)
  obtain ⟨Lu, hLu⟩ : ∃ l : List Ad, pairs [0, 5] = l := ⟨_, rfl⟩
  have HELu := Lib.hid hLu
  have HALu : Hid (AdsOk Lu) := Lib.hid (by rw [← hLu]; exact (fun x hx => by simp only [pairs, List.mem_cons, List.not_mem_nil, or_false] at hx; rcases hx with rfl <;> exact ⟨⟨by decide, by decide⟩, by decide, by decide⟩))
  rw [hLu] at ho2
  clear hLu
  obtain ⟨nu, hnu⟩ : ∃ k, Lu.length = k := ⟨_, rfl⟩
  have HNLu := Lib.hid hnu
  rw [hnu] at ho2
  obtain ⟨aLu, cLu, hvLu, -, -⟩ := (Rd.of_owns ho2).form
  subst hvLu
  have HRLu := Lib.hid (Rd.of_owns ho2)
  clear ho2 hk2 hnu
  go_wp2_with fail
  refine (new_any _ 2 8 _ Lu (by rw [HNLu.out]; exact HRLu.out)).mono ?_
  intro e wq42 hpost
  unfold NewPost at hpost
  rw [show newB 2 8 Lu = true by rw [← HELu.out]; decide, if_pos rfl] at hpost
  obtain ⟨a, b, c, rfl, hld, hk⟩ := hpost
  rw [← HELu.out] at hld
  have hlo : w.heap.size ≤ wq41.heap.size := HK.out.size
  obtain ⟨lo, hloe⟩ : ∃ lo, wq41.heap.size = lo := ⟨_, rfl⟩
  rw [hloe] at hld hlo
  have HLD : Hid (LedIs wq42 lo a b c 2 8 [⟨0, 5⟩]) := Lib.hid hld
  clear hld hloe
  have HK := Lib.hid (HK.out.trans hk)
  clear hk HRLu
  go_wp2_with fail
  refine (all_any _ 2 (by decide)).mono ?_
  rintro e wq43 ⟨v, rfl, hov, hk⟩
  obtain ⟨ta, tc, rfl, -, -⟩ := (Rd.of_owns hov).form
  have HTH := Lib.hid (Rd.of_owns hov)
  clear hov
  have HK := Lib.hid (HK.out.trans hk)
  have HLD := Lib.hid (HLD.out.keep0 hk)
  clear hk
  go_wp2_with fail
  refine (takes_yes _ lo a b 2 8 c [⟨0, 5⟩] (HLD.out.keep0 ((Keep.refl _ _).alloc _)) _ (List.replicate 2 true) 2 (HTH.out.keep ((Keep.refl noBlk _).alloc _) fun _ _ => id) _ [1, 5, 0, 6] (rd_blk (n := 4) (size := 1) (vs := [.int .i64 1, .int .i64 5, .int .i64 0, .int .i64 6]) (heap_alloc_new _ _) rfl (by unfold maxLen; omega)) (by decide) (fun k hk ho => by have e : wq43.heap.size = k := Option.some.inj hk; have := (HLD.out.own_lt ho).2; omega) [1, 0] (by decide) (choose_of (r := [1, 0]) (by decide) (by decide) (by decide)) (by decide)).mono ?_
  rintro e wq44 ⟨rfl, h1, h2⟩
  have h3 : Keep (Own a b c 2) wq43 wq44 := ((Keep.refl noBlk wq43).alloc _).trans' h2 (fun _ _ h => h.elim) (fun _ _ h => h)
  clear h2 HTH
  have h1 : LedIs wq44 lo a b c 2 8 [⟨0, 5⟩, ⟨1, 5⟩, ⟨0, 6⟩] := h1
  have hkn := HLD.out.fresh h3 HK.out hlo
  have HK := Lib.hid hkn
  have HLD := Lib.hid h1
  clear h1 hkn h3
  go_wp2_with fail
  refine (all_any _ 2 (by decide)).mono ?_
  rintro e wq45 ⟨v, rfl, hov, hk⟩
  obtain ⟨ta, tc, rfl, -, -⟩ := (Rd.of_owns hov).form
  have HTH := Lib.hid (Rd.of_owns hov)
  clear hov
  have HK := Lib.hid (HK.out.trans hk)
  have HLD := Lib.hid (HLD.out.keep0 hk)
  clear hk
  go_wp2_with fail
  refine (takes_yes _ lo a b 2 8 c [⟨0, 5⟩, ⟨1, 5⟩, ⟨0, 6⟩] (HLD.out.keep0 ((Keep.refl _ _).alloc _)) _ (List.replicate 2 true) 1 (HTH.out.keep ((Keep.refl noBlk _).alloc _) fun _ _ => id) _ [1, 6] (rd_blk (n := 2) (size := 1) (vs := [.int .i64 1, .int .i64 6]) (heap_alloc_new _ _) rfl (by unfold maxLen; omega)) (by decide) (fun k hk ho => by have e : wq45.heap.size = k := Option.some.inj hk; have := (HLD.out.own_lt ho).2; omega) [1] (by decide) (choose_of (r := [1, 0]) (by decide) (by decide) (by decide)) (by decide)).mono ?_
  rintro e wq46 ⟨rfl, h1, h2⟩
  have h3 : Keep (Own a b c 2) wq45 wq46 := ((Keep.refl noBlk wq45).alloc _).trans' h2 (fun _ _ h => h.elim) (fun _ _ h => h)
  clear h2 HTH
  have h1 : LedIs wq46 lo a b c 2 8 [⟨0, 5⟩, ⟨1, 5⟩, ⟨0, 6⟩, ⟨1, 6⟩] := h1
  have hkn := HLD.out.fresh h3 HK.out hlo
  have HK := Lib.hid hkn
  have HLD := Lib.hid h1
  clear h1 hkn h3
  go_wp2_with fail
  refine (lawof_any _ _ [1, 5] (rd_blk (n := 2) (size := 1) (vs := [.int .i64 1, .int .i64 5]) (heap_alloc_new _ _) rfl (by unfold maxLen; omega)) (by decide)).mono ?_
  rintro e wq47 ⟨v, rfl, ho2, hk1⟩
  have hk := ((Keep.refl noBlk wq46).alloc (.cells #[.int .i64 1, .int .i64 5] 3)).trans hk1
  rw [show (pairs [1, 5]).length = 1 from rfl] at ho2
  obtain ⟨xa, xc, rfl, -, -⟩ := (Rd.of_owns ho2).form
  have HRx := Lib.hid (Rd.of_owns ho2)
  have HFx : Hid (∀ i, (Value.slice xa 1 xc).ownBlock = some i → i ≠ b) := Lib.hid (fun i hi e => by
    have h1 := owns_base ho2 hi
    rw [World.size_alloc] at h1
    have := (HLD.out.own_lt (k := b) (.inr (.inl rfl))).2
    omega)
  clear ho2 hk1
  have HK := Lib.hid (HK.out.trans hk)
  have HLD := Lib.hid (HLD.out.keep0 hk)
  clear hk
  go_wp2_with fail
  refine (release_any _ lo a b 2 8 c [⟨0, 5⟩, ⟨1, 5⟩, ⟨0, 6⟩, ⟨1, 6⟩] HLD.out _ (pairs [1, 5]) HRx.out HFx.out).mono ?_
  intro e wq48 hpost
  unfold TurnsPost at hpost
  rw [show okT [⟨0, 5⟩, ⟨1, 5⟩, ⟨0, 6⟩, ⟨1, 6⟩] (pairs [1, 5]) true 2 8 = true by decide, if_pos rfl] at hpost
  clear HRx HFx
  obtain ⟨rfl, c, h1, -, h3⟩ := hpost
  have h1 : LedIs wq48 lo a b c 2 8 [⟨0, 5⟩, ⟨0, 6⟩, ⟨1, 6⟩] := h1
  have hkn := HK.out.trans' h3 (U := noBlk) (fun _ _ h => h) (fun i hi e => by have := h1.lo; omega)
  have HK := Lib.hid hkn
  have HLD := Lib.hid h1
  clear h1 hkn h3
  go_wp2_with fail
  refine (all_any _ 2 (by decide)).mono ?_
  rintro e wq49 ⟨v, rfl, hov, hk⟩
  obtain ⟨ta, tc, rfl, -, -⟩ := (Rd.of_owns hov).form
  have HTH := Lib.hid (Rd.of_owns hov)
  clear hov
  have HK := Lib.hid (HK.out.trans hk)
  have HLD := Lib.hid (HLD.out.keep0 hk)
  clear hk
  go_wp2_with fail
  refine (takes_yes _ lo a b 2 8 c [⟨0, 5⟩, ⟨0, 6⟩, ⟨1, 6⟩] (HLD.out.keep0 ((Keep.refl _ _).alloc _)) _ (List.replicate 2 true) 1 (HTH.out.keep ((Keep.refl noBlk _).alloc _) fun _ _ => id) _ [1, 5] (rd_blk (n := 2) (size := 1) (vs := [.int .i64 1, .int .i64 5]) (heap_alloc_new _ _) rfl (by unfold maxLen; omega)) (by decide) (fun k hk ho => by have e : wq49.heap.size = k := Option.some.inj hk; have := (HLD.out.own_lt ho).2; omega) [1] (by decide) (choose_of (r := [1, 0]) (by decide) (by decide) (by decide)) (by decide)).mono ?_
  rintro e wq50 ⟨rfl, h1, h2⟩
  have h3 : Keep (Own a b c 2) wq49 wq50 := ((Keep.refl noBlk wq49).alloc _).trans' h2 (fun _ _ h => h.elim) (fun _ _ h => h)
  clear h2 HTH
  have h1 : LedIs wq50 lo a b c 2 8 [⟨0, 5⟩, ⟨0, 6⟩, ⟨1, 6⟩, ⟨1, 5⟩] := h1
  have hkn := HLD.out.fresh h3 HK.out hlo
  have HK := Lib.hid hkn
  have HLD := Lib.hid h1
  clear h1 hkn h3
  go_wp2_with fail
  refine (lawof_any _ _ [1, 5, 1, 5] (rd_blk (n := 4) (size := 1) (vs := [.int .i64 1, .int .i64 5, .int .i64 1, .int .i64 5]) (heap_alloc_new _ _) rfl (by unfold maxLen; omega)) (by decide)).mono ?_
  rintro e wq51 ⟨v, rfl, ho2, hk1⟩
  have hk := ((Keep.refl noBlk wq50).alloc (.cells #[.int .i64 1, .int .i64 5, .int .i64 1, .int .i64 5] 3)).trans hk1
  rw [show (pairs [1, 5, 1, 5]).length = 2 from rfl] at ho2
  obtain ⟨xa, xc, rfl, -, -⟩ := (Rd.of_owns ho2).form
  have HRx := Lib.hid (Rd.of_owns ho2)
  have HFx : Hid (∀ i, (Value.slice xa 2 xc).ownBlock = some i → i ≠ b) := Lib.hid (fun i hi e => by
    have h1 := owns_base ho2 hi
    rw [World.size_alloc] at h1
    have := (HLD.out.own_lt (k := b) (.inr (.inl rfl))).2
    omega)
  clear ho2 hk1
  have HK := Lib.hid (HK.out.trans hk)
  have HLD := Lib.hid (HLD.out.keep0 hk)
  clear hk
  go_wp2_with fail
  refine (release_any _ lo a b 2 8 c [⟨0, 5⟩, ⟨0, 6⟩, ⟨1, 6⟩, ⟨1, 5⟩] HLD.out _ (pairs [1, 5, 1, 5]) HRx.out HFx.out).mono ?_
  intro e wq52 hpost
  unfold TurnsPost at hpost
  rw [show okT [⟨0, 5⟩, ⟨0, 6⟩, ⟨1, 6⟩, ⟨1, 5⟩] (pairs [1, 5, 1, 5]) true 2 8 = false by decide, if_neg (by decide)] at hpost
  clear HRx HFx
  obtain ⟨rfl, hk⟩ := hpost
  have HK := Lib.hid (HK.out.trans hk)
  have HLD := Lib.hid (HLD.out.keep0 hk)
  clear hk
  go_wp2_with fail
  refine (lawof_any _ _ [1, 7] (rd_blk (n := 2) (size := 1) (vs := [.int .i64 1, .int .i64 7]) (heap_alloc_new _ _) rfl (by unfold maxLen; omega)) (by decide)).mono ?_
  rintro e wq53 ⟨v, rfl, ho2, hk1⟩
  have hk := ((Keep.refl noBlk wq52).alloc (.cells #[.int .i64 1, .int .i64 7] 3)).trans hk1
  rw [show (pairs [1, 7]).length = 1 from rfl] at ho2
  obtain ⟨xa, xc, rfl, -, -⟩ := (Rd.of_owns ho2).form
  have HRx := Lib.hid (Rd.of_owns ho2)
  have HFx : Hid (∀ i, (Value.slice xa 1 xc).ownBlock = some i → i ≠ b) := Lib.hid (fun i hi e => by
    have h1 := owns_base ho2 hi
    rw [World.size_alloc] at h1
    have := (HLD.out.own_lt (k := b) (.inr (.inl rfl))).2
    omega)
  clear ho2 hk1
  have HK := Lib.hid (HK.out.trans hk)
  have HLD := Lib.hid (HLD.out.keep0 hk)
  clear hk
  go_wp2_with fail
  refine (release_any _ lo a b 2 8 c [⟨0, 5⟩, ⟨0, 6⟩, ⟨1, 6⟩, ⟨1, 5⟩] HLD.out _ (pairs [1, 7]) HRx.out HFx.out).mono ?_
  intro e wq54 hpost
  unfold TurnsPost at hpost
  rw [show okT [⟨0, 5⟩, ⟨0, 6⟩, ⟨1, 6⟩, ⟨1, 5⟩] (pairs [1, 7]) true 2 8 = false by decide, if_neg (by decide)] at hpost
  clear HRx HFx
  obtain ⟨rfl, hk⟩ := hpost
  have HK := Lib.hid (HK.out.trans hk)
  have HLD := Lib.hid (HLD.out.keep0 hk)
  clear hk
  go_wp2_with fail
  refine (lawof_any _ _ [0, 5] (rd_blk (n := 2) (size := 1) (vs := [.int .i64 0, .int .i64 5]) (heap_alloc_new _ _) rfl (by unfold maxLen; omega)) (by decide)).mono ?_
  rintro e wq55 ⟨v, rfl, ho2, hk1⟩
  have hk := ((Keep.refl noBlk wq54).alloc (.cells #[.int .i64 0, .int .i64 5] 3)).trans hk1
  rw [show (pairs [0, 5]).length = 1 from rfl] at ho2
  obtain ⟨xa, xc, rfl, -, -⟩ := (Rd.of_owns ho2).form
  have HRx := Lib.hid (Rd.of_owns ho2)
  have HFx : Hid (∀ i, (Value.slice xa 1 xc).ownBlock = some i → i ≠ b) := Lib.hid (fun i hi e => by
    have h1 := owns_base ho2 hi
    rw [World.size_alloc] at h1
    have := (HLD.out.own_lt (k := b) (.inr (.inl rfl))).2
    omega)
  clear ho2 hk1
  have HK := Lib.hid (HK.out.trans hk)
  have HLD := Lib.hid (HLD.out.keep0 hk)
  clear hk
  go_wp2_with fail
  refine (mark_any _ lo a b 2 8 c [⟨0, 5⟩, ⟨0, 6⟩, ⟨1, 6⟩, ⟨1, 5⟩] HLD.out _ (pairs [0, 5]) HRx.out HFx.out).mono ?_
  intro e wq56 hpost
  unfold TurnsPost at hpost
  rw [show okT [⟨0, 5⟩, ⟨0, 6⟩, ⟨1, 6⟩, ⟨1, 5⟩] (pairs [0, 5]) false 2 8 = false by decide, if_neg (by decide)] at hpost
  clear HRx HFx
  obtain ⟨rfl, hk⟩ := hpost
  have HK := Lib.hid (HK.out.trans hk)
  have HLD := Lib.hid (HLD.out.keep0 hk)
  clear hk
  go_wp2_with fail
  refine (all_any _ 2 (by decide)).mono ?_
  rintro e wq57 ⟨v, rfl, hov, hk⟩
  obtain ⟨ta, tc, rfl, -, -⟩ := (Rd.of_owns hov).form
  have HTH := Lib.hid (Rd.of_owns hov)
  clear hov
  have HK := Lib.hid (HK.out.trans hk)
  have HLD := Lib.hid (HLD.out.keep0 hk)
  clear hk
  go_wp2_with fail
  refine (takes_yes _ lo a b 2 8 c [⟨0, 5⟩, ⟨0, 6⟩, ⟨1, 6⟩, ⟨1, 5⟩] (HLD.out.keep0 ((Keep.refl _ _).alloc _)) _ (List.replicate 2 true) 2 (HTH.out.keep ((Keep.refl noBlk _).alloc _) fun _ _ => id) _ [0, 7, 1, 7] (rd_blk (n := 4) (size := 1) (vs := [.int .i64 0, .int .i64 7, .int .i64 1, .int .i64 7]) (heap_alloc_new _ _) rfl (by unfold maxLen; omega)) (by decide) (fun k hk ho => by have e : wq57.heap.size = k := Option.some.inj hk; have := (HLD.out.own_lt ho).2; omega) [0, 1] (by decide) (choose_of (r := [0, 1]) (by decide) (by decide) (by decide)) (by decide)).mono ?_
  rintro e wq58 ⟨rfl, h1, h2⟩
  have h3 : Keep (Own a b c 2) wq57 wq58 := ((Keep.refl noBlk wq57).alloc _).trans' h2 (fun _ _ h => h.elim) (fun _ _ h => h)
  clear h2 HTH
  have h1 : LedIs wq58 lo a b c 2 8 [⟨0, 5⟩, ⟨0, 6⟩, ⟨1, 6⟩, ⟨1, 5⟩, ⟨0, 7⟩, ⟨1, 7⟩] := h1
  have hkn := HLD.out.fresh h3 HK.out hlo
  have HK := Lib.hid hkn
  have HLD := Lib.hid h1
  clear h1 hkn h3
  go_wp2_with fail
  refine (all_any _ 2 (by decide)).mono ?_
  rintro e wq59 ⟨v, rfl, hov, hk⟩
  obtain ⟨ta, tc, rfl, -, -⟩ := (Rd.of_owns hov).form
  have HTH := Lib.hid (Rd.of_owns hov)
  clear hov
  have HK := Lib.hid (HK.out.trans hk)
  have HLD := Lib.hid (HLD.out.keep0 hk)
  clear hk
  go_wp2_with fail
  refine (room_any _ lo a b 2 8 c [⟨0, 5⟩, ⟨0, 6⟩, ⟨1, 6⟩, ⟨1, 5⟩, ⟨0, 7⟩, ⟨1, 7⟩] HLD.out _ (List.replicate 2 true) 2 HTH.out).mono ?_
  intro e wq60 hpost
  unfold ManyPost at hpost
  rw [show freeN [⟨0, 5⟩, ⟨0, 6⟩, ⟨1, 6⟩, ⟨1, 5⟩, ⟨0, 7⟩, ⟨1, 7⟩] 2 8 = [0, 0] by decide, if_pos (show checkB [0, 0] (List.replicate 2 true) 2 = true by decide)] at hpost
  obtain ⟨N, hN, rfl, hk⟩ := hpost
  have hN0 : N = 0 := hN.unique (.none (by unfold chooseL; exact if_pos (.inl (by decide))))
  subst hN0
  clear hN HTH
  have HK := Lib.hid (HK.out.trans hk)
  have HLD := Lib.hid (HLD.out.keep0 hk)
  clear hk
  go_wp2_with fail
  refine (all_any _ 2 (by decide)).mono ?_
  rintro e wq61 ⟨v, rfl, hov, hk⟩
  obtain ⟨ta, tc, rfl, -, -⟩ := (Rd.of_owns hov).form
  have HTH := Lib.hid (Rd.of_owns hov)
  clear hov
  have HK := Lib.hid (HK.out.trans hk)
  have HLD := Lib.hid (HLD.out.keep0 hk)
  clear hk
  go_wp2_with fail
  refine (take_any _ lo a b 2 8 c [⟨0, 5⟩, ⟨0, 6⟩, ⟨1, 6⟩, ⟨1, 5⟩, ⟨0, 7⟩, ⟨1, 7⟩] HLD.out _ (List.replicate 2 true) 1 HTH.out).mono ?_
  intro e wq62 hpost
  unfold TakePost at hpost
  rw [show freeN [⟨0, 5⟩, ⟨0, 6⟩, ⟨1, 6⟩, ⟨1, 5⟩, ⟨0, 7⟩, ⟨1, 7⟩] 2 8 = [0, 0] by decide, if_pos (show checkB [0, 0] (List.replicate 2 true) 1 = true by decide), show chooseL [0, 0] (List.replicate 2 true) (Int.toNat 1) = none by unfold chooseL; exact if_pos (.inl (by decide))] at hpost
  obtain ⟨rfl, hk⟩ := hpost
  clear HTH
  have HK := Lib.hid (HK.out.trans hk)
  have HLD := Lib.hid (HLD.out.keep0 hk)
  clear hk
  go_wp2_with fail
  refine (all_any _ 1 (by decide)).mono ?_
  rintro e wq63 ⟨v, rfl, hov, hk⟩
  obtain ⟨ta, tc, rfl, -, -⟩ := (Rd.of_owns hov).form
  have HTH := Lib.hid (Rd.of_owns hov)
  clear hov
  have HK := Lib.hid (HK.out.trans hk)
  have HLD := Lib.hid (HLD.out.keep0 hk)
  clear hk
  go_wp2_with fail
  refine (take_any _ lo a b 2 8 c [⟨0, 5⟩, ⟨0, 6⟩, ⟨1, 6⟩, ⟨1, 5⟩, ⟨0, 7⟩, ⟨1, 7⟩] HLD.out _ (List.replicate 1 true) 1 HTH.out).mono ?_
  intro e wq64 hpost
  unfold TakePost at hpost
  rw [show freeN [⟨0, 5⟩, ⟨0, 6⟩, ⟨1, 6⟩, ⟨1, 5⟩, ⟨0, 7⟩, ⟨1, 7⟩] 2 8 = [0, 0] by decide, if_neg (show ¬ checkB [0, 0] (List.replicate 1 true) 1 = true by decide)] at hpost
  obtain ⟨rfl, hk⟩ := hpost
  clear HTH
  have HK := Lib.hid (HK.out.trans hk)
  have HLD := Lib.hid (HLD.out.keep0 hk)
  clear hk
  go_wp2_with fail
  refine (lawof_any _ _ [0, 4] (rd_blk (n := 2) (size := 1) (vs := [.int .i64 0, .int .i64 4]) (heap_alloc_new _ _) rfl (by unfold maxLen; omega)) (by decide)).mono ?_
  rintro e wq65 ⟨v, rfl, ho2, hk1⟩
  have hk := ((Keep.refl noBlk wq64).alloc (.cells #[.int .i64 0, .int .i64 4] 3)).trans hk1
  rw [show (pairs [0, 4]).length = 1 from rfl] at ho2
  obtain ⟨xa, xc, rfl, -, -⟩ := (Rd.of_owns ho2).form
  have HRx := Lib.hid (Rd.of_owns ho2)
  clear ho2 hk1
  have HK := Lib.hid (HK.out.trans hk)
  have HLD := Lib.hid (HLD.out.keep0 hk)
  clear hk
  go_wp2_with fail
  refine (new_any _ 2 8 _ (pairs [0, 4]) HRx.out).mono ?_
  intro e wq66 hpost
  unfold NewPost at hpost
  rw [show newB 2 8 (pairs [0, 4]) = false by decide, if_neg (by decide)] at hpost
  obtain ⟨rfl, hk⟩ := hpost
  clear HRx
  have HK := Lib.hid (HK.out.trans hk)
  have HLD := Lib.hid (HLD.out.keep0 hk)
  clear hk
  go_wp2_with fail
  refine (new_any _ 1 8 _ [] (Rd.nil _ _)).mono ?_
  intro e wq67 hpost
  unfold NewPost at hpost
  rw [show newB 1 8 [] = false by decide, if_neg (by decide)] at hpost
  obtain ⟨rfl, hk⟩ := hpost
  skip
  have HK := Lib.hid (HK.out.trans hk)
  have HLD := Lib.hid (HLD.out.keep0 hk)
  clear hk
  go_wp2_with fail
  refine (CW.out _).mono ?_
  rintro e wq68 ⟨rfl, hk⟩
  have HK := Lib.hid (HK.out.trans hk)
  have HLD := Lib.hid (HLD.out.keep0 hk)
  clear hk
  go_wp2_with fail
  refine (yes_of (ledHas_any _ lo a b 2 8 c [⟨0, 5⟩, ⟨0, 6⟩, ⟨1, 6⟩, ⟨1, 5⟩, ⟨0, 7⟩, ⟨1, 7⟩] HLD.out ⟨0, 4⟩) (show inB ⟨0, 4⟩ 2 8 [⟨0, 5⟩, ⟨0, 6⟩, ⟨1, 6⟩, ⟨1, 5⟩, ⟨0, 7⟩, ⟨1, 7⟩] = false by decide)).mono ?_
  rintro e wq69 ⟨rfl, hk⟩
  have HK := Lib.hid (HK.out.trans hk)
  have HLD := Lib.hid (HLD.out.keep0 hk)
  clear hk
  go_wp2_with fail
  go_ret
  exact ⟨rfl, HK.out⟩

end Go.Proofs.Ytfjklgbakhjjiaa
