/-
  AllocApart: what is taken is apart (in work).
  Conditions: none but those of the given statement.
-/
import Derived.Test.YtfjklgbakhjjiaaLongA
import Derived.Test.YtfjklgbakhjjiaaKnownA
import Derived.Test.YtfjklgbakhjjiaaPickA
import Derived.Test.YtfjklgbakhjjiaaSetsAddr
import Derived.Test.YtfjklgbakhjjiaaApartAddr
namespace Go.Proofs.Ytfjklgbakhjjiaa
open Go.RowKit Go.Maps Go.ChangeMaps
set_option maxRecDepth 100000
set_option linter.unusedVariables false

def zeroAct : Value := .agg #[.int .i64 0, .int .i64 0, .int .i64 0, .slice none 0 0, .slice none 0 0]
theorem zeroActV (w : World) : (zeroValue 41).run Try.prog w = .ok zeroAct w := by kernel_rfl
theorem sizeAct : (Try.prog.info? 41).map (·.size) = some 5 := by kernel_rfl
theorem range_act {w : World} {g o k : Nat} {x : ActV} (h : ∀ j u, (actCs x)[j]? = some u → w.cell? ⟨g, o + k * 5 + j, none⟩ = some u) : w.rangeAt g (o + k * 5) (actCs x) := h
theorem oneCell_act {x : ActV} {w : World} (h : ActOk w x) : ∀ u ∈ actCs x, u.oneCell' = true := by
  obtain ⟨-, -, -, h1, -, h2⟩ := h
  obtain ⟨a, c, e1, -, -⟩ := h1.form
  obtain ⟨a', c', e2, -, -⟩ := h2.form
  intro u hu
  unfold actCs at hu
  rw [e1, e2] at hu
  simp only [List.mem_cons, List.not_mem_nil, or_false] at hu
  rcases hu with rfl | rfl | rfl | rfl | rfl <;> rfl

set_option maxHeartbeats 32000000 in
theorem allocApart_walk (w : World) (dv : Int) (hdv : In64 dv) (sc : Int) (hsc : In64 sc) (v : Value) (l : List ActV) (ho : ∀ x ∈ l, ActOk w x) (hr : Rd w 5 v l.length (actCells l)) :
    Calls Try.prog 7 #[.int .i64 dv, .int .i64 sc, v] w (TherePost w true) := by
  have CW := Lib.hid (fun w => (allocKnown_walk w).mono fun e w' (h : TherePost w true e w') => (show e = .returned (.bool true) ∧ Keep noBlk w w' from h))
  have CL := Lib.hid (fun wx (k : Keep noBlk w wx) => longA_any wx v l (fun x hx => (ho x hx).keep k) (hr.keep k fun _ _ => id))
  obtain ⟨oa, ca, rfl, -, -⟩ := hr.form
  have hlm : l.length ≤ maxLen := by obtain ⟨_, a', c', h1, h2, h3, -⟩ := hr; omega
  unfold maxLen at hlm
  obtain ⟨bb, hbb⟩ : ∃ b, longA l = b := ⟨_, rfl⟩
  have HBB := Lib.hid hbb
  obtain ⟨n, hn⟩ : ∃ n, l.length = n := ⟨_, rfl⟩
  have HN := Lib.hid hn; have HR := Lib.hid hr; have HOA := Lib.hid ho
  rw [hn, hbb] at CL
  rw [hn] at HR hlm ⊢
  obtain ⟨D, hD⟩ : ∃ D : Nat, 2 + dv % 7 = (D : Int) := ⟨(2 + dv % 7).toNat, by omega⟩
  obtain ⟨Z, hZ⟩ : ∃ Z : Nat, 8 + sc % 33 = (Z : Int) := ⟨(8 + sc % 33).toNat, by omega⟩
  have hbd : 2 ≤ D ∧ D ≤ 8 ∧ 8 ≤ Z ∧ Z ≤ 4096 := by omega
  have hZ41 : Z ≤ 40 := by omega
  obtain ⟨p1, hp1⟩ : ∃ p, dv % 7 = p := ⟨_, rfl⟩
  obtain ⟨p2, hp2⟩ : ∃ p, sc % 33 = p := ⟨_, rfl⟩
  have HP1 := Lib.hid (fun w => pick_any w dv 7 (by omega) (by omega) hdv.1 hdv.2)
  have HP2 := Lib.hid (fun w => pick_any w sc 33 (by omega) (by omega) hsc.1 hsc.2)
  rw [hp1] at HP1 hD
  rw [hp2] at HP2 hZ
  have hw1 : IntKind.i64.wrap (D : Int) = (D : Int) := by rw [IntWalk.i64_in _ (by omega)]
  have hw2 : IntKind.i64.wrap (Z : Int) = (Z : Int) := by rw [IntWalk.i64_in _ (by omega)]
  have HK := Lib.hid (Keep.refl noBlk w)
  clear hr hn hbb ho hdv hsc hp1 hp2
  go_enter Try.func7, Try.ntmps7
  go_wp2_with fail
  refine (CW.out _).mono ?_
  rintro e wq41 ⟨rfl, hk⟩
  have HK := Lib.hid (HK.out.trans hk)
  clear hk
  go_wp2_with fail
  refine (HP1.out _).mono ?_
  rintro e wp1 ⟨rfl, hwp⟩
  subst hwp
  go_wp2_with fail
  refine (HP2.out _).mono ?_
  rintro e wp2 ⟨rfl, hwp⟩
  subst hwp
  go_wp2_with fail
  have hlo : w.heap.size ≤ wq41.heap.size := HK.out.size
  obtain ⟨lo, hloe⟩ : ∃ lo, wq41.heap.size = lo := ⟨_, rfl⟩
  rw [hloe] at hlo
  have HLOE := Lib.hid hloe
  clear hloe
  refine (new_any _ (D : Int) (Z : Int) _ [] (Rd.nil _ _)).mono ?_
  intro e4 w4 hpost
  unfold NewPost at hpost
  rw [show newB (D : Int) (Z : Int) [] = true by unfold newB; simp only [Bool.and_eq_true, decide_eq_true_eq, List.all_nil, and_true]; omega, if_pos rfl] at hpost
  obtain ⟨a, b, c, rfl, hld, hk4⟩ := hpost
  rw [Int.toNat_natCast, Int.toNat_natCast, HLOE.out] at hld
  have HLD := Lib.hid hld; have HK := Lib.hid (HK.out.trans hk4)
  clear hld hk4
  go_wp2_with fail
  refine (CL.out _ HK.out).mono ?_
  rintro e5 w5 ⟨rfl, hk5⟩
  have HLD := Lib.hid (HLD.out.keep0 hk5); have HK := Lib.hid (HK.out.trans hk5)
  clear hk5 CL
  cases bb
  · have hlong := longA_false HBB.out
    have hn60 : n ≤ 60 := by rw [← HN.out]; exact hlong.1
    have HLG := Lib.hid hlong.2
    clear hlong
    go_wp2_with fail
    go_loopw [10, 11] (fun t i wr => ∃ (k m : Nat) (C : List Ad) (ua : Option Addr) (uc base : Nat) (c : Nat → Option Nat), k ≤ n ∧ m ≤ 320 ∧ t = .slice ua m uc ∧ i = .int .i64 k ∧ Hid (C.length = m) ∧ Hid (Rises C) ∧ Hid (∀ x ∈ C, PlaceIn x D Z) ∧ Hid (LedIs wr lo a b c D Z C) ∧ Hid (wr.ownsRow base 50 2 (.slice ua m uc) m (adCells C)) ∧ Hid (∀ i, (Value.slice ua m uc).ownBlock = some i → ¬ Own a b c D i) ∧ Hid (Keep noBlk w wr)) (fun _ i _ => n - (intOf i).toNat)
    case atStart => exact ⟨0, 0, [], none, 0, 0, c, Nat.zero_le _, Nat.zero_le _, rfl, rfl, Lib.hid rfl, Lib.hid List.Pairwise.nil, Lib.hid (fun x h => by cases h), HLD, Lib.hid (World.ownsRow_nil _ _ _ _), Lib.hid (fun i h => by cases h), HK⟩
    case round =>
    clear HLD HK
    obtain ⟨k, m, C, ua, uc, base, c, hk, hm, rfl, rfl, HCL, HCR, HCP, HLD, HOC, HNO, HK⟩ := hrel
    by_cases hlt : k < n
    · have hki : (k : Int) < (n : Int) := by omega
      have hk0 : (0 : Int) ≤ (k : Int) := by omega
      obtain ⟨x, hx⟩ : ∃ x, l[k]? = some x := ⟨l[k]'(by rw [HN.out]; exact hlt), List.getElem?_eq_getElem _⟩
      have hr2 := HR.out.keep HK.out fun _ _ => id
      rw [← HN.out] at hr2
      obtain ⟨gl, ol, cap', hv, hcx⟩ := rd_act hr2 hx
      rw [HN.out] at hv
      have e1 : oa = some ⟨gl, ol, none⟩ := by cases hv; rfl
      subst e1
      have HXA := Lib.hid (HOA.out x (List.mem_of_getElem? hx)); have HXL := Lib.hid (HLG.out x (List.mem_of_getElem? hx))
      have HX := Lib.hid (range_act hcx)
      have HON := Lib.hid (oneCell_act HXA.out)
      have HBX : Hid (b < wr.heap.size) := Lib.hid HLD.out.words.lt
      have HOWX : Hid (∀ i, Own a b c D i → i < wr.heap.size) := Lib.hid (fun i h => (HLD.out.own_lt h).2)
      obtain ⟨xa, xc, e2, -, -⟩ := HXA.out.2.2.2.1.form
      obtain ⟨ya, yc, e3, -, -⟩ := HXA.out.2.2.2.2.2.form
      obtain ⟨q1, hq1⟩ : ∃ q, x.th.length = q := ⟨_, rfl⟩
      obtain ⟨q2, hq2⟩ : ∃ q, x.l.length = q := ⟨_, rfl⟩
      rw [hq1] at e2
      rw [hq2] at e3
      have HE2 := Lib.hid e2; have HE3 := Lib.hid e3; have HQ1 := Lib.hid hq1; have HQ2 := Lib.hid hq2
      obtain ⟨kd, hkd⟩ : ∃ kd, x.kind = kd := ⟨_, rfl⟩
      obtain ⟨xcp, hxcp⟩ : ∃ kd, x.copies = kd := ⟨_, rfl⟩
      obtain ⟨xbk, hxbk⟩ : ∃ kd, x.back = kd := ⟨_, rfl⟩
      have HKD := Lib.hid hkd; have HXC := Lib.hid hxcp; have HXB := Lib.hid hxbk
      clear hr2 hv hcx hx e2 e3 hq1 hq2 hkd hxcp hxbk
      by_cases ek0 : kd = 0
      · as_aux_lemma =>
          subst ek0
          go_wp2_with (first
            | ((with_reducible show wpList _ _ _ (⟨_, .load 41 (.tmp 48), _, _, _, _⟩ :: _) _ _); refine wpList_load_mid rfl 41 (.tmp 48) rfl gl (ol + k * 5) rfl (actCs x) _ HX.out actUnder rfl sizeAct ?_)
            | ((with_reducible show wpList _ _ _ (⟨some 12, .alloc 41, _, _, _, _⟩ :: _) _ _); refine wpList_alloc_at rfl 41 rfl zeroAct zeroActV #[.int .i64 0, .int .i64 0, .int .i64 0, .slice none 0 0, .slice none 0 0] rfl ?_)
            | ((with_reducible show wpList _ _ _ (⟨none, .store 41 (.tmp 12) (.tmp 49), _, _, _, _⟩ :: _) _ _); refine wpList_store_agg rfl 41 (.tmp 12) (.tmp 49) rfl wr.heap.size 0 (actCs x) rfl rfl #[.int .i64 0, .int .i64 0, .int .i64 0, .slice none 0 0, .slice none 0 0] 41 (heap_alloc_new _ _) (Nat.le_refl _) sizeAct HON.out ?_
               intro w3 hb3 hk3
               rw [spl_whole _ _ (by rfl)] at hb3
               have hk4 : Keep noBlk wr w3 := ((Keep.refl noBlk wr).alloc _).trans' hk3 (fun _ _ h => h) (fun i hi e => by omega)
               have HB3 := Lib.hid hb3; have HK3 := Lib.hid hk4
               have hcK : w3.cell? ⟨wr.heap.size, 0, none⟩ = some (.int .i64 x.kind) := blk_cell hb3 rfl
               have hcC : w3.cell? ⟨wr.heap.size, 1, none⟩ = some (.int .i64 x.copies) := blk_cell hb3 rfl
               have hcB : w3.cell? ⟨wr.heap.size, 2, none⟩ = some (.int .i64 x.back) := blk_cell hb3 rfl
               have hcT : w3.cell? ⟨wr.heap.size, 3, none⟩ = some x.vt := blk_cell hb3 rfl
               have hcL : w3.cell? ⟨wr.heap.size, 4, none⟩ = some x.vl := blk_cell hb3 rfl
               rw [HKD.out] at hcK
               rw [HXC.out] at hcC
               rw [HXB.out] at hcB
               rw [HE2.out] at hcT
               rw [HE3.out] at hcL
               have HLD := Lib.hid (HLD.out.keep0 hk4); have HOC := Lib.hid (hk4.owns HOC.out fun _ _ => id); have HK := Lib.hid (HK.out.trans hk4)
               clear hb3 hk3 hk4))
          have hxa := HXA.out.keep HK.out
          have hrt := hxa.2.2.2.1
          rw [HE2.out] at hrt
          rw [HQ1.out] at hrt
          have HC := Lib.hid ((take_any w3 lo a b D Z c C HLD.out (.slice xa q1 xc) x.th xcp (by rw [HQ1.out]; exact hrt)).mono fun e w' h => take_sum hbd HLD.out h)
          have HRT := Lib.hid hrt
          clear hxa hrt
          refine HC.out.mono ?_
          rintro e6 w6 ⟨v, gg, g, rfl, h1, h2, h3, h4, h5, h6, ⟨bb, hb1, hb2⟩, h7⟩
          obtain ⟨gl, hgl⟩ : ∃ n, gg.length = n := ⟨_, rfl⟩
          have HGL := Lib.hid hgl
          rw [hgl] at h2 h4 hb2
          have hb3 : decide ((0 : Int) < (gl : Int)) = bb := by rw [← hb2]; exact decide_eq_decide.2 (by omega)
          obtain ⟨ga, gc, rfl, -, -⟩ := (Rd.of_owns h2).form
          have HL6 := Lib.hid h1; have HG6 := Lib.hid (Rd.of_owns h2); have HAP := Lib.hid h5; have HBO := Lib.hid h6; have HGP := Lib.hid h7
          have hgl8 := h4
          have hlob := HLD.out.lo.2.1
          have HK6 := Lib.hid (HK.out.trans' h3 (U := noBlk) (fun _ _ h => h) (fun i hi ho => by have := (HLD.out.own_lt ho).1; omega))
          have HOC6 := Lib.hid (h3.owns HOC.out (fun i hi ho => HNO.out i hi ho))
          have HCA : Hid (AdsOk C) := Lib.hid (fun y hy => by
            obtain ⟨h1, h2, h3, h4⟩ := HCP.out y hy
            exact ⟨⟨by omega, by omega⟩, by omega, by omega⟩)
          have HGA : Hid (AdsOk gg) := Lib.hid (fun y hy => by
            obtain ⟨h1, h2, h3, h4⟩ := (mayB_in hbd).1 (HGP.out y hy).1
            exact ⟨⟨by omega, by omega⟩, by omega, by omega⟩)
          have HCT := Lib.hid (h3.cell hcT (fun ho => by have := HOWX.out _ ho; omega))
          have HRT6 : Hid (Rd w6 1 (.slice xa q1 xc) q1 (x.th.map Value.bool)) := Lib.hid (by
            have h := (HXA.out.keep HK6.out).2.2.2.1
            rwa [HE2.out, HQ1.out] at h)
          obtain ⟨xb, hxb⟩ : ∃ X, wr.heap.size = X := ⟨_, rfl⟩
          rw [hxb] at HCT ⊢
          clear hxb hgl h1 h2 h3 h4 h5 h6 h7 hcK hcC hcB hcT hcL HLD HOC HK HC HRT HB3 HK3
          go_wp2_with fail
          refine (yes_of (apart_any w6 _ gg HGA.out (by rw [HGL.out]; exact HG6.out)) (decide_eq_true HAP.out)).mono ?_
          rintro e7 w7 ⟨rfl, hk⟩
          have HL6 := Lib.hid (HL6.out.keep0 hk); have HG6 := Lib.hid (HG6.out.keep hk fun _ _ => id); have HK6 := Lib.hid (HK6.out.trans hk); have HOC6 := Lib.hid (hk.owns HOC6.out fun _ _ => id); have HCT := Lib.hid (hk.cell HCT.out id); have HRT6 := Lib.hid (HRT6.out.keep hk fun _ _ => id)
          clear hk
          go_wp2_with fail
          refine (told_of (both_any w7 _ _ gg C HGA.out HCA.out (by rw [HGL.out]; exact HG6.out) (by rw [HCL.out]; exact Rd.of_owns HOC6.out) (by rw [HGL.out]; omega)) HBO.out).mono ?_
          rintro e8 w8 ⟨v8, rfl, ho8, hk⟩
          obtain ⟨va8, vc8, rfl, -, -⟩ := (Rd.of_owns ho8).form
          have HL6 := Lib.hid (HL6.out.keep0 hk); have HG6 := Lib.hid (HG6.out.keep hk fun _ _ => id); have HK6 := Lib.hid (HK6.out.trans hk); have HOC6 := Lib.hid (hk.owns HOC6.out fun _ _ => id); have HCT := Lib.hid (hk.cell HCT.out id); have HRT6 := Lib.hid (HRT6.out.keep hk fun _ _ => id)
          clear hk ho8
          have hbx : (bb != bb) = false := by cases bb <;> rfl
          have hby : (!bb == bb) = false := by cases bb <;> rfl
          go_wp2_with fail
          go_loopw [16] (fun i wr => ∃ j : Nat, j ≤ gl ∧ i = .int .i64 j ∧ Hid (Keep noBlk w8 wr)) (fun i _ => gl - (intOf i).toNat)
          case atStart => exact ⟨0, Nat.zero_le _, rfl, Lib.hid (Keep.refl _ _)⟩
          case round =>
          obtain ⟨j, hj, rfl, HKJ⟩ := hrel
          by_cases hlj : j < gl
          · have hji : (j : Int) < (gl : Int) := by omega
            have hj0 : (0 : Int) ≤ (j : Int) := by omega
            have HGJ := Lib.hid (HG6.out.keep HKJ.out fun _ _ => id)
            obtain ⟨x0, h_x⟩ : ∃ x, gg[j]? = some x := ⟨gg[j]'(by rw [HGL.out]; exact hlj), List.getElem?_eq_getElem _⟩
            have h_r := HGJ.out
            rw [← HGL.out] at h_r
            obtain ⟨gb, go, cap2, h_v, h_at⟩ := rd_ad h_r h_x
            have e1 : ga = some ⟨gb, go, none⟩ := by cases h_v; rfl
            subst e1
            have HX0 := Lib.hid h_at
            obtain ⟨hmay, d, t, rfl, hdD, hdq, hdt⟩ := HGP.out _ (List.mem_of_getElem? h_x)
            have HC0 : Hid (wr.cell? ⟨gb, go + j * 2, none⟩ = some (.int .i64 (d : Int))) := Lib.hid (HX0.out 0 _ rfl)
            have hrt := HRT6.out.keep HKJ.out fun _ _ => id
            rw [← HQ1.out] at hrt
            rw [HQ1.out] at hdq
            obtain ⟨tb, to, cap3, hv2, hct⟩ := rd_bool hrt (show x.th[d]? = some true by
              rw [List.getD_eq_getElem?_getD] at hdt
              cases e : x.th[d]? with
              | none => rw [e] at hdt; cases hdt
              | some b => rw [e] at hdt; exact congrArg some hdt)
            rw [HQ1.out] at hv2
            have e2 : xa = some ⟨tb, to, none⟩ := by cases hv2; rfl
            subst e2
            have HCB := Lib.hid hct
            have HCT := Lib.hid (HKJ.out.cell HCT.out id)
            have HMAY := Lib.hid hmay
            have hd1 : ¬ (q1 : Int) ≤ (d : Int) := by omega
            have hd2 : (d : Int) < (q1 : Int) := by omega
            have hd0 : (0 : Int) ≤ (d : Int) := by omega
            have hdd : decide ((q1 : Int) ≤ (d : Int)) = false := decide_eq_false hd1
            clear h_x h_r h_v h_at hmay hdt hrt hv2 hct HGJ
            go_wp2_with fail
            obtain ⟨S, hS0⟩ : ∃ S : World → Prop, S = fun w' => Keep noBlk wr w' := ⟨_, rfl⟩
            have HSE := Lib.hid (show ∀ w', S w' → Keep noBlk wr w' from fun w' h => by rw [hS0] at h; exact h)
            have HSI := Lib.hid (show ∀ w', Keep noBlk wr w' → S w' from fun w' h => by rw [hS0]; exact h)
            have hS : S wr.drew := by rw [hS0]; exact (Keep.refl _ _).drew
            clear hS0
            refine wp_region_held (S := S) (by kernel_rfl) ?_
            change wpAnyH _ _ _ _ _ _ _ _ wr.drew
            generalize wr.drew = wq42 at hS ⊢
            refine wpAnyH_take (i := 0) (v := .slice (some ⟨gb, go, none⟩) gl gc) rfl (by kernel_rfl) (by kernel_rfl) (by kernel_rfl) (fun _ _ _ h => h) (.inl ⟨by rfl, fun _ _ => rfl⟩) hS ?_
            simp only [Act.put, List.setIfInBounds_toArray, List.set_cons_zero, List.set_cons_succ, List.getElem_toArray, List.getElem_cons_zero]
            refine wpAnyH_take (i := 1) (v := .int .i64 (j : Int)) rfl (by kernel_rfl) (by kernel_rfl) (by kernel_rfl) (fun _ _ _ h => h) (.inl ⟨by rfl, fun _ _ => rfl⟩) hS ?_
            simp only [Act.put, List.setIfInBounds_toArray, List.set_cons_zero, List.set_cons_succ, List.getElem_toArray, List.getElem_cons_succ, List.getElem_cons_zero]
            refine wpAnyH_take (i := 2) (v := .pointer (some ⟨gb, go + j * 2, none⟩)) rfl (by kernel_rfl) (by kernel_rfl) (by kernel_rfl) (fun _ _ _ h => h) (.inl ⟨by rfl, fun _ _ => by go_simp⟩) hS ?_
            simp only [Act.put, List.setIfInBounds_toArray, List.set_cons_zero, List.set_cons_succ, List.getElem_toArray, List.getElem_cons_succ, List.getElem_cons_zero]
            refine wpAnyH_take (i := 3) (v := .agg ((adCs ⟨(d : Int), (t : Int)⟩)).toArray) rfl (by kernel_rfl) (by kernel_rfl) (by kernel_rfl) (fun _ _ _ h => h) (yieldsIf_load_mid (by rfl) 50 (.tmp 91) rfl (gb) (go + j * 2) rfl ((adCs ⟨(d : Int), (t : Int)⟩)) _ (fun w' h => (HSE.out w' h).rangeAt HX0.out) adUnder rfl sizeAd) hS ?_
            simp only [Act.put, List.setIfInBounds_toArray, List.set_cons_zero, List.set_cons_succ, List.getElem_toArray, List.getElem_cons_succ, List.getElem_cons_zero]
            refine wpAnyH_take (i := 4) (v := .int .i64 (D : Int)) rfl (by kernel_rfl) (by kernel_rfl) (by kernel_rfl) (fun _ _ _ h => h) (.inl ⟨by rfl, fun _ _ => rfl⟩) hS ?_
            simp only [Act.put, List.setIfInBounds_toArray, List.set_cons_zero, List.set_cons_succ, List.getElem_toArray, List.getElem_cons_succ, List.getElem_cons_zero]
            refine wpAnyH_take (i := 5) (v := .int .i64 (Z : Int)) rfl (by kernel_rfl) (by kernel_rfl) (by kernel_rfl) (fun _ _ _ h => h) (.inl ⟨by rfl, fun _ _ => rfl⟩) hS ?_
            simp only [Act.put, List.setIfInBounds_toArray, List.set_cons_zero, List.set_cons_succ, List.getElem_toArray, List.getElem_cons_succ, List.getElem_cons_zero]
            refine wpAnyH_one (k := 6) rfl (by kernel_rfl) ?_
            go_wp2_with fail
            refine (yes_of (may_any ⟨(d : Int), (t : Int)⟩ (D : Int) (Z : Int) wq42) HMAY.out).mono ?_
            rintro e wq43 ⟨rfl, hk⟩
            have hS1 := HSI.out _ ((HSE.out _ hS).trans hk)
            clear hS hk
            go_wp2_with fail
            refine ⟨hS1, ?_⟩
            refine wpAnyH_take (i := 7) (v := .bool false) rfl (by kernel_rfl) (by kernel_rfl) (by kernel_rfl) (fun _ _ _ h => h) (.inl ⟨by rfl, fun _ _ => by go_simp⟩) hS1 ?_
            simp only [Act.put, List.setIfInBounds_toArray, List.set_cons_zero, List.set_cons_succ, List.getElem_toArray, List.getElem_cons_succ, List.getElem_cons_zero]
            refine wpAnyH_take (i := 8) (v := .bool false) rfl (by kernel_rfl) (by kernel_rfl) (by kernel_rfl) (fun _ _ _ h => h) (.inl ⟨by rfl, fun _ _ => rfl⟩) hS1 ?_
            simp only [Act.put, List.setIfInBounds_toArray, List.set_cons_zero, List.set_cons_succ, List.getElem_toArray, List.getElem_cons_succ, List.getElem_cons_zero]
            refine wpAnyH_take (i := 9) (v := .slice (some ⟨gb, go, none⟩) gl gc) rfl (by kernel_rfl) (by kernel_rfl) (by kernel_rfl) (fun _ _ _ h => h) (.inl ⟨by rfl, fun _ _ => rfl⟩) hS1 ?_
            simp only [Act.put, List.setIfInBounds_toArray, List.set_cons_zero, List.set_cons_succ, List.getElem_toArray, List.getElem_cons_succ, List.getElem_cons_zero]
            refine wpAnyH_take (i := 10) (v := .int .i64 (j : Int)) rfl (by kernel_rfl) (by kernel_rfl) (by kernel_rfl) (fun _ _ _ h => h) (.inl ⟨by rfl, fun _ _ => rfl⟩) hS1 ?_
            simp only [Act.put, List.setIfInBounds_toArray, List.set_cons_zero, List.set_cons_succ, List.getElem_toArray, List.getElem_cons_succ, List.getElem_cons_zero]
            refine wpAnyH_take (i := 11) (v := .pointer (some ⟨gb, go + j * 2, none⟩)) rfl (by kernel_rfl) (by kernel_rfl) (by kernel_rfl) (fun _ _ _ h => h) (.inl ⟨by rfl, fun _ _ => by go_simp⟩) hS1 ?_
            simp only [Act.put, List.setIfInBounds_toArray, List.set_cons_zero, List.set_cons_succ, List.getElem_toArray, List.getElem_cons_succ, List.getElem_cons_zero]
            refine wpAnyH_take (i := 12) (v := .pointer (some ⟨gb, go + j * 2, none⟩)) rfl (by kernel_rfl) (by kernel_rfl) (by kernel_rfl) (fun _ _ _ h => h) (.inl ⟨by rfl, fun _ _ => by go_simp⟩) hS1 ?_
            simp only [Act.put, List.setIfInBounds_toArray, List.set_cons_zero, List.set_cons_succ, List.getElem_toArray, List.getElem_cons_succ, List.getElem_cons_zero]
            refine wpAnyH_take (i := 13) (v := .int .i64 (d : Int)) rfl (by kernel_rfl) (by kernel_rfl) (by kernel_rfl) (fun _ _ _ h => h) (.inl ⟨by rfl, fun w' hw' => by have c := (HSE.out w' hw').cell HC0.out id; go_simp⟩) hS1 ?_
            simp only [Act.put, List.setIfInBounds_toArray, List.set_cons_zero, List.set_cons_succ, List.getElem_toArray, List.getElem_cons_succ, List.getElem_cons_zero]
            refine wpAnyH_take (i := 14) (v := .pointer (some ⟨xb, 3, none⟩)) rfl (by kernel_rfl) (by kernel_rfl) (by kernel_rfl) (fun _ _ _ h => h) (.inl ⟨by rfl, fun _ _ => by go_simp⟩) hS1 ?_
            simp only [Act.put, List.setIfInBounds_toArray, List.set_cons_zero, List.set_cons_succ, List.getElem_toArray, List.getElem_cons_succ, List.getElem_cons_zero]
            refine wpAnyH_take (i := 15) (v := .slice (some ⟨tb, to, none⟩) q1 xc) rfl (by kernel_rfl) (by kernel_rfl) (by kernel_rfl) (fun _ _ _ h => h) (.inl ⟨by rfl, fun w' hw' => by have c := (HSE.out w' hw').cell HCT.out id; go_simp⟩) hS1 ?_
            simp only [Act.put, List.setIfInBounds_toArray, List.set_cons_zero, List.set_cons_succ, List.getElem_toArray, List.getElem_cons_succ, List.getElem_cons_zero]
            refine wpAnyH_take (i := 16) (v := .int .i64 q1) rfl (by kernel_rfl) (by kernel_rfl) (by kernel_rfl) (fun _ _ _ h => h) (.inl ⟨by rfl, fun _ _ => by go_simp⟩) hS1 ?_
            simp only [Act.put, List.setIfInBounds_toArray, List.set_cons_zero, List.set_cons_succ, List.getElem_toArray, List.getElem_cons_succ, List.getElem_cons_zero]
            refine wpAnyH_take (i := 17) (v := .bool false) rfl (by kernel_rfl) (by kernel_rfl) (by kernel_rfl) (fun _ _ _ h => h) (.inl ⟨by rfl, fun _ _ => by go_simp⟩) hS1 ?_
            simp only [Act.put, List.setIfInBounds_toArray, List.set_cons_zero, List.set_cons_succ, List.getElem_toArray, List.getElem_cons_succ, List.getElem_cons_zero]
            refine wpAnyH_take (i := 18) (v := .bool false) rfl (by kernel_rfl) (by kernel_rfl) (by kernel_rfl) (fun _ _ _ h => h) (.inl ⟨by rfl, fun _ _ => rfl⟩) hS1 ?_
            simp only [Act.put, List.setIfInBounds_toArray, List.set_cons_zero, List.set_cons_succ, List.getElem_toArray, List.getElem_cons_succ, List.getElem_cons_zero]
            refine wpAnyH_take (i := 19) (v := .bool false) rfl (by kernel_rfl) (by kernel_rfl) (by kernel_rfl) (fun _ _ _ h => h) (.inl ⟨by rfl, fun _ _ => rfl⟩) hS1 ?_
            simp only [Act.put, List.setIfInBounds_toArray, List.set_cons_zero, List.set_cons_succ, List.getElem_toArray, List.getElem_cons_succ, List.getElem_cons_zero]
            refine wpAnyH_take (i := 20) (v := .pointer (some ⟨xb, 3, none⟩)) rfl (by kernel_rfl) (by kernel_rfl) (by kernel_rfl) (fun _ _ _ h => h) (.inl ⟨by rfl, fun _ _ => by go_simp⟩) hS1 ?_
            simp only [Act.put, List.setIfInBounds_toArray, List.set_cons_zero, List.set_cons_succ, List.getElem_toArray, List.getElem_cons_succ, List.getElem_cons_zero]
            refine wpAnyH_take (i := 21) (v := .slice (some ⟨tb, to, none⟩) q1 xc) rfl (by kernel_rfl) (by kernel_rfl) (by kernel_rfl) (fun _ _ _ h => h) (.inl ⟨by rfl, fun w' hw' => by have c := (HSE.out w' hw').cell HCT.out id; go_simp⟩) hS1 ?_
            simp only [Act.put, List.setIfInBounds_toArray, List.set_cons_zero, List.set_cons_succ, List.getElem_toArray, List.getElem_cons_succ, List.getElem_cons_zero]
            refine wpAnyH_take (i := 22) (v := .slice (some ⟨gb, go, none⟩) gl gc) rfl (by kernel_rfl) (by kernel_rfl) (by kernel_rfl) (fun _ _ _ h => h) (.inl ⟨by rfl, fun _ _ => rfl⟩) hS1 ?_
            simp only [Act.put, List.setIfInBounds_toArray, List.set_cons_zero, List.set_cons_succ, List.getElem_toArray, List.getElem_cons_succ, List.getElem_cons_zero]
            refine wpAnyH_take (i := 23) (v := .int .i64 (j : Int)) rfl (by kernel_rfl) (by kernel_rfl) (by kernel_rfl) (fun _ _ _ h => h) (.inl ⟨by rfl, fun _ _ => rfl⟩) hS1 ?_
            simp only [Act.put, List.setIfInBounds_toArray, List.set_cons_zero, List.set_cons_succ, List.getElem_toArray, List.getElem_cons_succ, List.getElem_cons_zero]
            refine wpAnyH_take (i := 24) (v := .pointer (some ⟨gb, go + j * 2, none⟩)) rfl (by kernel_rfl) (by kernel_rfl) (by kernel_rfl) (fun _ _ _ h => h) (.inl ⟨by rfl, fun _ _ => by go_simp⟩) hS1 ?_
            simp only [Act.put, List.setIfInBounds_toArray, List.set_cons_zero, List.set_cons_succ, List.getElem_toArray, List.getElem_cons_succ, List.getElem_cons_zero]
            refine wpAnyH_take (i := 25) (v := .pointer (some ⟨gb, go + j * 2, none⟩)) rfl (by kernel_rfl) (by kernel_rfl) (by kernel_rfl) (fun _ _ _ h => h) (.inl ⟨by rfl, fun _ _ => by go_simp⟩) hS1 ?_
            simp only [Act.put, List.setIfInBounds_toArray, List.set_cons_zero, List.set_cons_succ, List.getElem_toArray, List.getElem_cons_succ, List.getElem_cons_zero]
            refine wpAnyH_take (i := 26) (v := .int .i64 (d : Int)) rfl (by kernel_rfl) (by kernel_rfl) (by kernel_rfl) (fun _ _ _ h => h) (.inl ⟨by rfl, fun w' hw' => by have c := (HSE.out w' hw').cell HC0.out id; go_simp⟩) hS1 ?_
            simp only [Act.put, List.setIfInBounds_toArray, List.set_cons_zero, List.set_cons_succ, List.getElem_toArray, List.getElem_cons_succ, List.getElem_cons_zero]
            refine wpAnyH_take (i := 27) (v := .pointer (some ⟨tb, to + d, none⟩)) rfl (by kernel_rfl) (by kernel_rfl) (by kernel_rfl) (fun _ _ _ h => h) (.inl ⟨by rfl, fun _ _ => by go_simp⟩) hS1 ?_
            simp only [Act.put, List.setIfInBounds_toArray, List.set_cons_zero, List.set_cons_succ, List.getElem_toArray, List.getElem_cons_succ, List.getElem_cons_zero]
            refine wpAnyH_take (i := 28) (v := .bool true) rfl (by kernel_rfl) (by kernel_rfl) (by kernel_rfl) (fun _ _ _ h => h) (.inl ⟨by rfl, fun w' hw' => by have c := (HSE.out w' hw').cell HCB.out id; go_simp⟩) hS1 ?_
            simp only [Act.put, List.setIfInBounds_toArray, List.set_cons_zero, List.set_cons_succ, List.getElem_toArray, List.getElem_cons_succ, List.getElem_cons_zero]
            refine wpAnyH_take (i := 29) (v := .bool false) rfl (by kernel_rfl) (by kernel_rfl) (by kernel_rfl) (fun _ _ _ h => h) (.inl ⟨by rfl, fun _ _ => by go_simp⟩) hS1 ?_
            simp only [Act.put, List.setIfInBounds_toArray, List.set_cons_zero, List.set_cons_succ, List.getElem_toArray, List.getElem_cons_succ, List.getElem_cons_zero]
            refine wpAnyH_take (i := 30) (v := .bool false) rfl (by kernel_rfl) (by kernel_rfl) (by kernel_rfl) (fun _ _ _ h => h) (.inl ⟨by rfl, fun _ _ => rfl⟩) hS1 ?_
            simp only [Act.put, List.setIfInBounds_toArray, List.set_cons_zero, List.set_cons_succ, List.getElem_toArray, List.getElem_cons_succ, List.getElem_cons_zero]
            refine wpAnyH_done (by kernel_rfl) ?_ _
            have HKR := Lib.hid (HSE.out _ hS1)
            clear hS1 HSE HSI
            have HKJ := Lib.hid (HKJ.out.trans HKR.out)
            clear HKR
            go_wp2_with fail
            go_roundw
            case rel => exact ⟨j + 1, by omega, by go_num, HKJ⟩
            case measure => simp [intOf]; omega
          · obtain rfl : gl = j := by omega
            have hk := HKJ.out
            have HL6 := Lib.hid (HL6.out.keep0 hk); have HG6 := Lib.hid (HG6.out.keep hk fun _ _ => id); have HK6 := Lib.hid (HK6.out.trans hk); have HOC6 := Lib.hid (hk.owns HOC6.out fun _ _ => id)
            clear hk HKJ HCT HRT6
            go_wp2_with fail
            refine (union_any _ _ _ C gg HCA.out HGA.out (by rw [HCL.out]; exact Rd.of_owns HOC6.out) (by rw [HGL.out]; exact HG6.out) (by rw [HCL.out, HGL.out]; omega)).mono ?_
            rintro e7 w9 ⟨v, rfl, ho7, hk7⟩
            have HCP7 : Hid (∀ y ∈ canon (C ++ gg), PlaceIn y D Z) := Lib.hid (fun y hy => (List.mem_append.1 (mem_canon.1 hy)).elim (HCP.out y) (fun h => (mayB_in hbd).1 (HGP.out y h).1))
            have HL7 : Hid (LedIs w9 lo a b c D Z (canon (C ++ gg))) := Lib.hid ((HL6.out.keep0 hk7).congr fun y => mem_canon.symm)
            have HCR7 := Lib.hid (canon_rises (C ++ gg))
            have HK7 := Lib.hid (HK6.out.trans hk7)
            have hm7 : (canon (C ++ gg)).length ≤ 320 := by
              have h1 := sum_free (rises_nodup' HCR7.out) HCP7.out (show 5 ≤ Z by omega)
              have h2 : D * (Z - 5) ≤ 8 * 35 := Nat.mul_le_mul hbd.2.1 (by omega)
              omega
            have HNO7 : Hid (∀ i, v.ownBlock = some i → ¬ Own a b c D i) := Lib.hid (fun i hi ho => by
              have h1 := owns_base ho7 hi
              have h2 := (HL6.out.own_lt ho).2
              omega)
            clear HL6 HK6 HOC6 HCA
            try clear HNO6
            try clear HRL6
            obtain ⟨C', hC'⟩ : ∃ C', canon (C ++ gg) = C' := ⟨_, rfl⟩
            rw [hC'] at HCP7 HCR7 HL7 hm7 ho7
            clear HCP HCR hC'
            obtain ⟨m', hm'⟩ : ∃ m', C'.length = m' := ⟨_, rfl⟩
            have HCL' := Lib.hid hm'
            rw [hm'] at hm7 ho7
            obtain ⟨ua', uc', rfl, -, -⟩ := (Rd.of_owns ho7).form
            have HOC7 := Lib.hid ho7
            clear HCL hm ho7 hk7 hm'
            have HCP := HCP7; have HCR := HCR7; have HLD := HL7; have HK := HK7; have HNO := HNO7; have HOC := HOC7; have HCL := HCL'; have hm := hm7
            clear HCP7 HCR7 HL7 HK7 HNO7 HOC7 HCL' hm7
            go_wp2_with fail
            have hty := Lib.hid (show freeS C' D Z + m' = D * (Z - 5) by have h := sum_free (rises_nodup' HCR.out) HCP.out (show 5 ≤ Z by omega); rw [HCL.out] at h; exact h)
            refine (told_of (ledUsed_any _ lo a b D Z c C' HLD.out) ((usedAll_canon HCP.out).trans (canon_of_rises HCR.out))).mono ?_
            rintro e9 w9 ⟨v, rfl, hov, hk9⟩
            rw [HCL.out] at hov
            obtain ⟨va, vc, rfl, -, -⟩ := (Rd.of_owns hov).form
            have HUS := Lib.hid (Rd.of_owns hov); have HK := Lib.hid (HK.out.trans hk9); have HLD := Lib.hid (HLD.out.keep0 hk9); have HOC := Lib.hid (hk9.owns HOC.out fun _ _ => id)
            clear hov hk9
            go_wp2_with fail
            refine (same_any _ _ _ C' C' (by rw [HCL.out]; exact HUS.out) (by rw [HCL.out]; exact Rd.of_owns HOC.out) true (decide_eq_true rfl)).mono ?_
            rintro e10 w10 ⟨rfl, hk10⟩
            have HK := Lib.hid (HK.out.trans hk10); have HLD := Lib.hid (HLD.out.keep0 hk10); have HOC := Lib.hid (hk10.owns HOC.out fun _ _ => id)
            clear hk10 HUS
            go_wp2_with fail
            have HT := total_any _ lo a b D Z c C' HLD.out
            obtain ⟨tt, htt⟩ : ∃ t, freeS C' D Z = t := ⟨_, rfl⟩
            rw [htt] at HT hty
            have HT := Lib.hid HT
            clear htt
            refine HT.out.mono ?_
            rintro e11 w11 ⟨rfl, hk11⟩
            have HK := Lib.hid (HK.out.trans hk11); have HLD := Lib.hid (HLD.out.keep0 hk11); have HOC := Lib.hid (hk11.owns HOC.out fun _ _ => id)
            clear hk11 HT
            obtain ⟨y5, hy5⟩ : ∃ y : Nat, (Z : Int) - 5 = (y : Int) := ⟨Z - 5, by omega⟩
            obtain ⟨dy, hdy⟩ : ∃ x, D * y5 = x := ⟨_, rfl⟩
            have hdyb : dy ≤ 280 := by rw [← hdy]; exact Nat.le_trans (Nat.mul_le_mul hbd.2.1 (show y5 ≤ 35 by omega)) (by decide)
            have hdyi : (D : Int) * (y5 : Int) = (dy : Int) := by rw [← hdy]; exact (Int.natCast_mul D y5).symm
            have hsum : tt + m' = dy := by rw [← hdy, show y5 = Z - 5 by omega]; exact hty.out
            have hfin : (dy : Int) - (m' : Int) = (tt : Int) := by omega
            have hwy5 : IntKind.i64.wrap (y5 : Int) = (y5 : Int) := by rw [IntWalk.i64_in _ (by omega)]
            have hwdy : IntKind.i64.wrap (dy : Int) = (dy : Int) := by rw [IntWalk.i64_in _ (by omega)]
            have hwtt : IntKind.i64.wrap (tt : Int) = (tt : Int) := by rw [IntWalk.i64_in _ (by omega)]
            clear hdy hsum hty
            go_wp2_with fail
            go_roundw
            case rel => exact ⟨k + 1, m', C', ua', uc', _, c, by omega, hm, rfl, by go_num, HCL, HCR, HCP, HLD, HOC, HNO, HK⟩
            case measure => simp [intOf]; omega
      · by_cases ek1 : kd = 1
        · as_aux_lemma =>
            subst ek1
            go_wp2_with (first
              | ((with_reducible show wpList _ _ _ (⟨_, .load 41 (.tmp 48), _, _, _, _⟩ :: _) _ _); refine wpList_load_mid rfl 41 (.tmp 48) rfl gl (ol + k * 5) rfl (actCs x) _ HX.out actUnder rfl sizeAct ?_)
              | ((with_reducible show wpList _ _ _ (⟨some 12, .alloc 41, _, _, _, _⟩ :: _) _ _); refine wpList_alloc_at rfl 41 rfl zeroAct zeroActV #[.int .i64 0, .int .i64 0, .int .i64 0, .slice none 0 0, .slice none 0 0] rfl ?_)
              | ((with_reducible show wpList _ _ _ (⟨none, .store 41 (.tmp 12) (.tmp 49), _, _, _, _⟩ :: _) _ _); refine wpList_store_agg rfl 41 (.tmp 12) (.tmp 49) rfl wr.heap.size 0 (actCs x) rfl rfl #[.int .i64 0, .int .i64 0, .int .i64 0, .slice none 0 0, .slice none 0 0] 41 (heap_alloc_new _ _) (Nat.le_refl _) sizeAct HON.out ?_
                 intro w3 hb3 hk3
                 rw [spl_whole _ _ (by rfl)] at hb3
                 have hk4 : Keep noBlk wr w3 := ((Keep.refl noBlk wr).alloc _).trans' hk3 (fun _ _ h => h) (fun i hi e => by omega)
                 have HB3 := Lib.hid hb3; have HK3 := Lib.hid hk4
                 have hcK : w3.cell? ⟨wr.heap.size, 0, none⟩ = some (.int .i64 x.kind) := blk_cell hb3 rfl
                 have hcC : w3.cell? ⟨wr.heap.size, 1, none⟩ = some (.int .i64 x.copies) := blk_cell hb3 rfl
                 have hcB : w3.cell? ⟨wr.heap.size, 2, none⟩ = some (.int .i64 x.back) := blk_cell hb3 rfl
                 have hcT : w3.cell? ⟨wr.heap.size, 3, none⟩ = some x.vt := blk_cell hb3 rfl
                 have hcL : w3.cell? ⟨wr.heap.size, 4, none⟩ = some x.vl := blk_cell hb3 rfl
                 rw [HKD.out] at hcK
                 rw [HXC.out] at hcC
                 rw [HXB.out] at hcB
                 rw [HE2.out] at hcT
                 rw [HE3.out] at hcL
                 have HLD := Lib.hid (HLD.out.keep0 hk4); have HOC := Lib.hid (hk4.owns HOC.out fun _ _ => id); have HK := Lib.hid (HK.out.trans hk4)
                 clear hb3 hk3 hk4))
            have hxa := HXA.out.keep HK.out
            have hrt := hxa.2.2.2.1
            rw [HE2.out] at hrt
            rw [HQ1.out] at hrt
            have HC := Lib.hid ((take_any w3 lo a b D Z c C HLD.out (.slice xa q1 xc) x.th xcp (by rw [HQ1.out]; exact hrt)).mono fun e w' h => take_sum hbd HLD.out h)
            have HRT := Lib.hid hrt
            clear hxa hrt
            refine HC.out.mono ?_
            rintro e6 w6 ⟨v, gg, g, rfl, h1, h2, h3, h4, h5, h6, ⟨bb, hb1, hb2⟩, h7⟩
            obtain ⟨gl, hgl⟩ : ∃ n, gg.length = n := ⟨_, rfl⟩
            have HGL := Lib.hid hgl
            rw [hgl] at h2 h4 hb2
            have hb3 : decide ((0 : Int) < (gl : Int)) = bb := by rw [← hb2]; exact decide_eq_decide.2 (by omega)
            obtain ⟨ga, gc, rfl, -, -⟩ := (Rd.of_owns h2).form
            have HL6 := Lib.hid h1; have HG6 := Lib.hid (Rd.of_owns h2); have HAP := Lib.hid h5; have HBO := Lib.hid h6; have HGP := Lib.hid h7
            have hgl8 := h4
            have hlob := HLD.out.lo.2.1
            have HK6 := Lib.hid (HK.out.trans' h3 (U := noBlk) (fun _ _ h => h) (fun i hi ho => by have := (HLD.out.own_lt ho).1; omega))
            have HOC6 := Lib.hid (h3.owns HOC.out (fun i hi ho => HNO.out i hi ho))
            have HCA : Hid (AdsOk C) := Lib.hid (fun y hy => by
              obtain ⟨h1, h2, h3, h4⟩ := HCP.out y hy
              exact ⟨⟨by omega, by omega⟩, by omega, by omega⟩)
            have HGA : Hid (AdsOk gg) := Lib.hid (fun y hy => by
              obtain ⟨h1, h2, h3, h4⟩ := (mayB_in hbd).1 (HGP.out y hy).1
              exact ⟨⟨by omega, by omega⟩, by omega, by omega⟩)
            have HCT := Lib.hid (h3.cell hcT (fun ho => by have := HOWX.out _ ho; omega))
            have HRT6 : Hid (Rd w6 1 (.slice xa q1 xc) q1 (x.th.map Value.bool)) := Lib.hid (by
              have h := (HXA.out.keep HK6.out).2.2.2.1
              rwa [HE2.out, HQ1.out] at h)
            obtain ⟨xb, hxb⟩ : ∃ X, wr.heap.size = X := ⟨_, rfl⟩
            rw [hxb] at HCT ⊢
            clear hxb hgl h1 h2 h3 h4 h5 h6 h7 hcK hcC hcB hcT hcL HLD HOC HK HC HRT HB3 HK3
            go_wp2_with fail
            refine (yes_of (apart_any w6 _ gg HGA.out (by rw [HGL.out]; exact HG6.out)) (decide_eq_true HAP.out)).mono ?_
            rintro e7 w7 ⟨rfl, hk⟩
            have HL6 := Lib.hid (HL6.out.keep0 hk); have HG6 := Lib.hid (HG6.out.keep hk fun _ _ => id); have HK6 := Lib.hid (HK6.out.trans hk); have HOC6 := Lib.hid (hk.owns HOC6.out fun _ _ => id); have HCT := Lib.hid (hk.cell HCT.out id); have HRT6 := Lib.hid (HRT6.out.keep hk fun _ _ => id)
            clear hk
            go_wp2_with fail
            refine (told_of (both_any w7 _ _ gg C HGA.out HCA.out (by rw [HGL.out]; exact HG6.out) (by rw [HCL.out]; exact Rd.of_owns HOC6.out) (by rw [HGL.out]; omega)) HBO.out).mono ?_
            rintro e8 w8 ⟨v8, rfl, ho8, hk⟩
            obtain ⟨va8, vc8, rfl, -, -⟩ := (Rd.of_owns ho8).form
            have HL6 := Lib.hid (HL6.out.keep0 hk); have HG6 := Lib.hid (HG6.out.keep hk fun _ _ => id); have HK6 := Lib.hid (HK6.out.trans hk); have HOC6 := Lib.hid (hk.owns HOC6.out fun _ _ => id); have HCT := Lib.hid (hk.cell HCT.out id); have HRT6 := Lib.hid (HRT6.out.keep hk fun _ _ => id)
            clear hk ho8
            have hbx : (bb != bb) = false := by cases bb <;> rfl
            have hby : (!bb == bb) = false := by cases bb <;> rfl
            go_wp2_with fail
            go_loopw [16] (fun i wr => ∃ j : Nat, j ≤ gl ∧ i = .int .i64 j ∧ Hid (Keep noBlk w8 wr)) (fun i _ => gl - (intOf i).toNat)
            case atStart => exact ⟨0, Nat.zero_le _, rfl, Lib.hid (Keep.refl _ _)⟩
            case round =>
            obtain ⟨j, hj, rfl, HKJ⟩ := hrel
            by_cases hlj : j < gl
            · have hji : (j : Int) < (gl : Int) := by omega
              have hj0 : (0 : Int) ≤ (j : Int) := by omega
              have HGJ := Lib.hid (HG6.out.keep HKJ.out fun _ _ => id)
              obtain ⟨x0, h_x⟩ : ∃ x, gg[j]? = some x := ⟨gg[j]'(by rw [HGL.out]; exact hlj), List.getElem?_eq_getElem _⟩
              have h_r := HGJ.out
              rw [← HGL.out] at h_r
              obtain ⟨gb, go, cap2, h_v, h_at⟩ := rd_ad h_r h_x
              have e1 : ga = some ⟨gb, go, none⟩ := by cases h_v; rfl
              subst e1
              have HX0 := Lib.hid h_at
              obtain ⟨hmay, d, t, rfl, hdD, hdq, hdt⟩ := HGP.out _ (List.mem_of_getElem? h_x)
              have HC0 : Hid (wr.cell? ⟨gb, go + j * 2, none⟩ = some (.int .i64 (d : Int))) := Lib.hid (HX0.out 0 _ rfl)
              have hrt := HRT6.out.keep HKJ.out fun _ _ => id
              rw [← HQ1.out] at hrt
              rw [HQ1.out] at hdq
              obtain ⟨tb, to, cap3, hv2, hct⟩ := rd_bool hrt (show x.th[d]? = some true by
                rw [List.getD_eq_getElem?_getD] at hdt
                cases e : x.th[d]? with
                | none => rw [e] at hdt; cases hdt
                | some b => rw [e] at hdt; exact congrArg some hdt)
              rw [HQ1.out] at hv2
              have e2 : xa = some ⟨tb, to, none⟩ := by cases hv2; rfl
              subst e2
              have HCB := Lib.hid hct
              have HCT := Lib.hid (HKJ.out.cell HCT.out id)
              have HMAY := Lib.hid hmay
              have hd1 : ¬ (q1 : Int) ≤ (d : Int) := by omega
              have hd2 : (d : Int) < (q1 : Int) := by omega
              have hd0 : (0 : Int) ≤ (d : Int) := by omega
              have hdd : decide ((q1 : Int) ≤ (d : Int)) = false := decide_eq_false hd1
              clear h_x h_r h_v h_at hmay hdt hrt hv2 hct HGJ
              go_wp2_with fail
              obtain ⟨S, hS0⟩ : ∃ S : World → Prop, S = fun w' => Keep noBlk wr w' := ⟨_, rfl⟩
              have HSE := Lib.hid (show ∀ w', S w' → Keep noBlk wr w' from fun w' h => by rw [hS0] at h; exact h)
              have HSI := Lib.hid (show ∀ w', Keep noBlk wr w' → S w' from fun w' h => by rw [hS0]; exact h)
              have hS : S wr.drew := by rw [hS0]; exact (Keep.refl _ _).drew
              clear hS0
              refine wp_region_held (S := S) (by kernel_rfl) ?_
              change wpAnyH _ _ _ _ _ _ _ _ wr.drew
              generalize wr.drew = wq42 at hS ⊢
              refine wpAnyH_take (i := 0) (v := .slice (some ⟨gb, go, none⟩) gl gc) rfl (by kernel_rfl) (by kernel_rfl) (by kernel_rfl) (fun _ _ _ h => h) (.inl ⟨by rfl, fun _ _ => rfl⟩) hS ?_
              simp only [Act.put, List.setIfInBounds_toArray, List.set_cons_zero, List.set_cons_succ, List.getElem_toArray, List.getElem_cons_zero]
              refine wpAnyH_take (i := 1) (v := .int .i64 (j : Int)) rfl (by kernel_rfl) (by kernel_rfl) (by kernel_rfl) (fun _ _ _ h => h) (.inl ⟨by rfl, fun _ _ => rfl⟩) hS ?_
              simp only [Act.put, List.setIfInBounds_toArray, List.set_cons_zero, List.set_cons_succ, List.getElem_toArray, List.getElem_cons_succ, List.getElem_cons_zero]
              refine wpAnyH_take (i := 2) (v := .pointer (some ⟨gb, go + j * 2, none⟩)) rfl (by kernel_rfl) (by kernel_rfl) (by kernel_rfl) (fun _ _ _ h => h) (.inl ⟨by rfl, fun _ _ => by go_simp⟩) hS ?_
              simp only [Act.put, List.setIfInBounds_toArray, List.set_cons_zero, List.set_cons_succ, List.getElem_toArray, List.getElem_cons_succ, List.getElem_cons_zero]
              refine wpAnyH_take (i := 3) (v := .agg ((adCs ⟨(d : Int), (t : Int)⟩)).toArray) rfl (by kernel_rfl) (by kernel_rfl) (by kernel_rfl) (fun _ _ _ h => h) (yieldsIf_load_mid (by rfl) 50 (.tmp 91) rfl (gb) (go + j * 2) rfl ((adCs ⟨(d : Int), (t : Int)⟩)) _ (fun w' h => (HSE.out w' h).rangeAt HX0.out) adUnder rfl sizeAd) hS ?_
              simp only [Act.put, List.setIfInBounds_toArray, List.set_cons_zero, List.set_cons_succ, List.getElem_toArray, List.getElem_cons_succ, List.getElem_cons_zero]
              refine wpAnyH_take (i := 4) (v := .int .i64 (D : Int)) rfl (by kernel_rfl) (by kernel_rfl) (by kernel_rfl) (fun _ _ _ h => h) (.inl ⟨by rfl, fun _ _ => rfl⟩) hS ?_
              simp only [Act.put, List.setIfInBounds_toArray, List.set_cons_zero, List.set_cons_succ, List.getElem_toArray, List.getElem_cons_succ, List.getElem_cons_zero]
              refine wpAnyH_take (i := 5) (v := .int .i64 (Z : Int)) rfl (by kernel_rfl) (by kernel_rfl) (by kernel_rfl) (fun _ _ _ h => h) (.inl ⟨by rfl, fun _ _ => rfl⟩) hS ?_
              simp only [Act.put, List.setIfInBounds_toArray, List.set_cons_zero, List.set_cons_succ, List.getElem_toArray, List.getElem_cons_succ, List.getElem_cons_zero]
              refine wpAnyH_one (k := 6) rfl (by kernel_rfl) ?_
              go_wp2_with fail
              refine (yes_of (may_any ⟨(d : Int), (t : Int)⟩ (D : Int) (Z : Int) wq42) HMAY.out).mono ?_
              rintro e wq43 ⟨rfl, hk⟩
              have hS1 := HSI.out _ ((HSE.out _ hS).trans hk)
              clear hS hk
              go_wp2_with fail
              refine ⟨hS1, ?_⟩
              refine wpAnyH_take (i := 7) (v := .bool false) rfl (by kernel_rfl) (by kernel_rfl) (by kernel_rfl) (fun _ _ _ h => h) (.inl ⟨by rfl, fun _ _ => by go_simp⟩) hS1 ?_
              simp only [Act.put, List.setIfInBounds_toArray, List.set_cons_zero, List.set_cons_succ, List.getElem_toArray, List.getElem_cons_succ, List.getElem_cons_zero]
              refine wpAnyH_take (i := 8) (v := .bool false) rfl (by kernel_rfl) (by kernel_rfl) (by kernel_rfl) (fun _ _ _ h => h) (.inl ⟨by rfl, fun _ _ => rfl⟩) hS1 ?_
              simp only [Act.put, List.setIfInBounds_toArray, List.set_cons_zero, List.set_cons_succ, List.getElem_toArray, List.getElem_cons_succ, List.getElem_cons_zero]
              refine wpAnyH_take (i := 9) (v := .slice (some ⟨gb, go, none⟩) gl gc) rfl (by kernel_rfl) (by kernel_rfl) (by kernel_rfl) (fun _ _ _ h => h) (.inl ⟨by rfl, fun _ _ => rfl⟩) hS1 ?_
              simp only [Act.put, List.setIfInBounds_toArray, List.set_cons_zero, List.set_cons_succ, List.getElem_toArray, List.getElem_cons_succ, List.getElem_cons_zero]
              refine wpAnyH_take (i := 10) (v := .int .i64 (j : Int)) rfl (by kernel_rfl) (by kernel_rfl) (by kernel_rfl) (fun _ _ _ h => h) (.inl ⟨by rfl, fun _ _ => rfl⟩) hS1 ?_
              simp only [Act.put, List.setIfInBounds_toArray, List.set_cons_zero, List.set_cons_succ, List.getElem_toArray, List.getElem_cons_succ, List.getElem_cons_zero]
              refine wpAnyH_take (i := 11) (v := .pointer (some ⟨gb, go + j * 2, none⟩)) rfl (by kernel_rfl) (by kernel_rfl) (by kernel_rfl) (fun _ _ _ h => h) (.inl ⟨by rfl, fun _ _ => by go_simp⟩) hS1 ?_
              simp only [Act.put, List.setIfInBounds_toArray, List.set_cons_zero, List.set_cons_succ, List.getElem_toArray, List.getElem_cons_succ, List.getElem_cons_zero]
              refine wpAnyH_take (i := 12) (v := .pointer (some ⟨gb, go + j * 2, none⟩)) rfl (by kernel_rfl) (by kernel_rfl) (by kernel_rfl) (fun _ _ _ h => h) (.inl ⟨by rfl, fun _ _ => by go_simp⟩) hS1 ?_
              simp only [Act.put, List.setIfInBounds_toArray, List.set_cons_zero, List.set_cons_succ, List.getElem_toArray, List.getElem_cons_succ, List.getElem_cons_zero]
              refine wpAnyH_take (i := 13) (v := .int .i64 (d : Int)) rfl (by kernel_rfl) (by kernel_rfl) (by kernel_rfl) (fun _ _ _ h => h) (.inl ⟨by rfl, fun w' hw' => by have c := (HSE.out w' hw').cell HC0.out id; go_simp⟩) hS1 ?_
              simp only [Act.put, List.setIfInBounds_toArray, List.set_cons_zero, List.set_cons_succ, List.getElem_toArray, List.getElem_cons_succ, List.getElem_cons_zero]
              refine wpAnyH_take (i := 14) (v := .pointer (some ⟨xb, 3, none⟩)) rfl (by kernel_rfl) (by kernel_rfl) (by kernel_rfl) (fun _ _ _ h => h) (.inl ⟨by rfl, fun _ _ => by go_simp⟩) hS1 ?_
              simp only [Act.put, List.setIfInBounds_toArray, List.set_cons_zero, List.set_cons_succ, List.getElem_toArray, List.getElem_cons_succ, List.getElem_cons_zero]
              refine wpAnyH_take (i := 15) (v := .slice (some ⟨tb, to, none⟩) q1 xc) rfl (by kernel_rfl) (by kernel_rfl) (by kernel_rfl) (fun _ _ _ h => h) (.inl ⟨by rfl, fun w' hw' => by have c := (HSE.out w' hw').cell HCT.out id; go_simp⟩) hS1 ?_
              simp only [Act.put, List.setIfInBounds_toArray, List.set_cons_zero, List.set_cons_succ, List.getElem_toArray, List.getElem_cons_succ, List.getElem_cons_zero]
              refine wpAnyH_take (i := 16) (v := .int .i64 q1) rfl (by kernel_rfl) (by kernel_rfl) (by kernel_rfl) (fun _ _ _ h => h) (.inl ⟨by rfl, fun _ _ => by go_simp⟩) hS1 ?_
              simp only [Act.put, List.setIfInBounds_toArray, List.set_cons_zero, List.set_cons_succ, List.getElem_toArray, List.getElem_cons_succ, List.getElem_cons_zero]
              refine wpAnyH_take (i := 17) (v := .bool false) rfl (by kernel_rfl) (by kernel_rfl) (by kernel_rfl) (fun _ _ _ h => h) (.inl ⟨by rfl, fun _ _ => by go_simp⟩) hS1 ?_
              simp only [Act.put, List.setIfInBounds_toArray, List.set_cons_zero, List.set_cons_succ, List.getElem_toArray, List.getElem_cons_succ, List.getElem_cons_zero]
              refine wpAnyH_take (i := 18) (v := .bool false) rfl (by kernel_rfl) (by kernel_rfl) (by kernel_rfl) (fun _ _ _ h => h) (.inl ⟨by rfl, fun _ _ => rfl⟩) hS1 ?_
              simp only [Act.put, List.setIfInBounds_toArray, List.set_cons_zero, List.set_cons_succ, List.getElem_toArray, List.getElem_cons_succ, List.getElem_cons_zero]
              refine wpAnyH_take (i := 19) (v := .bool false) rfl (by kernel_rfl) (by kernel_rfl) (by kernel_rfl) (fun _ _ _ h => h) (.inl ⟨by rfl, fun _ _ => rfl⟩) hS1 ?_
              simp only [Act.put, List.setIfInBounds_toArray, List.set_cons_zero, List.set_cons_succ, List.getElem_toArray, List.getElem_cons_succ, List.getElem_cons_zero]
              refine wpAnyH_take (i := 20) (v := .pointer (some ⟨xb, 3, none⟩)) rfl (by kernel_rfl) (by kernel_rfl) (by kernel_rfl) (fun _ _ _ h => h) (.inl ⟨by rfl, fun _ _ => by go_simp⟩) hS1 ?_
              simp only [Act.put, List.setIfInBounds_toArray, List.set_cons_zero, List.set_cons_succ, List.getElem_toArray, List.getElem_cons_succ, List.getElem_cons_zero]
              refine wpAnyH_take (i := 21) (v := .slice (some ⟨tb, to, none⟩) q1 xc) rfl (by kernel_rfl) (by kernel_rfl) (by kernel_rfl) (fun _ _ _ h => h) (.inl ⟨by rfl, fun w' hw' => by have c := (HSE.out w' hw').cell HCT.out id; go_simp⟩) hS1 ?_
              simp only [Act.put, List.setIfInBounds_toArray, List.set_cons_zero, List.set_cons_succ, List.getElem_toArray, List.getElem_cons_succ, List.getElem_cons_zero]
              refine wpAnyH_take (i := 22) (v := .slice (some ⟨gb, go, none⟩) gl gc) rfl (by kernel_rfl) (by kernel_rfl) (by kernel_rfl) (fun _ _ _ h => h) (.inl ⟨by rfl, fun _ _ => rfl⟩) hS1 ?_
              simp only [Act.put, List.setIfInBounds_toArray, List.set_cons_zero, List.set_cons_succ, List.getElem_toArray, List.getElem_cons_succ, List.getElem_cons_zero]
              refine wpAnyH_take (i := 23) (v := .int .i64 (j : Int)) rfl (by kernel_rfl) (by kernel_rfl) (by kernel_rfl) (fun _ _ _ h => h) (.inl ⟨by rfl, fun _ _ => rfl⟩) hS1 ?_
              simp only [Act.put, List.setIfInBounds_toArray, List.set_cons_zero, List.set_cons_succ, List.getElem_toArray, List.getElem_cons_succ, List.getElem_cons_zero]
              refine wpAnyH_take (i := 24) (v := .pointer (some ⟨gb, go + j * 2, none⟩)) rfl (by kernel_rfl) (by kernel_rfl) (by kernel_rfl) (fun _ _ _ h => h) (.inl ⟨by rfl, fun _ _ => by go_simp⟩) hS1 ?_
              simp only [Act.put, List.setIfInBounds_toArray, List.set_cons_zero, List.set_cons_succ, List.getElem_toArray, List.getElem_cons_succ, List.getElem_cons_zero]
              refine wpAnyH_take (i := 25) (v := .pointer (some ⟨gb, go + j * 2, none⟩)) rfl (by kernel_rfl) (by kernel_rfl) (by kernel_rfl) (fun _ _ _ h => h) (.inl ⟨by rfl, fun _ _ => by go_simp⟩) hS1 ?_
              simp only [Act.put, List.setIfInBounds_toArray, List.set_cons_zero, List.set_cons_succ, List.getElem_toArray, List.getElem_cons_succ, List.getElem_cons_zero]
              refine wpAnyH_take (i := 26) (v := .int .i64 (d : Int)) rfl (by kernel_rfl) (by kernel_rfl) (by kernel_rfl) (fun _ _ _ h => h) (.inl ⟨by rfl, fun w' hw' => by have c := (HSE.out w' hw').cell HC0.out id; go_simp⟩) hS1 ?_
              simp only [Act.put, List.setIfInBounds_toArray, List.set_cons_zero, List.set_cons_succ, List.getElem_toArray, List.getElem_cons_succ, List.getElem_cons_zero]
              refine wpAnyH_take (i := 27) (v := .pointer (some ⟨tb, to + d, none⟩)) rfl (by kernel_rfl) (by kernel_rfl) (by kernel_rfl) (fun _ _ _ h => h) (.inl ⟨by rfl, fun _ _ => by go_simp⟩) hS1 ?_
              simp only [Act.put, List.setIfInBounds_toArray, List.set_cons_zero, List.set_cons_succ, List.getElem_toArray, List.getElem_cons_succ, List.getElem_cons_zero]
              refine wpAnyH_take (i := 28) (v := .bool true) rfl (by kernel_rfl) (by kernel_rfl) (by kernel_rfl) (fun _ _ _ h => h) (.inl ⟨by rfl, fun w' hw' => by have c := (HSE.out w' hw').cell HCB.out id; go_simp⟩) hS1 ?_
              simp only [Act.put, List.setIfInBounds_toArray, List.set_cons_zero, List.set_cons_succ, List.getElem_toArray, List.getElem_cons_succ, List.getElem_cons_zero]
              refine wpAnyH_take (i := 29) (v := .bool false) rfl (by kernel_rfl) (by kernel_rfl) (by kernel_rfl) (fun _ _ _ h => h) (.inl ⟨by rfl, fun _ _ => by go_simp⟩) hS1 ?_
              simp only [Act.put, List.setIfInBounds_toArray, List.set_cons_zero, List.set_cons_succ, List.getElem_toArray, List.getElem_cons_succ, List.getElem_cons_zero]
              refine wpAnyH_take (i := 30) (v := .bool false) rfl (by kernel_rfl) (by kernel_rfl) (by kernel_rfl) (fun _ _ _ h => h) (.inl ⟨by rfl, fun _ _ => rfl⟩) hS1 ?_
              simp only [Act.put, List.setIfInBounds_toArray, List.set_cons_zero, List.set_cons_succ, List.getElem_toArray, List.getElem_cons_succ, List.getElem_cons_zero]
              refine wpAnyH_done (by kernel_rfl) ?_ _
              have HKR := Lib.hid (HSE.out _ hS1)
              clear hS1 HSE HSI
              have HKJ := Lib.hid (HKJ.out.trans HKR.out)
              clear HKR
              go_wp2_with fail
              go_roundw
              case rel => exact ⟨j + 1, by omega, by go_num, HKJ⟩
              case measure => simp [intOf]; omega
            · obtain rfl : gl = j := by omega
              have hk := HKJ.out
              have HL6 := Lib.hid (HL6.out.keep0 hk); have HG6 := Lib.hid (HG6.out.keep hk fun _ _ => id); have HK6 := Lib.hid (HK6.out.trans hk); have HOC6 := Lib.hid (hk.owns HOC6.out fun _ _ => id)
              clear hk HKJ HCT HRT6
              go_wp2_with fail
              refine (union_any _ _ _ C gg HCA.out HGA.out (by rw [HCL.out]; exact Rd.of_owns HOC6.out) (by rw [HGL.out]; exact HG6.out) (by rw [HCL.out, HGL.out]; omega)).mono ?_
              rintro e7 w9 ⟨v, rfl, ho7, hk7⟩
              have HCP7 : Hid (∀ y ∈ canon (C ++ gg), PlaceIn y D Z) := Lib.hid (fun y hy => (List.mem_append.1 (mem_canon.1 hy)).elim (HCP.out y) (fun h => (mayB_in hbd).1 (HGP.out y h).1))
              have HL7 : Hid (LedIs w9 lo a b c D Z (canon (C ++ gg))) := Lib.hid ((HL6.out.keep0 hk7).congr fun y => mem_canon.symm)
              have HCR7 := Lib.hid (canon_rises (C ++ gg))
              have HK7 := Lib.hid (HK6.out.trans hk7)
              have hm7 : (canon (C ++ gg)).length ≤ 320 := by
                have h1 := sum_free (rises_nodup' HCR7.out) HCP7.out (show 5 ≤ Z by omega)
                have h2 : D * (Z - 5) ≤ 8 * 35 := Nat.mul_le_mul hbd.2.1 (by omega)
                omega
              have HNO7 : Hid (∀ i, v.ownBlock = some i → ¬ Own a b c D i) := Lib.hid (fun i hi ho => by
                have h1 := owns_base ho7 hi
                have h2 := (HL6.out.own_lt ho).2
                omega)
              clear HL6 HK6 HOC6 HCA
              try clear HNO6
              try clear HRL6
              obtain ⟨C', hC'⟩ : ∃ C', canon (C ++ gg) = C' := ⟨_, rfl⟩
              rw [hC'] at HCP7 HCR7 HL7 hm7 ho7
              clear HCP HCR hC'
              obtain ⟨m', hm'⟩ : ∃ m', C'.length = m' := ⟨_, rfl⟩
              have HCL' := Lib.hid hm'
              rw [hm'] at hm7 ho7
              obtain ⟨ua', uc', rfl, -, -⟩ := (Rd.of_owns ho7).form
              have HOC7 := Lib.hid ho7
              clear HCL hm ho7 hk7 hm'
              have HCP := HCP7; have HCR := HCR7; have HLD := HL7; have HK := HK7; have HNO := HNO7; have HOC := HOC7; have HCL := HCL'; have hm := hm7
              clear HCP7 HCR7 HL7 HK7 HNO7 HOC7 HCL' hm7
              go_wp2_with fail
              have hty := Lib.hid (show freeS C' D Z + m' = D * (Z - 5) by have h := sum_free (rises_nodup' HCR.out) HCP.out (show 5 ≤ Z by omega); rw [HCL.out] at h; exact h)
              refine (told_of (ledUsed_any _ lo a b D Z c C' HLD.out) ((usedAll_canon HCP.out).trans (canon_of_rises HCR.out))).mono ?_
              rintro e9 w9 ⟨v, rfl, hov, hk9⟩
              rw [HCL.out] at hov
              obtain ⟨va, vc, rfl, -, -⟩ := (Rd.of_owns hov).form
              have HUS := Lib.hid (Rd.of_owns hov); have HK := Lib.hid (HK.out.trans hk9); have HLD := Lib.hid (HLD.out.keep0 hk9); have HOC := Lib.hid (hk9.owns HOC.out fun _ _ => id)
              clear hov hk9
              go_wp2_with fail
              refine (same_any _ _ _ C' C' (by rw [HCL.out]; exact HUS.out) (by rw [HCL.out]; exact Rd.of_owns HOC.out) true (decide_eq_true rfl)).mono ?_
              rintro e10 w10 ⟨rfl, hk10⟩
              have HK := Lib.hid (HK.out.trans hk10); have HLD := Lib.hid (HLD.out.keep0 hk10); have HOC := Lib.hid (hk10.owns HOC.out fun _ _ => id)
              clear hk10 HUS
              go_wp2_with fail
              have HT := total_any _ lo a b D Z c C' HLD.out
              obtain ⟨tt, htt⟩ : ∃ t, freeS C' D Z = t := ⟨_, rfl⟩
              rw [htt] at HT hty
              have HT := Lib.hid HT
              clear htt
              refine HT.out.mono ?_
              rintro e11 w11 ⟨rfl, hk11⟩
              have HK := Lib.hid (HK.out.trans hk11); have HLD := Lib.hid (HLD.out.keep0 hk11); have HOC := Lib.hid (hk11.owns HOC.out fun _ _ => id)
              clear hk11 HT
              obtain ⟨y5, hy5⟩ : ∃ y : Nat, (Z : Int) - 5 = (y : Int) := ⟨Z - 5, by omega⟩
              obtain ⟨dy, hdy⟩ : ∃ x, D * y5 = x := ⟨_, rfl⟩
              have hdyb : dy ≤ 280 := by rw [← hdy]; exact Nat.le_trans (Nat.mul_le_mul hbd.2.1 (show y5 ≤ 35 by omega)) (by decide)
              have hdyi : (D : Int) * (y5 : Int) = (dy : Int) := by rw [← hdy]; exact (Int.natCast_mul D y5).symm
              have hsum : tt + m' = dy := by rw [← hdy, show y5 = Z - 5 by omega]; exact hty.out
              have hfin : (dy : Int) - (m' : Int) = (tt : Int) := by omega
              have hwy5 : IntKind.i64.wrap (y5 : Int) = (y5 : Int) := by rw [IntWalk.i64_in _ (by omega)]
              have hwdy : IntKind.i64.wrap (dy : Int) = (dy : Int) := by rw [IntWalk.i64_in _ (by omega)]
              have hwtt : IntKind.i64.wrap (tt : Int) = (tt : Int) := by rw [IntWalk.i64_in _ (by omega)]
              clear hdy hsum hty
              go_wp2_with fail
              go_roundw
              case rel => exact ⟨k + 1, m', C', ua', uc', _, c, by omega, hm, rfl, by go_num, HCL, HCR, HCP, HLD, HOC, HNO, HK⟩
              case measure => simp [intOf]; omega
        · by_cases ek2 : kd = 2
          · as_aux_lemma =>
              subst ek2
              go_wp2_with (first
                | ((with_reducible show wpList _ _ _ (⟨_, .load 41 (.tmp 48), _, _, _, _⟩ :: _) _ _); refine wpList_load_mid rfl 41 (.tmp 48) rfl gl (ol + k * 5) rfl (actCs x) _ HX.out actUnder rfl sizeAct ?_)
                | ((with_reducible show wpList _ _ _ (⟨some 12, .alloc 41, _, _, _, _⟩ :: _) _ _); refine wpList_alloc_at rfl 41 rfl zeroAct zeroActV #[.int .i64 0, .int .i64 0, .int .i64 0, .slice none 0 0, .slice none 0 0] rfl ?_)
                | ((with_reducible show wpList _ _ _ (⟨none, .store 41 (.tmp 12) (.tmp 49), _, _, _, _⟩ :: _) _ _); refine wpList_store_agg rfl 41 (.tmp 12) (.tmp 49) rfl wr.heap.size 0 (actCs x) rfl rfl #[.int .i64 0, .int .i64 0, .int .i64 0, .slice none 0 0, .slice none 0 0] 41 (heap_alloc_new _ _) (Nat.le_refl _) sizeAct HON.out ?_
                   intro w3 hb3 hk3
                   rw [spl_whole _ _ (by rfl)] at hb3
                   have hk4 : Keep noBlk wr w3 := ((Keep.refl noBlk wr).alloc _).trans' hk3 (fun _ _ h => h) (fun i hi e => by omega)
                   have HB3 := Lib.hid hb3; have HK3 := Lib.hid hk4
                   have hcK : w3.cell? ⟨wr.heap.size, 0, none⟩ = some (.int .i64 x.kind) := blk_cell hb3 rfl
                   have hcC : w3.cell? ⟨wr.heap.size, 1, none⟩ = some (.int .i64 x.copies) := blk_cell hb3 rfl
                   have hcB : w3.cell? ⟨wr.heap.size, 2, none⟩ = some (.int .i64 x.back) := blk_cell hb3 rfl
                   have hcT : w3.cell? ⟨wr.heap.size, 3, none⟩ = some x.vt := blk_cell hb3 rfl
                   have hcL : w3.cell? ⟨wr.heap.size, 4, none⟩ = some x.vl := blk_cell hb3 rfl
                   rw [HKD.out] at hcK
                   rw [HXC.out] at hcC
                   rw [HXB.out] at hcB
                   rw [HE2.out] at hcT
                   rw [HE3.out] at hcL
                   have HLD := Lib.hid (HLD.out.keep0 hk4); have HOC := Lib.hid (hk4.owns HOC.out fun _ _ => id); have HK := Lib.hid (HK.out.trans hk4)
                   clear hb3 hk3 hk4))
              have hxa := HXA.out.keep HK.out
              have hrt := hxa.2.2.2.1
              rw [HE2.out] at hrt
              rw [HQ1.out] at hrt
              have HC := Lib.hid ((take_any w3 lo a b D Z c C HLD.out (.slice xa q1 xc) x.th xcp (by rw [HQ1.out]; exact hrt)).mono fun e w' h => take_sum hbd HLD.out h)
              have HRT := Lib.hid hrt
              clear hxa hrt
              refine HC.out.mono ?_
              rintro e6 w6 ⟨v, gg, g, rfl, h1, h2, h3, h4, h5, h6, ⟨bb, hb1, hb2⟩, h7⟩
              obtain ⟨gl, hgl⟩ : ∃ n, gg.length = n := ⟨_, rfl⟩
              have HGL := Lib.hid hgl
              rw [hgl] at h2 h4 hb2
              have hb3 : decide ((0 : Int) < (gl : Int)) = bb := by rw [← hb2]; exact decide_eq_decide.2 (by omega)
              obtain ⟨ga, gc, rfl, -, -⟩ := (Rd.of_owns h2).form
              have HL6 := Lib.hid h1; have HG6 := Lib.hid (Rd.of_owns h2); have HAP := Lib.hid h5; have HBO := Lib.hid h6; have HGP := Lib.hid h7
              have hgl8 := h4
              have hlob := HLD.out.lo.2.1
              have HK6 := Lib.hid (HK.out.trans' h3 (U := noBlk) (fun _ _ h => h) (fun i hi ho => by have := (HLD.out.own_lt ho).1; omega))
              have HOC6 := Lib.hid (h3.owns HOC.out (fun i hi ho => HNO.out i hi ho))
              have HCA : Hid (AdsOk C) := Lib.hid (fun y hy => by
                obtain ⟨h1, h2, h3, h4⟩ := HCP.out y hy
                exact ⟨⟨by omega, by omega⟩, by omega, by omega⟩)
              have HGA : Hid (AdsOk gg) := Lib.hid (fun y hy => by
                obtain ⟨h1, h2, h3, h4⟩ := (mayB_in hbd).1 (HGP.out y hy).1
                exact ⟨⟨by omega, by omega⟩, by omega, by omega⟩)
              have HCT := Lib.hid (h3.cell hcT (fun ho => by have := HOWX.out _ ho; omega))
              have HRT6 : Hid (Rd w6 1 (.slice xa q1 xc) q1 (x.th.map Value.bool)) := Lib.hid (by
                have h := (HXA.out.keep HK6.out).2.2.2.1
                rwa [HE2.out, HQ1.out] at h)
              obtain ⟨xb, hxb⟩ : ∃ X, wr.heap.size = X := ⟨_, rfl⟩
              rw [hxb] at HCT ⊢
              clear hxb hgl h1 h2 h3 h4 h5 h6 h7 hcK hcC hcB hcT hcL HLD HOC HK HC HRT HB3 HK3
              go_wp2_with fail
              refine (yes_of (apart_any w6 _ gg HGA.out (by rw [HGL.out]; exact HG6.out)) (decide_eq_true HAP.out)).mono ?_
              rintro e7 w7 ⟨rfl, hk⟩
              have HL6 := Lib.hid (HL6.out.keep0 hk); have HG6 := Lib.hid (HG6.out.keep hk fun _ _ => id); have HK6 := Lib.hid (HK6.out.trans hk); have HOC6 := Lib.hid (hk.owns HOC6.out fun _ _ => id); have HCT := Lib.hid (hk.cell HCT.out id); have HRT6 := Lib.hid (HRT6.out.keep hk fun _ _ => id)
              clear hk
              go_wp2_with fail
              refine (told_of (both_any w7 _ _ gg C HGA.out HCA.out (by rw [HGL.out]; exact HG6.out) (by rw [HCL.out]; exact Rd.of_owns HOC6.out) (by rw [HGL.out]; omega)) HBO.out).mono ?_
              rintro e8 w8 ⟨v8, rfl, ho8, hk⟩
              obtain ⟨va8, vc8, rfl, -, -⟩ := (Rd.of_owns ho8).form
              have HL6 := Lib.hid (HL6.out.keep0 hk); have HG6 := Lib.hid (HG6.out.keep hk fun _ _ => id); have HK6 := Lib.hid (HK6.out.trans hk); have HOC6 := Lib.hid (hk.owns HOC6.out fun _ _ => id); have HCT := Lib.hid (hk.cell HCT.out id); have HRT6 := Lib.hid (HRT6.out.keep hk fun _ _ => id)
              clear hk ho8
              have hbx : (bb != bb) = false := by cases bb <;> rfl
              have hby : (!bb == bb) = false := by cases bb <;> rfl
              go_wp2_with fail
              go_loopw [16] (fun i wr => ∃ j : Nat, j ≤ gl ∧ i = .int .i64 j ∧ Hid (Keep noBlk w8 wr)) (fun i _ => gl - (intOf i).toNat)
              case atStart => exact ⟨0, Nat.zero_le _, rfl, Lib.hid (Keep.refl _ _)⟩
              case round =>
              obtain ⟨j, hj, rfl, HKJ⟩ := hrel
              by_cases hlj : j < gl
              · have hji : (j : Int) < (gl : Int) := by omega
                have hj0 : (0 : Int) ≤ (j : Int) := by omega
                have HGJ := Lib.hid (HG6.out.keep HKJ.out fun _ _ => id)
                obtain ⟨x0, h_x⟩ : ∃ x, gg[j]? = some x := ⟨gg[j]'(by rw [HGL.out]; exact hlj), List.getElem?_eq_getElem _⟩
                have h_r := HGJ.out
                rw [← HGL.out] at h_r
                obtain ⟨gb, go, cap2, h_v, h_at⟩ := rd_ad h_r h_x
                have e1 : ga = some ⟨gb, go, none⟩ := by cases h_v; rfl
                subst e1
                have HX0 := Lib.hid h_at
                obtain ⟨hmay, d, t, rfl, hdD, hdq, hdt⟩ := HGP.out _ (List.mem_of_getElem? h_x)
                have HC0 : Hid (wr.cell? ⟨gb, go + j * 2, none⟩ = some (.int .i64 (d : Int))) := Lib.hid (HX0.out 0 _ rfl)
                have hrt := HRT6.out.keep HKJ.out fun _ _ => id
                rw [← HQ1.out] at hrt
                rw [HQ1.out] at hdq
                obtain ⟨tb, to, cap3, hv2, hct⟩ := rd_bool hrt (show x.th[d]? = some true by
                  rw [List.getD_eq_getElem?_getD] at hdt
                  cases e : x.th[d]? with
                  | none => rw [e] at hdt; cases hdt
                  | some b => rw [e] at hdt; exact congrArg some hdt)
                rw [HQ1.out] at hv2
                have e2 : xa = some ⟨tb, to, none⟩ := by cases hv2; rfl
                subst e2
                have HCB := Lib.hid hct
                have HCT := Lib.hid (HKJ.out.cell HCT.out id)
                have HMAY := Lib.hid hmay
                have hd1 : ¬ (q1 : Int) ≤ (d : Int) := by omega
                have hd2 : (d : Int) < (q1 : Int) := by omega
                have hd0 : (0 : Int) ≤ (d : Int) := by omega
                have hdd : decide ((q1 : Int) ≤ (d : Int)) = false := decide_eq_false hd1
                clear h_x h_r h_v h_at hmay hdt hrt hv2 hct HGJ
                go_wp2_with fail
                obtain ⟨S, hS0⟩ : ∃ S : World → Prop, S = fun w' => Keep noBlk wr w' := ⟨_, rfl⟩
                have HSE := Lib.hid (show ∀ w', S w' → Keep noBlk wr w' from fun w' h => by rw [hS0] at h; exact h)
                have HSI := Lib.hid (show ∀ w', Keep noBlk wr w' → S w' from fun w' h => by rw [hS0]; exact h)
                have hS : S wr.drew := by rw [hS0]; exact (Keep.refl _ _).drew
                clear hS0
                refine wp_region_held (S := S) (by kernel_rfl) ?_
                change wpAnyH _ _ _ _ _ _ _ _ wr.drew
                generalize wr.drew = wq42 at hS ⊢
                refine wpAnyH_take (i := 0) (v := .slice (some ⟨gb, go, none⟩) gl gc) rfl (by kernel_rfl) (by kernel_rfl) (by kernel_rfl) (fun _ _ _ h => h) (.inl ⟨by rfl, fun _ _ => rfl⟩) hS ?_
                simp only [Act.put, List.setIfInBounds_toArray, List.set_cons_zero, List.set_cons_succ, List.getElem_toArray, List.getElem_cons_zero]
                refine wpAnyH_take (i := 1) (v := .int .i64 (j : Int)) rfl (by kernel_rfl) (by kernel_rfl) (by kernel_rfl) (fun _ _ _ h => h) (.inl ⟨by rfl, fun _ _ => rfl⟩) hS ?_
                simp only [Act.put, List.setIfInBounds_toArray, List.set_cons_zero, List.set_cons_succ, List.getElem_toArray, List.getElem_cons_succ, List.getElem_cons_zero]
                refine wpAnyH_take (i := 2) (v := .pointer (some ⟨gb, go + j * 2, none⟩)) rfl (by kernel_rfl) (by kernel_rfl) (by kernel_rfl) (fun _ _ _ h => h) (.inl ⟨by rfl, fun _ _ => by go_simp⟩) hS ?_
                simp only [Act.put, List.setIfInBounds_toArray, List.set_cons_zero, List.set_cons_succ, List.getElem_toArray, List.getElem_cons_succ, List.getElem_cons_zero]
                refine wpAnyH_take (i := 3) (v := .agg ((adCs ⟨(d : Int), (t : Int)⟩)).toArray) rfl (by kernel_rfl) (by kernel_rfl) (by kernel_rfl) (fun _ _ _ h => h) (yieldsIf_load_mid (by rfl) 50 (.tmp 91) rfl (gb) (go + j * 2) rfl ((adCs ⟨(d : Int), (t : Int)⟩)) _ (fun w' h => (HSE.out w' h).rangeAt HX0.out) adUnder rfl sizeAd) hS ?_
                simp only [Act.put, List.setIfInBounds_toArray, List.set_cons_zero, List.set_cons_succ, List.getElem_toArray, List.getElem_cons_succ, List.getElem_cons_zero]
                refine wpAnyH_take (i := 4) (v := .int .i64 (D : Int)) rfl (by kernel_rfl) (by kernel_rfl) (by kernel_rfl) (fun _ _ _ h => h) (.inl ⟨by rfl, fun _ _ => rfl⟩) hS ?_
                simp only [Act.put, List.setIfInBounds_toArray, List.set_cons_zero, List.set_cons_succ, List.getElem_toArray, List.getElem_cons_succ, List.getElem_cons_zero]
                refine wpAnyH_take (i := 5) (v := .int .i64 (Z : Int)) rfl (by kernel_rfl) (by kernel_rfl) (by kernel_rfl) (fun _ _ _ h => h) (.inl ⟨by rfl, fun _ _ => rfl⟩) hS ?_
                simp only [Act.put, List.setIfInBounds_toArray, List.set_cons_zero, List.set_cons_succ, List.getElem_toArray, List.getElem_cons_succ, List.getElem_cons_zero]
                refine wpAnyH_one (k := 6) rfl (by kernel_rfl) ?_
                go_wp2_with fail
                refine (yes_of (may_any ⟨(d : Int), (t : Int)⟩ (D : Int) (Z : Int) wq42) HMAY.out).mono ?_
                rintro e wq43 ⟨rfl, hk⟩
                have hS1 := HSI.out _ ((HSE.out _ hS).trans hk)
                clear hS hk
                go_wp2_with fail
                refine ⟨hS1, ?_⟩
                refine wpAnyH_take (i := 7) (v := .bool false) rfl (by kernel_rfl) (by kernel_rfl) (by kernel_rfl) (fun _ _ _ h => h) (.inl ⟨by rfl, fun _ _ => by go_simp⟩) hS1 ?_
                simp only [Act.put, List.setIfInBounds_toArray, List.set_cons_zero, List.set_cons_succ, List.getElem_toArray, List.getElem_cons_succ, List.getElem_cons_zero]
                refine wpAnyH_take (i := 8) (v := .bool false) rfl (by kernel_rfl) (by kernel_rfl) (by kernel_rfl) (fun _ _ _ h => h) (.inl ⟨by rfl, fun _ _ => rfl⟩) hS1 ?_
                simp only [Act.put, List.setIfInBounds_toArray, List.set_cons_zero, List.set_cons_succ, List.getElem_toArray, List.getElem_cons_succ, List.getElem_cons_zero]
                refine wpAnyH_take (i := 9) (v := .slice (some ⟨gb, go, none⟩) gl gc) rfl (by kernel_rfl) (by kernel_rfl) (by kernel_rfl) (fun _ _ _ h => h) (.inl ⟨by rfl, fun _ _ => rfl⟩) hS1 ?_
                simp only [Act.put, List.setIfInBounds_toArray, List.set_cons_zero, List.set_cons_succ, List.getElem_toArray, List.getElem_cons_succ, List.getElem_cons_zero]
                refine wpAnyH_take (i := 10) (v := .int .i64 (j : Int)) rfl (by kernel_rfl) (by kernel_rfl) (by kernel_rfl) (fun _ _ _ h => h) (.inl ⟨by rfl, fun _ _ => rfl⟩) hS1 ?_
                simp only [Act.put, List.setIfInBounds_toArray, List.set_cons_zero, List.set_cons_succ, List.getElem_toArray, List.getElem_cons_succ, List.getElem_cons_zero]
                refine wpAnyH_take (i := 11) (v := .pointer (some ⟨gb, go + j * 2, none⟩)) rfl (by kernel_rfl) (by kernel_rfl) (by kernel_rfl) (fun _ _ _ h => h) (.inl ⟨by rfl, fun _ _ => by go_simp⟩) hS1 ?_
                simp only [Act.put, List.setIfInBounds_toArray, List.set_cons_zero, List.set_cons_succ, List.getElem_toArray, List.getElem_cons_succ, List.getElem_cons_zero]
                refine wpAnyH_take (i := 12) (v := .pointer (some ⟨gb, go + j * 2, none⟩)) rfl (by kernel_rfl) (by kernel_rfl) (by kernel_rfl) (fun _ _ _ h => h) (.inl ⟨by rfl, fun _ _ => by go_simp⟩) hS1 ?_
                simp only [Act.put, List.setIfInBounds_toArray, List.set_cons_zero, List.set_cons_succ, List.getElem_toArray, List.getElem_cons_succ, List.getElem_cons_zero]
                refine wpAnyH_take (i := 13) (v := .int .i64 (d : Int)) rfl (by kernel_rfl) (by kernel_rfl) (by kernel_rfl) (fun _ _ _ h => h) (.inl ⟨by rfl, fun w' hw' => by have c := (HSE.out w' hw').cell HC0.out id; go_simp⟩) hS1 ?_
                simp only [Act.put, List.setIfInBounds_toArray, List.set_cons_zero, List.set_cons_succ, List.getElem_toArray, List.getElem_cons_succ, List.getElem_cons_zero]
                refine wpAnyH_take (i := 14) (v := .pointer (some ⟨xb, 3, none⟩)) rfl (by kernel_rfl) (by kernel_rfl) (by kernel_rfl) (fun _ _ _ h => h) (.inl ⟨by rfl, fun _ _ => by go_simp⟩) hS1 ?_
                simp only [Act.put, List.setIfInBounds_toArray, List.set_cons_zero, List.set_cons_succ, List.getElem_toArray, List.getElem_cons_succ, List.getElem_cons_zero]
                refine wpAnyH_take (i := 15) (v := .slice (some ⟨tb, to, none⟩) q1 xc) rfl (by kernel_rfl) (by kernel_rfl) (by kernel_rfl) (fun _ _ _ h => h) (.inl ⟨by rfl, fun w' hw' => by have c := (HSE.out w' hw').cell HCT.out id; go_simp⟩) hS1 ?_
                simp only [Act.put, List.setIfInBounds_toArray, List.set_cons_zero, List.set_cons_succ, List.getElem_toArray, List.getElem_cons_succ, List.getElem_cons_zero]
                refine wpAnyH_take (i := 16) (v := .int .i64 q1) rfl (by kernel_rfl) (by kernel_rfl) (by kernel_rfl) (fun _ _ _ h => h) (.inl ⟨by rfl, fun _ _ => by go_simp⟩) hS1 ?_
                simp only [Act.put, List.setIfInBounds_toArray, List.set_cons_zero, List.set_cons_succ, List.getElem_toArray, List.getElem_cons_succ, List.getElem_cons_zero]
                refine wpAnyH_take (i := 17) (v := .bool false) rfl (by kernel_rfl) (by kernel_rfl) (by kernel_rfl) (fun _ _ _ h => h) (.inl ⟨by rfl, fun _ _ => by go_simp⟩) hS1 ?_
                simp only [Act.put, List.setIfInBounds_toArray, List.set_cons_zero, List.set_cons_succ, List.getElem_toArray, List.getElem_cons_succ, List.getElem_cons_zero]
                refine wpAnyH_take (i := 18) (v := .bool false) rfl (by kernel_rfl) (by kernel_rfl) (by kernel_rfl) (fun _ _ _ h => h) (.inl ⟨by rfl, fun _ _ => rfl⟩) hS1 ?_
                simp only [Act.put, List.setIfInBounds_toArray, List.set_cons_zero, List.set_cons_succ, List.getElem_toArray, List.getElem_cons_succ, List.getElem_cons_zero]
                refine wpAnyH_take (i := 19) (v := .bool false) rfl (by kernel_rfl) (by kernel_rfl) (by kernel_rfl) (fun _ _ _ h => h) (.inl ⟨by rfl, fun _ _ => rfl⟩) hS1 ?_
                simp only [Act.put, List.setIfInBounds_toArray, List.set_cons_zero, List.set_cons_succ, List.getElem_toArray, List.getElem_cons_succ, List.getElem_cons_zero]
                refine wpAnyH_take (i := 20) (v := .pointer (some ⟨xb, 3, none⟩)) rfl (by kernel_rfl) (by kernel_rfl) (by kernel_rfl) (fun _ _ _ h => h) (.inl ⟨by rfl, fun _ _ => by go_simp⟩) hS1 ?_
                simp only [Act.put, List.setIfInBounds_toArray, List.set_cons_zero, List.set_cons_succ, List.getElem_toArray, List.getElem_cons_succ, List.getElem_cons_zero]
                refine wpAnyH_take (i := 21) (v := .slice (some ⟨tb, to, none⟩) q1 xc) rfl (by kernel_rfl) (by kernel_rfl) (by kernel_rfl) (fun _ _ _ h => h) (.inl ⟨by rfl, fun w' hw' => by have c := (HSE.out w' hw').cell HCT.out id; go_simp⟩) hS1 ?_
                simp only [Act.put, List.setIfInBounds_toArray, List.set_cons_zero, List.set_cons_succ, List.getElem_toArray, List.getElem_cons_succ, List.getElem_cons_zero]
                refine wpAnyH_take (i := 22) (v := .slice (some ⟨gb, go, none⟩) gl gc) rfl (by kernel_rfl) (by kernel_rfl) (by kernel_rfl) (fun _ _ _ h => h) (.inl ⟨by rfl, fun _ _ => rfl⟩) hS1 ?_
                simp only [Act.put, List.setIfInBounds_toArray, List.set_cons_zero, List.set_cons_succ, List.getElem_toArray, List.getElem_cons_succ, List.getElem_cons_zero]
                refine wpAnyH_take (i := 23) (v := .int .i64 (j : Int)) rfl (by kernel_rfl) (by kernel_rfl) (by kernel_rfl) (fun _ _ _ h => h) (.inl ⟨by rfl, fun _ _ => rfl⟩) hS1 ?_
                simp only [Act.put, List.setIfInBounds_toArray, List.set_cons_zero, List.set_cons_succ, List.getElem_toArray, List.getElem_cons_succ, List.getElem_cons_zero]
                refine wpAnyH_take (i := 24) (v := .pointer (some ⟨gb, go + j * 2, none⟩)) rfl (by kernel_rfl) (by kernel_rfl) (by kernel_rfl) (fun _ _ _ h => h) (.inl ⟨by rfl, fun _ _ => by go_simp⟩) hS1 ?_
                simp only [Act.put, List.setIfInBounds_toArray, List.set_cons_zero, List.set_cons_succ, List.getElem_toArray, List.getElem_cons_succ, List.getElem_cons_zero]
                refine wpAnyH_take (i := 25) (v := .pointer (some ⟨gb, go + j * 2, none⟩)) rfl (by kernel_rfl) (by kernel_rfl) (by kernel_rfl) (fun _ _ _ h => h) (.inl ⟨by rfl, fun _ _ => by go_simp⟩) hS1 ?_
                simp only [Act.put, List.setIfInBounds_toArray, List.set_cons_zero, List.set_cons_succ, List.getElem_toArray, List.getElem_cons_succ, List.getElem_cons_zero]
                refine wpAnyH_take (i := 26) (v := .int .i64 (d : Int)) rfl (by kernel_rfl) (by kernel_rfl) (by kernel_rfl) (fun _ _ _ h => h) (.inl ⟨by rfl, fun w' hw' => by have c := (HSE.out w' hw').cell HC0.out id; go_simp⟩) hS1 ?_
                simp only [Act.put, List.setIfInBounds_toArray, List.set_cons_zero, List.set_cons_succ, List.getElem_toArray, List.getElem_cons_succ, List.getElem_cons_zero]
                refine wpAnyH_take (i := 27) (v := .pointer (some ⟨tb, to + d, none⟩)) rfl (by kernel_rfl) (by kernel_rfl) (by kernel_rfl) (fun _ _ _ h => h) (.inl ⟨by rfl, fun _ _ => by go_simp⟩) hS1 ?_
                simp only [Act.put, List.setIfInBounds_toArray, List.set_cons_zero, List.set_cons_succ, List.getElem_toArray, List.getElem_cons_succ, List.getElem_cons_zero]
                refine wpAnyH_take (i := 28) (v := .bool true) rfl (by kernel_rfl) (by kernel_rfl) (by kernel_rfl) (fun _ _ _ h => h) (.inl ⟨by rfl, fun w' hw' => by have c := (HSE.out w' hw').cell HCB.out id; go_simp⟩) hS1 ?_
                simp only [Act.put, List.setIfInBounds_toArray, List.set_cons_zero, List.set_cons_succ, List.getElem_toArray, List.getElem_cons_succ, List.getElem_cons_zero]
                refine wpAnyH_take (i := 29) (v := .bool false) rfl (by kernel_rfl) (by kernel_rfl) (by kernel_rfl) (fun _ _ _ h => h) (.inl ⟨by rfl, fun _ _ => by go_simp⟩) hS1 ?_
                simp only [Act.put, List.setIfInBounds_toArray, List.set_cons_zero, List.set_cons_succ, List.getElem_toArray, List.getElem_cons_succ, List.getElem_cons_zero]
                refine wpAnyH_take (i := 30) (v := .bool false) rfl (by kernel_rfl) (by kernel_rfl) (by kernel_rfl) (fun _ _ _ h => h) (.inl ⟨by rfl, fun _ _ => rfl⟩) hS1 ?_
                simp only [Act.put, List.setIfInBounds_toArray, List.set_cons_zero, List.set_cons_succ, List.getElem_toArray, List.getElem_cons_succ, List.getElem_cons_zero]
                refine wpAnyH_done (by kernel_rfl) ?_ _
                have HKR := Lib.hid (HSE.out _ hS1)
                clear hS1 HSE HSI
                have HKJ := Lib.hid (HKJ.out.trans HKR.out)
                clear HKR
                go_wp2_with fail
                go_roundw
                case rel => exact ⟨j + 1, by omega, by go_num, HKJ⟩
                case measure => simp [intOf]; omega
              · obtain rfl : gl = j := by omega
                have hk := HKJ.out
                have HL6 := Lib.hid (HL6.out.keep0 hk); have HG6 := Lib.hid (HG6.out.keep hk fun _ _ => id); have HK6 := Lib.hid (HK6.out.trans hk); have HOC6 := Lib.hid (hk.owns HOC6.out fun _ _ => id)
                clear hk HKJ HCT HRT6
                go_wp2_with fail
                refine (union_any _ _ _ C gg HCA.out HGA.out (by rw [HCL.out]; exact Rd.of_owns HOC6.out) (by rw [HGL.out]; exact HG6.out) (by rw [HCL.out, HGL.out]; omega)).mono ?_
                rintro e7 w9 ⟨v, rfl, ho7, hk7⟩
                have HCP7 : Hid (∀ y ∈ canon (C ++ gg), PlaceIn y D Z) := Lib.hid (fun y hy => (List.mem_append.1 (mem_canon.1 hy)).elim (HCP.out y) (fun h => (mayB_in hbd).1 (HGP.out y h).1))
                have HL7 : Hid (LedIs w9 lo a b c D Z (canon (C ++ gg))) := Lib.hid ((HL6.out.keep0 hk7).congr fun y => mem_canon.symm)
                have HCR7 := Lib.hid (canon_rises (C ++ gg))
                have HK7 := Lib.hid (HK6.out.trans hk7)
                have hm7 : (canon (C ++ gg)).length ≤ 320 := by
                  have h1 := sum_free (rises_nodup' HCR7.out) HCP7.out (show 5 ≤ Z by omega)
                  have h2 : D * (Z - 5) ≤ 8 * 35 := Nat.mul_le_mul hbd.2.1 (by omega)
                  omega
                have HNO7 : Hid (∀ i, v.ownBlock = some i → ¬ Own a b c D i) := Lib.hid (fun i hi ho => by
                  have h1 := owns_base ho7 hi
                  have h2 := (HL6.out.own_lt ho).2
                  omega)
                clear HL6 HK6 HOC6 HCA
                try clear HNO6
                try clear HRL6
                obtain ⟨C', hC'⟩ : ∃ C', canon (C ++ gg) = C' := ⟨_, rfl⟩
                rw [hC'] at HCP7 HCR7 HL7 hm7 ho7
                clear HCP HCR hC'
                obtain ⟨m', hm'⟩ : ∃ m', C'.length = m' := ⟨_, rfl⟩
                have HCL' := Lib.hid hm'
                rw [hm'] at hm7 ho7
                obtain ⟨ua', uc', rfl, -, -⟩ := (Rd.of_owns ho7).form
                have HOC7 := Lib.hid ho7
                clear HCL hm ho7 hk7 hm'
                have HCP := HCP7; have HCR := HCR7; have HLD := HL7; have HK := HK7; have HNO := HNO7; have HOC := HOC7; have HCL := HCL'; have hm := hm7
                clear HCP7 HCR7 HL7 HK7 HNO7 HOC7 HCL' hm7
                go_wp2_with fail
                have hty := Lib.hid (show freeS C' D Z + m' = D * (Z - 5) by have h := sum_free (rises_nodup' HCR.out) HCP.out (show 5 ≤ Z by omega); rw [HCL.out] at h; exact h)
                refine (told_of (ledUsed_any _ lo a b D Z c C' HLD.out) ((usedAll_canon HCP.out).trans (canon_of_rises HCR.out))).mono ?_
                rintro e9 w9 ⟨v, rfl, hov, hk9⟩
                rw [HCL.out] at hov
                obtain ⟨va, vc, rfl, -, -⟩ := (Rd.of_owns hov).form
                have HUS := Lib.hid (Rd.of_owns hov); have HK := Lib.hid (HK.out.trans hk9); have HLD := Lib.hid (HLD.out.keep0 hk9); have HOC := Lib.hid (hk9.owns HOC.out fun _ _ => id)
                clear hov hk9
                go_wp2_with fail
                refine (same_any _ _ _ C' C' (by rw [HCL.out]; exact HUS.out) (by rw [HCL.out]; exact Rd.of_owns HOC.out) true (decide_eq_true rfl)).mono ?_
                rintro e10 w10 ⟨rfl, hk10⟩
                have HK := Lib.hid (HK.out.trans hk10); have HLD := Lib.hid (HLD.out.keep0 hk10); have HOC := Lib.hid (hk10.owns HOC.out fun _ _ => id)
                clear hk10 HUS
                go_wp2_with fail
                have HT := total_any _ lo a b D Z c C' HLD.out
                obtain ⟨tt, htt⟩ : ∃ t, freeS C' D Z = t := ⟨_, rfl⟩
                rw [htt] at HT hty
                have HT := Lib.hid HT
                clear htt
                refine HT.out.mono ?_
                rintro e11 w11 ⟨rfl, hk11⟩
                have HK := Lib.hid (HK.out.trans hk11); have HLD := Lib.hid (HLD.out.keep0 hk11); have HOC := Lib.hid (hk11.owns HOC.out fun _ _ => id)
                clear hk11 HT
                obtain ⟨y5, hy5⟩ : ∃ y : Nat, (Z : Int) - 5 = (y : Int) := ⟨Z - 5, by omega⟩
                obtain ⟨dy, hdy⟩ : ∃ x, D * y5 = x := ⟨_, rfl⟩
                have hdyb : dy ≤ 280 := by rw [← hdy]; exact Nat.le_trans (Nat.mul_le_mul hbd.2.1 (show y5 ≤ 35 by omega)) (by decide)
                have hdyi : (D : Int) * (y5 : Int) = (dy : Int) := by rw [← hdy]; exact (Int.natCast_mul D y5).symm
                have hsum : tt + m' = dy := by rw [← hdy, show y5 = Z - 5 by omega]; exact hty.out
                have hfin : (dy : Int) - (m' : Int) = (tt : Int) := by omega
                have hwy5 : IntKind.i64.wrap (y5 : Int) = (y5 : Int) := by rw [IntWalk.i64_in _ (by omega)]
                have hwdy : IntKind.i64.wrap (dy : Int) = (dy : Int) := by rw [IntWalk.i64_in _ (by omega)]
                have hwtt : IntKind.i64.wrap (tt : Int) = (tt : Int) := by rw [IntWalk.i64_in _ (by omega)]
                clear hdy hsum hty
                go_wp2_with fail
                go_roundw
                case rel => exact ⟨k + 1, m', C', ua', uc', _, c, by omega, hm, rfl, by go_num, HCL, HCR, HCP, HLD, HOC, HNO, HK⟩
                case measure => simp [intOf]; omega
          · by_cases ek3 : kd = 3
            · as_aux_lemma =>
                subst ek3
                go_wp2_with (first
                  | ((with_reducible show wpList _ _ _ (⟨_, .load 41 (.tmp 48), _, _, _, _⟩ :: _) _ _); refine wpList_load_mid rfl 41 (.tmp 48) rfl gl (ol + k * 5) rfl (actCs x) _ HX.out actUnder rfl sizeAct ?_)
                  | ((with_reducible show wpList _ _ _ (⟨some 12, .alloc 41, _, _, _, _⟩ :: _) _ _); refine wpList_alloc_at rfl 41 rfl zeroAct zeroActV #[.int .i64 0, .int .i64 0, .int .i64 0, .slice none 0 0, .slice none 0 0] rfl ?_)
                  | ((with_reducible show wpList _ _ _ (⟨none, .store 41 (.tmp 12) (.tmp 49), _, _, _, _⟩ :: _) _ _); refine wpList_store_agg rfl 41 (.tmp 12) (.tmp 49) rfl wr.heap.size 0 (actCs x) rfl rfl #[.int .i64 0, .int .i64 0, .int .i64 0, .slice none 0 0, .slice none 0 0] 41 (heap_alloc_new _ _) (Nat.le_refl _) sizeAct HON.out ?_
                     intro w3 hb3 hk3
                     rw [spl_whole _ _ (by rfl)] at hb3
                     have hk4 : Keep noBlk wr w3 := ((Keep.refl noBlk wr).alloc _).trans' hk3 (fun _ _ h => h) (fun i hi e => by omega)
                     have HB3 := Lib.hid hb3; have HK3 := Lib.hid hk4
                     have hcK : w3.cell? ⟨wr.heap.size, 0, none⟩ = some (.int .i64 x.kind) := blk_cell hb3 rfl
                     have hcC : w3.cell? ⟨wr.heap.size, 1, none⟩ = some (.int .i64 x.copies) := blk_cell hb3 rfl
                     have hcB : w3.cell? ⟨wr.heap.size, 2, none⟩ = some (.int .i64 x.back) := blk_cell hb3 rfl
                     have hcT : w3.cell? ⟨wr.heap.size, 3, none⟩ = some x.vt := blk_cell hb3 rfl
                     have hcL : w3.cell? ⟨wr.heap.size, 4, none⟩ = some x.vl := blk_cell hb3 rfl
                     rw [HKD.out] at hcK
                     rw [HXC.out] at hcC
                     rw [HXB.out] at hcB
                     rw [HE2.out] at hcT
                     rw [HE3.out] at hcL
                     have HLD := Lib.hid (HLD.out.keep0 hk4); have HOC := Lib.hid (hk4.owns HOC.out fun _ _ => id); have HK := Lib.hid (HK.out.trans hk4)
                     clear hb3 hk3 hk4))
                have hxa := HXA.out.keep HK.out
                have hrl := hxa.2.2.2.2.2
                rw [HE3.out] at hrl
                have hfar : 0 < x.l.length → ∀ i, (Value.slice ya q2 yc).ownBlock = some i → i ≠ b := fun h0 i hi e => by
                  have h1 := HXA.out.2.2.2.2.2
                  rw [HE3.out] at h1
                  obtain ⟨j, h2, h3⟩ := h1.lt (by rw [adCells_len]; omega)
                  rw [hi] at h2
                  cases h2
                  have := HLD.out.lo.2.1
                  omega
                have HC := Lib.hid (mark_far w3 lo a b D Z c C HLD.out (.slice ya q2 yc) x.l hrl hfar)
                have HRL := Lib.hid hrl
                obtain ⟨okt, hokt⟩ : ∃ b, okT C x.l false D Z = b := ⟨_, rfl⟩
                have HOT := Lib.hid hokt
                have hbX : b < wr.heap.size := HBX.out
                clear hxa hrl hfar hokt
                refine HC.out.mono ?_
                intro e6 w6 hpost
                unfold TurnsPost at hpost
                rw [HOT.out] at hpost
                clear HC
                cases okt
                · rw [if_neg (by decide)] at hpost
                  obtain ⟨rfl, hk6⟩ := hpost
                  have HLD := Lib.hid (HLD.out.keep0 hk6); have HOC := Lib.hid (hk6.owns HOC.out fun _ _ => id); have HK := Lib.hid (HK.out.trans hk6)
                  clear hk6 hcK hcC hcB hcT hcL
                  go_wp2_with fail
                  have hty := Lib.hid (show freeS C D Z + m = D * (Z - 5) by have h := sum_free (rises_nodup' HCR.out) HCP.out (show 5 ≤ Z by omega); rw [HCL.out] at h; exact h)
                  refine (told_of (ledUsed_any _ lo a b D Z c C HLD.out) ((usedAll_canon HCP.out).trans (canon_of_rises HCR.out))).mono ?_
                  rintro e9 w9 ⟨v, rfl, hov, hk9⟩
                  rw [HCL.out] at hov
                  obtain ⟨va, vc, rfl, -, -⟩ := (Rd.of_owns hov).form
                  have HUS := Lib.hid (Rd.of_owns hov); have HK := Lib.hid (HK.out.trans hk9); have HLD := Lib.hid (HLD.out.keep0 hk9); have HOC := Lib.hid (hk9.owns HOC.out fun _ _ => id)
                  clear hov hk9
                  go_wp2_with fail
                  refine (same_any _ _ _ C C (by rw [HCL.out]; exact HUS.out) (by rw [HCL.out]; exact Rd.of_owns HOC.out) true (decide_eq_true rfl)).mono ?_
                  rintro e10 w10 ⟨rfl, hk10⟩
                  have HK := Lib.hid (HK.out.trans hk10); have HLD := Lib.hid (HLD.out.keep0 hk10); have HOC := Lib.hid (hk10.owns HOC.out fun _ _ => id)
                  clear hk10 HUS
                  go_wp2_with fail
                  have HT := total_any _ lo a b D Z c C HLD.out
                  obtain ⟨tt, htt⟩ : ∃ t, freeS C D Z = t := ⟨_, rfl⟩
                  rw [htt] at HT hty
                  have HT := Lib.hid HT
                  clear htt
                  refine HT.out.mono ?_
                  rintro e11 w11 ⟨rfl, hk11⟩
                  have HK := Lib.hid (HK.out.trans hk11); have HLD := Lib.hid (HLD.out.keep0 hk11); have HOC := Lib.hid (hk11.owns HOC.out fun _ _ => id)
                  clear hk11 HT
                  obtain ⟨y5, hy5⟩ : ∃ y : Nat, (Z : Int) - 5 = (y : Int) := ⟨Z - 5, by omega⟩
                  obtain ⟨dy, hdy⟩ : ∃ x, D * y5 = x := ⟨_, rfl⟩
                  have hdyb : dy ≤ 280 := by rw [← hdy]; exact Nat.le_trans (Nat.mul_le_mul hbd.2.1 (show y5 ≤ 35 by omega)) (by decide)
                  have hdyi : (D : Int) * (y5 : Int) = (dy : Int) := by rw [← hdy]; exact (Int.natCast_mul D y5).symm
                  have hsum : tt + m = dy := by rw [← hdy, show y5 = Z - 5 by omega]; exact hty.out
                  have hfin : (dy : Int) - (m : Int) = (tt : Int) := by omega
                  have hwy5 : IntKind.i64.wrap (y5 : Int) = (y5 : Int) := by rw [IntWalk.i64_in _ (by omega)]
                  have hwdy : IntKind.i64.wrap (dy : Int) = (dy : Int) := by rw [IntWalk.i64_in _ (by omega)]
                  have hwtt : IntKind.i64.wrap (tt : Int) = (tt : Int) := by rw [IntWalk.i64_in _ (by omega)]
                  clear hdy hsum hty
                  go_wp2_with fail
                  go_roundw
                  case rel => exact ⟨k + 1, m, C, ua, uc, base, c, by omega, hm, rfl, by go_num, HCL, HCR, HCP, HLD, HOC, HNO, HK⟩
                  case measure => simp [intOf]; omega
                · rw [if_pos rfl] at hpost
                  obtain ⟨rfl, c2, h1, h2, h3⟩ := hpost
                  have hnb : ∀ i, (Value.slice ua m uc).ownBlock = some i → i ≠ b := fun i hi e => HNO.out i hi (.inr (.inl e))
                  have HOC6 := Lib.hid (h3.owns HOC.out hnb)
                  have HNO6 : Hid (∀ i, (Value.slice ua m uc).ownBlock = some i → ¬ Own a b c2 D i) := Lib.hid (fun i hi ho => by
                    rcases ho with e | e | ⟨d, hd, hc⟩
                    · exact HNO.out i hi (.inl e)
                    · exact HNO.out i hi (.inr (.inl e))
                    · have g1 := h2 d i hd hc
                      have g2 := (HOC.out.lt i hi).2
                      omega)
                  have hcL := h3.cell hcL (by omega)
                  have hlob := HLD.out.lo.2.1
                  have HK6 := Lib.hid (HK.out.trans' h3 (U := noBlk) (fun _ _ h => h) (fun i hi e => by omega))
                  have HRL6 : Hid (Rd w6 2 (.slice ya q2 yc) x.l.length (adCells x.l)) := Lib.hid (by
                    have h := (HXA.out.keep HK6.out).2.2.2.2.2
                    rwa [HE3.out] at h)
                  have HL6 := Lib.hid h1
                  have HCA : Hid (AdsOk C) := Lib.hid (fun y hy => by
                    obtain ⟨h1, h2, h3, h4⟩ := HCP.out y hy
                    exact ⟨⟨by omega, by omega⟩, by omega, by omega⟩)
                  clear h1 h2 h3 hnb hcK hcC hcB hcT HLD HOC HNO HK
                  go_wp2_with fail
                  refine (union_any w6 _ _ C x.l HCA.out HXA.out.2.2.2.2.1 (by rw [HCL.out]; exact Rd.of_owns HOC6.out) (by have h := HRL6.out; rw [HQ2.out] at h ⊢; exact h) (by have := HXL.out.2; rw [HCL.out]; omega)).mono ?_
                  rintro e7 w7 ⟨v, rfl, ho7, hk7⟩
                  have HPX : Hid (∀ y ∈ x.l, PlaceIn y D Z) := Lib.hid (fun y hy => by
                    have h1 := HOT.out
                    unfold okT at h1
                    rw [Bool.and_eq_true, List.all_eq_true] at h1
                    have h2 := h1.1 y hy
                    rw [Bool.and_eq_true] at h2
                    exact (mayB_in hbd).1 h2.1)
                  have HCP7 : Hid (∀ y ∈ canon (C ++ x.l), PlaceIn y D Z) := Lib.hid (fun y hy => by
                    have h1 := List.mem_append.1 (mem_canon.1 hy)
                    exact h1.elim (HCP.out y) (HPX.out y))
                  have HCR7 := Lib.hid (canon_rises (C ++ x.l))
                  have HL7 : Hid (LedIs w7 lo a b c2 D Z (canon (C ++ x.l))) := Lib.hid ((HL6.out.keep0 hk7).congr fun y => by
                    rw [mem_turnL, mem_canon, List.mem_append]
                    simp)
                  have HK7 := Lib.hid (HK6.out.trans hk7)
                  have hm7 : (canon (C ++ x.l)).length ≤ 320 := by
                    have h1 := sum_free (rises_nodup' HCR7.out) HCP7.out (show 5 ≤ Z by omega)
                    have h2 : D * (Z - 5) ≤ 8 * 35 := Nat.mul_le_mul hbd.2.1 (by omega)
                    omega
                  have HNO7 : Hid (∀ i, v.ownBlock = some i → ¬ Own a b c2 D i) := Lib.hid (fun i hi ho => by
                    have h1 := owns_base ho7 hi
                    have h2 := (HL6.out.own_lt ho).2
                    omega)
                  clear HL6 HK6 HOC6 HNO6 HRL6 HCA
                  obtain ⟨C', hC'⟩ : ∃ C', canon (C ++ x.l) = C' := ⟨_, rfl⟩
                  rw [hC'] at HCP7 HCR7 HL7 hm7 ho7
                  clear HCP HCR hC'
                  obtain ⟨m', hm'⟩ : ∃ m', C'.length = m' := ⟨_, rfl⟩
                  have HCL' := Lib.hid hm'
                  rw [hm'] at hm7 ho7
                  obtain ⟨ua', uc', rfl, -, -⟩ := (Rd.of_owns ho7).form
                  have HOC7 := Lib.hid ho7
                  clear HCL hm ho7 hk7 hm'
                  have HCP := HCP7; have HCR := HCR7; have HLD := HL7; have HK := HK7; have HNO := HNO7; have HOC := HOC7; have HCL := HCL'; have hm := hm7
                  clear HCP7 HCR7 HL7 HK7 HNO7 HOC7 HCL' hm7
                  go_wp2_with fail
                  have hty := Lib.hid (show freeS C' D Z + m' = D * (Z - 5) by have h := sum_free (rises_nodup' HCR.out) HCP.out (show 5 ≤ Z by omega); rw [HCL.out] at h; exact h)
                  refine (told_of (ledUsed_any _ lo a b D Z c2 C' HLD.out) ((usedAll_canon HCP.out).trans (canon_of_rises HCR.out))).mono ?_
                  rintro e9 w9 ⟨v, rfl, hov, hk9⟩
                  rw [HCL.out] at hov
                  obtain ⟨va, vc, rfl, -, -⟩ := (Rd.of_owns hov).form
                  have HUS := Lib.hid (Rd.of_owns hov); have HK := Lib.hid (HK.out.trans hk9); have HLD := Lib.hid (HLD.out.keep0 hk9); have HOC := Lib.hid (hk9.owns HOC.out fun _ _ => id)
                  clear hov hk9
                  go_wp2_with fail
                  refine (same_any _ _ _ C' C' (by rw [HCL.out]; exact HUS.out) (by rw [HCL.out]; exact Rd.of_owns HOC.out) true (decide_eq_true rfl)).mono ?_
                  rintro e10 w10 ⟨rfl, hk10⟩
                  have HK := Lib.hid (HK.out.trans hk10); have HLD := Lib.hid (HLD.out.keep0 hk10); have HOC := Lib.hid (hk10.owns HOC.out fun _ _ => id)
                  clear hk10 HUS
                  go_wp2_with fail
                  have HT := total_any _ lo a b D Z c2 C' HLD.out
                  obtain ⟨tt, htt⟩ : ∃ t, freeS C' D Z = t := ⟨_, rfl⟩
                  rw [htt] at HT hty
                  have HT := Lib.hid HT
                  clear htt
                  refine HT.out.mono ?_
                  rintro e11 w11 ⟨rfl, hk11⟩
                  have HK := Lib.hid (HK.out.trans hk11); have HLD := Lib.hid (HLD.out.keep0 hk11); have HOC := Lib.hid (hk11.owns HOC.out fun _ _ => id)
                  clear hk11 HT
                  obtain ⟨y5, hy5⟩ : ∃ y : Nat, (Z : Int) - 5 = (y : Int) := ⟨Z - 5, by omega⟩
                  obtain ⟨dy, hdy⟩ : ∃ x, D * y5 = x := ⟨_, rfl⟩
                  have hdyb : dy ≤ 280 := by rw [← hdy]; exact Nat.le_trans (Nat.mul_le_mul hbd.2.1 (show y5 ≤ 35 by omega)) (by decide)
                  have hdyi : (D : Int) * (y5 : Int) = (dy : Int) := by rw [← hdy]; exact (Int.natCast_mul D y5).symm
                  have hsum : tt + m' = dy := by rw [← hdy, show y5 = Z - 5 by omega]; exact hty.out
                  have hfin : (dy : Int) - (m' : Int) = (tt : Int) := by omega
                  have hwy5 : IntKind.i64.wrap (y5 : Int) = (y5 : Int) := by rw [IntWalk.i64_in _ (by omega)]
                  have hwdy : IntKind.i64.wrap (dy : Int) = (dy : Int) := by rw [IntWalk.i64_in _ (by omega)]
                  have hwtt : IntKind.i64.wrap (tt : Int) = (tt : Int) := by rw [IntWalk.i64_in _ (by omega)]
                  clear hdy hsum hty
                  go_wp2_with fail
                  go_roundw
                  case rel => exact ⟨k + 1, m', C', ua', uc', _, c2, by omega, hm, rfl, by go_num, HCL, HCR, HCP, HLD, HOC, HNO, HK⟩
                  case measure => simp [intOf]; omega
            · by_cases ek4 : kd = 4
              · as_aux_lemma =>
                  subst ek4
                  go_wp2_with (first
                    | ((with_reducible show wpList _ _ _ (⟨_, .load 41 (.tmp 48), _, _, _, _⟩ :: _) _ _); refine wpList_load_mid rfl 41 (.tmp 48) rfl gl (ol + k * 5) rfl (actCs x) _ HX.out actUnder rfl sizeAct ?_)
                    | ((with_reducible show wpList _ _ _ (⟨some 12, .alloc 41, _, _, _, _⟩ :: _) _ _); refine wpList_alloc_at rfl 41 rfl zeroAct zeroActV #[.int .i64 0, .int .i64 0, .int .i64 0, .slice none 0 0, .slice none 0 0] rfl ?_)
                    | ((with_reducible show wpList _ _ _ (⟨none, .store 41 (.tmp 12) (.tmp 49), _, _, _, _⟩ :: _) _ _); refine wpList_store_agg rfl 41 (.tmp 12) (.tmp 49) rfl wr.heap.size 0 (actCs x) rfl rfl #[.int .i64 0, .int .i64 0, .int .i64 0, .slice none 0 0, .slice none 0 0] 41 (heap_alloc_new _ _) (Nat.le_refl _) sizeAct HON.out ?_
                       intro w3 hb3 hk3
                       rw [spl_whole _ _ (by rfl)] at hb3
                       have hk4 : Keep noBlk wr w3 := ((Keep.refl noBlk wr).alloc _).trans' hk3 (fun _ _ h => h) (fun i hi e => by omega)
                       have HB3 := Lib.hid hb3; have HK3 := Lib.hid hk4
                       have hcK : w3.cell? ⟨wr.heap.size, 0, none⟩ = some (.int .i64 x.kind) := blk_cell hb3 rfl
                       have hcC : w3.cell? ⟨wr.heap.size, 1, none⟩ = some (.int .i64 x.copies) := blk_cell hb3 rfl
                       have hcB : w3.cell? ⟨wr.heap.size, 2, none⟩ = some (.int .i64 x.back) := blk_cell hb3 rfl
                       have hcT : w3.cell? ⟨wr.heap.size, 3, none⟩ = some x.vt := blk_cell hb3 rfl
                       have hcL : w3.cell? ⟨wr.heap.size, 4, none⟩ = some x.vl := blk_cell hb3 rfl
                       rw [HKD.out] at hcK
                       rw [HXC.out] at hcC
                       rw [HXB.out] at hcB
                       rw [HE2.out] at hcT
                       rw [HE3.out] at hcL
                       have HLD := Lib.hid (HLD.out.keep0 hk4); have HOC := Lib.hid (hk4.owns HOC.out fun _ _ => id); have HK := Lib.hid (HK.out.trans hk4)
                       clear hb3 hk3 hk4))
                  have hxa := HXA.out.keep HK.out
                  have hrl := hxa.2.2.2.2.2
                  rw [HE3.out] at hrl
                  have hfar : 0 < x.l.length → ∀ i, (Value.slice ya q2 yc).ownBlock = some i → i ≠ b := fun h0 i hi e => by
                    have h1 := HXA.out.2.2.2.2.2
                    rw [HE3.out] at h1
                    obtain ⟨j, h2, h3⟩ := h1.lt (by rw [adCells_len]; omega)
                    rw [hi] at h2
                    cases h2
                    have := HLD.out.lo.2.1
                    omega
                  have HC := Lib.hid (release_far w3 lo a b D Z c C HLD.out (.slice ya q2 yc) x.l hrl hfar)
                  have HRL := Lib.hid hrl
                  obtain ⟨okt, hokt⟩ : ∃ b, okT C x.l true D Z = b := ⟨_, rfl⟩
                  have HOT := Lib.hid hokt
                  have hbX : b < wr.heap.size := HBX.out
                  clear hxa hrl hfar hokt
                  refine HC.out.mono ?_
                  intro e6 w6 hpost
                  unfold TurnsPost at hpost
                  rw [HOT.out] at hpost
                  clear HC
                  cases okt
                  · rw [if_neg (by decide)] at hpost
                    obtain ⟨rfl, hk6⟩ := hpost
                    have HLD := Lib.hid (HLD.out.keep0 hk6); have HOC := Lib.hid (hk6.owns HOC.out fun _ _ => id); have HK := Lib.hid (HK.out.trans hk6)
                    clear hk6 hcK hcC hcB hcT hcL
                    go_wp2_with fail
                    have hty := Lib.hid (show freeS C D Z + m = D * (Z - 5) by have h := sum_free (rises_nodup' HCR.out) HCP.out (show 5 ≤ Z by omega); rw [HCL.out] at h; exact h)
                    refine (told_of (ledUsed_any _ lo a b D Z c C HLD.out) ((usedAll_canon HCP.out).trans (canon_of_rises HCR.out))).mono ?_
                    rintro e9 w9 ⟨v, rfl, hov, hk9⟩
                    rw [HCL.out] at hov
                    obtain ⟨va, vc, rfl, -, -⟩ := (Rd.of_owns hov).form
                    have HUS := Lib.hid (Rd.of_owns hov); have HK := Lib.hid (HK.out.trans hk9); have HLD := Lib.hid (HLD.out.keep0 hk9); have HOC := Lib.hid (hk9.owns HOC.out fun _ _ => id)
                    clear hov hk9
                    go_wp2_with fail
                    refine (same_any _ _ _ C C (by rw [HCL.out]; exact HUS.out) (by rw [HCL.out]; exact Rd.of_owns HOC.out) true (decide_eq_true rfl)).mono ?_
                    rintro e10 w10 ⟨rfl, hk10⟩
                    have HK := Lib.hid (HK.out.trans hk10); have HLD := Lib.hid (HLD.out.keep0 hk10); have HOC := Lib.hid (hk10.owns HOC.out fun _ _ => id)
                    clear hk10 HUS
                    go_wp2_with fail
                    have HT := total_any _ lo a b D Z c C HLD.out
                    obtain ⟨tt, htt⟩ : ∃ t, freeS C D Z = t := ⟨_, rfl⟩
                    rw [htt] at HT hty
                    have HT := Lib.hid HT
                    clear htt
                    refine HT.out.mono ?_
                    rintro e11 w11 ⟨rfl, hk11⟩
                    have HK := Lib.hid (HK.out.trans hk11); have HLD := Lib.hid (HLD.out.keep0 hk11); have HOC := Lib.hid (hk11.owns HOC.out fun _ _ => id)
                    clear hk11 HT
                    obtain ⟨y5, hy5⟩ : ∃ y : Nat, (Z : Int) - 5 = (y : Int) := ⟨Z - 5, by omega⟩
                    obtain ⟨dy, hdy⟩ : ∃ x, D * y5 = x := ⟨_, rfl⟩
                    have hdyb : dy ≤ 280 := by rw [← hdy]; exact Nat.le_trans (Nat.mul_le_mul hbd.2.1 (show y5 ≤ 35 by omega)) (by decide)
                    have hdyi : (D : Int) * (y5 : Int) = (dy : Int) := by rw [← hdy]; exact (Int.natCast_mul D y5).symm
                    have hsum : tt + m = dy := by rw [← hdy, show y5 = Z - 5 by omega]; exact hty.out
                    have hfin : (dy : Int) - (m : Int) = (tt : Int) := by omega
                    have hwy5 : IntKind.i64.wrap (y5 : Int) = (y5 : Int) := by rw [IntWalk.i64_in _ (by omega)]
                    have hwdy : IntKind.i64.wrap (dy : Int) = (dy : Int) := by rw [IntWalk.i64_in _ (by omega)]
                    have hwtt : IntKind.i64.wrap (tt : Int) = (tt : Int) := by rw [IntWalk.i64_in _ (by omega)]
                    clear hdy hsum hty
                    go_wp2_with fail
                    go_roundw
                    case rel => exact ⟨k + 1, m, C, ua, uc, base, c, by omega, hm, rfl, by go_num, HCL, HCR, HCP, HLD, HOC, HNO, HK⟩
                    case measure => simp [intOf]; omega
                  · rw [if_pos rfl] at hpost
                    obtain ⟨rfl, c2, h1, h2, h3⟩ := hpost
                    have hnb : ∀ i, (Value.slice ua m uc).ownBlock = some i → i ≠ b := fun i hi e => HNO.out i hi (.inr (.inl e))
                    have HOC6 := Lib.hid (h3.owns HOC.out hnb)
                    have HNO6 : Hid (∀ i, (Value.slice ua m uc).ownBlock = some i → ¬ Own a b c2 D i) := Lib.hid (fun i hi ho => by
                      rcases ho with e | e | ⟨d, hd, hc⟩
                      · exact HNO.out i hi (.inl e)
                      · exact HNO.out i hi (.inr (.inl e))
                      · have g1 := h2 d i hd hc
                        have g2 := (HOC.out.lt i hi).2
                        omega)
                    have hcL := h3.cell hcL (by omega)
                    have hlob := HLD.out.lo.2.1
                    have HK6 := Lib.hid (HK.out.trans' h3 (U := noBlk) (fun _ _ h => h) (fun i hi e => by omega))
                    have HRL6 : Hid (Rd w6 2 (.slice ya q2 yc) x.l.length (adCells x.l)) := Lib.hid (by
                      have h := (HXA.out.keep HK6.out).2.2.2.2.2
                      rwa [HE3.out] at h)
                    have HL6 := Lib.hid h1
                    have HCA : Hid (AdsOk C) := Lib.hid (fun y hy => by
                      obtain ⟨h1, h2, h3, h4⟩ := HCP.out y hy
                      exact ⟨⟨by omega, by omega⟩, by omega, by omega⟩)
                    clear h1 h2 h3 hnb hcK hcC hcB hcT HLD HOC HNO HK
                    go_wp2_with fail
                    refine (minus_any w6 _ _ C x.l HCA.out HXA.out.2.2.2.2.1 (by rw [HCL.out]; exact Rd.of_owns HOC6.out) (by have h := HRL6.out; rw [HQ2.out] at h ⊢; exact h) (by rw [HCL.out]; omega)).mono ?_
                    rintro e7 w7 ⟨v, rfl, ho7, hk7⟩
                    have HPX : Hid (∀ y ∈ x.l, PlaceIn y D Z) := Lib.hid (fun y hy => by
                      have h1 := HOT.out
                      unfold okT at h1
                      rw [Bool.and_eq_true, List.all_eq_true] at h1
                      have h2 := h1.1 y hy
                      rw [Bool.and_eq_true] at h2
                      exact (mayB_in hbd).1 h2.1)
                    have HCP7 : Hid (∀ y ∈ canon (C.filter fun y => !decide (y ∈ x.l)), PlaceIn y D Z) := Lib.hid (fun y hy => by
                      have h1 := List.mem_filter.1 (mem_canon.1 hy)
                      exact HCP.out y h1.1)
                    have HCR7 := Lib.hid (canon_rises (C.filter fun y => !decide (y ∈ x.l)))
                    have HL7 : Hid (LedIs w7 lo a b c2 D Z (canon (C.filter fun y => !decide (y ∈ x.l)))) := Lib.hid ((HL6.out.keep0 hk7).congr fun y => by
                      rw [mem_turnL, mem_canon, List.mem_filter]
                      simp)
                    have HK7 := Lib.hid (HK6.out.trans hk7)
                    have hm7 : (canon (C.filter fun y => !decide (y ∈ x.l))).length ≤ 320 := by
                      have h1 := sum_free (rises_nodup' HCR7.out) HCP7.out (show 5 ≤ Z by omega)
                      have h2 : D * (Z - 5) ≤ 8 * 35 := Nat.mul_le_mul hbd.2.1 (by omega)
                      omega
                    have HNO7 : Hid (∀ i, v.ownBlock = some i → ¬ Own a b c2 D i) := Lib.hid (fun i hi ho => by
                      have h1 := owns_base ho7 hi
                      have h2 := (HL6.out.own_lt ho).2
                      omega)
                    clear HL6 HK6 HOC6 HNO6 HRL6 HCA
                    obtain ⟨C', hC'⟩ : ∃ C', canon (C.filter fun y => !decide (y ∈ x.l)) = C' := ⟨_, rfl⟩
                    rw [hC'] at HCP7 HCR7 HL7 hm7 ho7
                    clear HCP HCR hC'
                    obtain ⟨m', hm'⟩ : ∃ m', C'.length = m' := ⟨_, rfl⟩
                    have HCL' := Lib.hid hm'
                    rw [hm'] at hm7 ho7
                    obtain ⟨ua', uc', rfl, -, -⟩ := (Rd.of_owns ho7).form
                    have HOC7 := Lib.hid ho7
                    clear HCL hm ho7 hk7 hm'
                    have HCP := HCP7; have HCR := HCR7; have HLD := HL7; have HK := HK7; have HNO := HNO7; have HOC := HOC7; have HCL := HCL'; have hm := hm7
                    clear HCP7 HCR7 HL7 HK7 HNO7 HOC7 HCL' hm7
                    go_wp2_with fail
                    have hty := Lib.hid (show freeS C' D Z + m' = D * (Z - 5) by have h := sum_free (rises_nodup' HCR.out) HCP.out (show 5 ≤ Z by omega); rw [HCL.out] at h; exact h)
                    refine (told_of (ledUsed_any _ lo a b D Z c2 C' HLD.out) ((usedAll_canon HCP.out).trans (canon_of_rises HCR.out))).mono ?_
                    rintro e9 w9 ⟨v, rfl, hov, hk9⟩
                    rw [HCL.out] at hov
                    obtain ⟨va, vc, rfl, -, -⟩ := (Rd.of_owns hov).form
                    have HUS := Lib.hid (Rd.of_owns hov); have HK := Lib.hid (HK.out.trans hk9); have HLD := Lib.hid (HLD.out.keep0 hk9); have HOC := Lib.hid (hk9.owns HOC.out fun _ _ => id)
                    clear hov hk9
                    go_wp2_with fail
                    refine (same_any _ _ _ C' C' (by rw [HCL.out]; exact HUS.out) (by rw [HCL.out]; exact Rd.of_owns HOC.out) true (decide_eq_true rfl)).mono ?_
                    rintro e10 w10 ⟨rfl, hk10⟩
                    have HK := Lib.hid (HK.out.trans hk10); have HLD := Lib.hid (HLD.out.keep0 hk10); have HOC := Lib.hid (hk10.owns HOC.out fun _ _ => id)
                    clear hk10 HUS
                    go_wp2_with fail
                    have HT := total_any _ lo a b D Z c2 C' HLD.out
                    obtain ⟨tt, htt⟩ : ∃ t, freeS C' D Z = t := ⟨_, rfl⟩
                    rw [htt] at HT hty
                    have HT := Lib.hid HT
                    clear htt
                    refine HT.out.mono ?_
                    rintro e11 w11 ⟨rfl, hk11⟩
                    have HK := Lib.hid (HK.out.trans hk11); have HLD := Lib.hid (HLD.out.keep0 hk11); have HOC := Lib.hid (hk11.owns HOC.out fun _ _ => id)
                    clear hk11 HT
                    obtain ⟨y5, hy5⟩ : ∃ y : Nat, (Z : Int) - 5 = (y : Int) := ⟨Z - 5, by omega⟩
                    obtain ⟨dy, hdy⟩ : ∃ x, D * y5 = x := ⟨_, rfl⟩
                    have hdyb : dy ≤ 280 := by rw [← hdy]; exact Nat.le_trans (Nat.mul_le_mul hbd.2.1 (show y5 ≤ 35 by omega)) (by decide)
                    have hdyi : (D : Int) * (y5 : Int) = (dy : Int) := by rw [← hdy]; exact (Int.natCast_mul D y5).symm
                    have hsum : tt + m' = dy := by rw [← hdy, show y5 = Z - 5 by omega]; exact hty.out
                    have hfin : (dy : Int) - (m' : Int) = (tt : Int) := by omega
                    have hwy5 : IntKind.i64.wrap (y5 : Int) = (y5 : Int) := by rw [IntWalk.i64_in _ (by omega)]
                    have hwdy : IntKind.i64.wrap (dy : Int) = (dy : Int) := by rw [IntWalk.i64_in _ (by omega)]
                    have hwtt : IntKind.i64.wrap (tt : Int) = (tt : Int) := by rw [IntWalk.i64_in _ (by omega)]
                    clear hdy hsum hty
                    go_wp2_with fail
                    go_roundw
                    case rel => exact ⟨k + 1, m', C', ua', uc', _, c2, by omega, hm, rfl, by go_num, HCL, HCR, HCP, HLD, HOC, HNO, HK⟩
                    case measure => simp [intOf]; omega
              · by_cases ek5 : kd = 5
                · as_aux_lemma =>
                    subst ek5
                    by_cases hm0 : 0 < m
                    · have hmi : (0 : Int) < (m : Int) := by omega
                      have dm : decide ((0 : Int) < (m : Int)) = true := decide_eq_true hmi
                      go_wp2_with (first
                        | ((with_reducible show wpList _ _ _ (⟨_, .load 41 (.tmp 48), _, _, _, _⟩ :: _) _ _); refine wpList_load_mid rfl 41 (.tmp 48) rfl gl (ol + k * 5) rfl (actCs x) _ HX.out actUnder rfl sizeAct ?_)
                        | ((with_reducible show wpList _ _ _ (⟨some 12, .alloc 41, _, _, _, _⟩ :: _) _ _); refine wpList_alloc_at rfl 41 rfl zeroAct zeroActV #[.int .i64 0, .int .i64 0, .int .i64 0, .slice none 0 0, .slice none 0 0] rfl ?_)
                        | ((with_reducible show wpList _ _ _ (⟨none, .store 41 (.tmp 12) (.tmp 49), _, _, _, _⟩ :: _) _ _); refine wpList_store_agg rfl 41 (.tmp 12) (.tmp 49) rfl wr.heap.size 0 (actCs x) rfl rfl #[.int .i64 0, .int .i64 0, .int .i64 0, .slice none 0 0, .slice none 0 0] 41 (heap_alloc_new _ _) (Nat.le_refl _) sizeAct HON.out ?_
                           intro w3 hb3 hk3
                           rw [spl_whole _ _ (by rfl)] at hb3
                           have hk4 : Keep noBlk wr w3 := ((Keep.refl noBlk wr).alloc _).trans' hk3 (fun _ _ h => h) (fun i hi e => by omega)
                           have HB3 := Lib.hid hb3; have HK3 := Lib.hid hk4
                           have hcK : w3.cell? ⟨wr.heap.size, 0, none⟩ = some (.int .i64 x.kind) := blk_cell hb3 rfl
                           have hcC : w3.cell? ⟨wr.heap.size, 1, none⟩ = some (.int .i64 x.copies) := blk_cell hb3 rfl
                           have hcB : w3.cell? ⟨wr.heap.size, 2, none⟩ = some (.int .i64 x.back) := blk_cell hb3 rfl
                           have hcT : w3.cell? ⟨wr.heap.size, 3, none⟩ = some x.vt := blk_cell hb3 rfl
                           have hcL : w3.cell? ⟨wr.heap.size, 4, none⟩ = some x.vl := blk_cell hb3 rfl
                           rw [HKD.out] at hcK
                           rw [HXC.out] at hcC
                           rw [HXB.out] at hcB
                           rw [HE2.out] at hcT
                           rw [HE3.out] at hcL
                           have HLD := Lib.hid (HLD.out.keep0 hk4); have HOC := Lib.hid (hk4.owns HOC.out fun _ _ => id); have HK := Lib.hid (HK.out.trans hk4)
                           clear hb3 hk3 hk4))
                      obtain ⟨p, hp⟩ : ∃ p : Nat, xbk % (m : Int) = (p : Int) := ⟨(xbk % (m : Int)).toNat, by have := Int.emod_nonneg xbk (show (m : Int) ≠ 0 by omega); omega⟩
                      have hpm : p < m := by have := Int.emod_lt_of_pos xbk hmi; omega
                      have hin := HXA.out.2.2.1
                      rw [HXB.out] at hin
                      have HPK := pick_any w3 xbk (m : Int) (by omega) (by omega) hin.1 hin.2
                      rw [hp] at HPK
                      have HPK := Lib.hid HPK
                      have hpi : (p : Int) < (m : Int) := by omega
                      have hp0 : (0 : Int) ≤ (p : Int) := by omega
                      obtain ⟨y, h_y⟩ : ∃ y, C[p]? = some y := ⟨C[p]'(by rw [HCL.out]; exact hpm), List.getElem?_eq_getElem _⟩
                      have h_r := Rd.of_owns HOC.out
                      rw [← HCL.out] at h_r
                      obtain ⟨gu, ou, cap2, h_v, h_at⟩ := rd_ad h_r h_y
                      rw [HCL.out] at h_v
                      have e1 : ua = some ⟨gu, ou, none⟩ := by cases h_v; rfl
                      subst e1
                      have HYC := Lib.hid (List.mem_of_getElem? h_y)
                      have HX0 := Lib.hid h_at
                      have HYP := Lib.hid (HCP.out y HYC.out)
                      have HCA : Hid (AdsOk C) := Lib.hid (fun y hy => by
                        obtain ⟨h1, h2, h3, h4⟩ := HCP.out y hy
                        exact ⟨⟨by omega, by omega⟩, by omega, by omega⟩)
                      have HYA : Hid (AdsOk [y]) := Lib.hid (fun z hz => by rw [List.mem_singleton.1 hz]; exact HCA.out y HYC.out)
                      have hokt : okT C [y] true D Z = true := by
                        unfold okT
                        rw [Bool.and_eq_true, List.all_eq_true, decide_eq_true_eq]
                        exact ⟨fun z hz => by rw [List.mem_singleton.1 hz, (mayB_in hbd).2 HYP.out, decide_eq_true HYC.out]; rfl, by simp⟩
                      have HOT := Lib.hid hokt
                      have hbw : b < w3.heap.size := HLD.out.words.lt
                      have hlob := HLD.out.lo.2.1
                      clear h_y h_r h_v h_at hin hp hokt hcK hcC hcB hcT hcL HB3 HK3
                      refine HPK.out.mono ?_
                      rintro e5 wp5 ⟨rfl, hwp⟩
                      subst hwp
                      clear HPK
                      go_wp2_with (first
                        | ((with_reducible show wpList _ _ _ (⟨_, .load 50 (.tmp 158), _, _, _, _⟩ :: _) _ _); refine wpList_load_mid rfl 50 (.tmp 158) rfl gu (ou + p * 2) rfl (adCs y) _ HX0.out adUnder rfl sizeAd ?_)
                        | ((with_reducible show wpList _ _ _ (⟨some 17, .alloc 50, _, _, _, _⟩ :: _) _ _); refine wpList_alloc_at rfl 50 rfl zeroAd zeroAddr #[.int .i64 0, .int .i64 0] rfl ?_)
                        | ((with_reducible show wpList _ _ _ (⟨none, .store 50 (.tmp 17) (.tmp 159), _, _, _, _⟩ :: _) _ _); refine wpList_store_agg rfl 50 (.tmp 17) (.tmp 159) rfl w3.heap.size 0 (adCs y) rfl rfl #[.int .i64 0, .int .i64 0] 50 (heap_alloc_new _ _) (Nat.le_refl _) sizeAd (oneCell_ad _) ?_
                           intro w5 hb5 hk5
                           rw [spl_whole _ _ (by rfl)] at hb5
                           have hk6 : Keep noBlk w3 w5 := ((Keep.refl noBlk w3).alloc _).trans' hk5 (fun _ _ h => h) (fun i hi e => by omega)
                           obtain ⟨yb, hyb⟩ : ∃ b, w3.heap.size = b := ⟨_, rfl⟩
                           rw [hyb] at hb5 hbw ⊢
                           obtain ⟨w8, hw8, hk8, hb8, hs8⟩ := alloc_facts w5 (adCs y).toArray 50
                           have hsz := hk6.size
                           rw [hyb] at hsz
                           obtain ⟨bx, hbx⟩ : ∃ b, w5.heap.size = b := ⟨_, rfl⟩
                           have HBXE := Lib.hid hbx
                           rw [hbx] at hb8 hsz
                           have hbbx : b < bx := by omega
                           have HYB := Lib.hid hb5
                           have hk9 := hk6.trans hk8
                           have HYB8 := Lib.hid (hk8.blk hb5 id)
                           have HRN : Hid (Rd w8 2 (.slice (some ⟨bx, 0, none⟩) 1 1) 1 (adCs y)) := Lib.hid (rd_blk (n := 1) (size := 2) (vs := adCs y) hb8 rfl (by unfold maxLen; omega))
                           have HLD := Lib.hid (HLD.out.keep0 hk9); have HOC := Lib.hid (hk9.owns HOC.out fun _ _ => id); have HK := Lib.hid (HK.out.trans hk9)
                           clear hb5 hk5 hk6 hyb hk8 hb8 hs8 hk9 hbx)
                        | ((with_reducible show wpList _ _ _ (⟨_, .load 50 (.tmp 17), _, _, _, _⟩ :: _) _ _); refine wpList_load_g (by rfl) 50 (.tmp 17) rfl yb 0 rfl (adCs y) _ (rangeAt_whole HYB.out) adUnder rfl sizeAd ?_)
                        | ((with_reducible show wpList _ _ _ (⟨_, .buildSlice _ 1 _, _, _, _, _⟩ :: _) _ _); refine wpList_build_one rfl 22 50 (.tmp 161) rfl Try.underlying22 infoAd (by decide) (adCs y) rfl (by decide) rfl ?_; rw [hw8, HBXE.out]))
                      have HC := Lib.hid (release_far w8 lo a b D Z c C HLD.out (.slice (some ⟨bx, 0, none⟩) 1 1) [y] (by rw [adCells_one]; exact HRN.out) (fun _ i hi e => by cases hi; have e2 : bx = b := e; omega))
                      refine HC.out.mono ?_
                      intro e6 w6 hpost
                      unfold TurnsPost at hpost
                      rw [HOT.out, if_pos rfl] at hpost
                      obtain ⟨rfl, c2, h1, h2, h3⟩ := hpost
                      have hnb : ∀ i, (Value.slice (some ⟨gu, ou, none⟩) m uc).ownBlock = some i → i ≠ b := fun i hi e => HNO.out i hi (.inr (.inl e))
                      have HOC6 := Lib.hid (h3.owns HOC.out hnb)
                      have HNO6 : Hid (∀ i, (Value.slice (some ⟨gu, ou, none⟩) m uc).ownBlock = some i → ¬ Own a b c2 D i) := Lib.hid (fun i hi ho => by
                        rcases ho with e | e | ⟨d, hd, hc⟩
                        · exact HNO.out i hi (.inl e)
                        · exact HNO.out i hi (.inr (.inl e))
                        · have g1 := h2 d i hd hc
                          have g2 := (HOC.out.lt i hi).2
                          omega)
                      have HYB := Lib.hid (h3.blk HYB8.out (by omega))
                      have HK6 := Lib.hid (HK.out.trans' h3 (U := noBlk) (fun _ _ h => h) (fun i hi e => by omega))
                      have HL6 := Lib.hid h1
                      have hnh : inB y D Z (turnL C [y] true) = false := by
                        unfold inB
                        rw [decide_eq_false (fun h => by rw [mem_turnL, if_pos rfl] at h; exact h.2 (List.mem_singleton.2 rfl))]
                        simp
                      have HNH := Lib.hid hnh
                      clear h1 h2 h3 hnb HLD HOC HNO HK hw8 HBXE HRN HYB8 HC hnh
                      go_wp2_with (first
                        | ((with_reducible show wpList _ _ _ (⟨_, .load 50 (.tmp 17), _, _, _, _⟩ :: _) _ _); refine wpList_load_g (by rfl) 50 (.tmp 17) rfl yb 0 rfl (adCs y) _ (rangeAt_whole HYB.out) adUnder rfl sizeAd ?_))
                      refine (yes_of (ledHas_any _ lo a b D Z c2 _ HL6.out y) HNH.out).mono ?_
                      rintro e10 w10 ⟨rfl, hk⟩
                      have HL6 := Lib.hid (HL6.out.keep0 hk); have HK6 := Lib.hid (HK6.out.trans hk); have HOC6 := Lib.hid (hk.owns HOC6.out fun _ _ => id); have HYB := Lib.hid (hk.blk HYB.out id)
                      clear hk
                      obtain ⟨w12, hw12, hk12, hb12, hs12⟩ := alloc_facts w10 (adCs y).toArray 50
                      obtain ⟨bz, hbz⟩ : ∃ b, w10.heap.size = b := ⟨_, rfl⟩
                      rw [hbz] at hb12
                      have HBZ := Lib.hid hbz
                      have HRN : Hid (Rd w12 2 (.slice (some ⟨bz, 0, none⟩) 1 1) 1 (adCs y)) := Lib.hid (rd_blk (n := 1) (size := 2) (vs := adCs y) hb12 rfl (by unfold maxLen; omega))
                      have HL6 := Lib.hid (HL6.out.keep0 hk12); have HK6 := Lib.hid (HK6.out.trans hk12); have HOC6 := Lib.hid (hk12.owns HOC6.out fun _ _ => id)
                      have HW12 := Lib.hid hw12
                      clear hk12 hb12 hs12 hbz hw12
                      go_wp2_with (first
                        | ((with_reducible show wpList _ _ _ (⟨_, .load 50 (.tmp 17), _, _, _, _⟩ :: _) _ _); refine wpList_load_g (by rfl) 50 (.tmp 17) rfl yb 0 rfl (adCs y) _ (rangeAt_whole HYB.out) adUnder rfl sizeAd ?_)
                        | ((with_reducible show wpList _ _ _ (⟨_, .buildSlice _ 1 _, _, _, _, _⟩ :: _) _ _); refine wpList_build_one rfl 22 50 (.tmp 171) rfl Try.underlying22 infoAd (by decide) (adCs y) rfl (by decide) rfl ?_; rw [HW12.out, HBZ.out]))
                      refine (minus_any w12 _ _ C [y] HCA.out HYA.out (by rw [HCL.out]; exact Rd.of_owns HOC6.out) (by rw [adCells_one]; exact HRN.out) (by rw [HCL.out]; omega)).mono ?_
                      rintro e7 w9 ⟨v, rfl, ho7, hk7⟩
                      have HCP7 : Hid (∀ y' ∈ canon (C.filter fun x => !decide (x ∈ [y])), PlaceIn y' D Z) := Lib.hid (fun y' hy => HCP.out y' (List.mem_filter.1 (mem_canon.1 hy)).1)
                      have HL7 : Hid (LedIs w9 lo a b c2 D Z (canon (C.filter fun x => !decide (x ∈ [y])))) := Lib.hid ((HL6.out.keep0 hk7).congr fun y => by
                        rw [mem_turnL, mem_canon, List.mem_filter]
                        simp)
                      have HCR7 := Lib.hid (canon_rises (C.filter fun x => !decide (x ∈ [y])))
                      have HK7 := Lib.hid (HK6.out.trans hk7)
                      have hm7 : (canon (C.filter fun x => !decide (x ∈ [y]))).length ≤ 320 := by
                        have h1 := sum_free (rises_nodup' HCR7.out) HCP7.out (show 5 ≤ Z by omega)
                        have h2 : D * (Z - 5) ≤ 8 * 35 := Nat.mul_le_mul hbd.2.1 (by omega)
                        omega
                      have HNO7 : Hid (∀ i, v.ownBlock = some i → ¬ Own a b c2 D i) := Lib.hid (fun i hi ho => by
                        have h1 := owns_base ho7 hi
                        have h2 := (HL6.out.own_lt ho).2
                        omega)
                      clear HL6 HK6 HOC6 HCA
                      try clear HNO6
                      try clear HRL6
                      obtain ⟨C', hC'⟩ : ∃ C', canon (C.filter fun x => !decide (x ∈ [y])) = C' := ⟨_, rfl⟩
                      rw [hC'] at HCP7 HCR7 HL7 hm7 ho7
                      clear HCP HCR hC'
                      obtain ⟨m', hm'⟩ : ∃ m', C'.length = m' := ⟨_, rfl⟩
                      have HCL' := Lib.hid hm'
                      rw [hm'] at hm7 ho7
                      obtain ⟨ua', uc', rfl, -, -⟩ := (Rd.of_owns ho7).form
                      have HOC7 := Lib.hid ho7
                      clear HCL hm ho7 hk7 hm'
                      have HCP := HCP7; have HCR := HCR7; have HLD := HL7; have HK := HK7; have HNO := HNO7; have HOC := HOC7; have HCL := HCL'; have hm := hm7
                      clear HCP7 HCR7 HL7 HK7 HNO7 HOC7 HCL' hm7
                      go_wp2_with fail
                      have hty := Lib.hid (show freeS C' D Z + m' = D * (Z - 5) by have h := sum_free (rises_nodup' HCR.out) HCP.out (show 5 ≤ Z by omega); rw [HCL.out] at h; exact h)
                      refine (told_of (ledUsed_any _ lo a b D Z c2 C' HLD.out) ((usedAll_canon HCP.out).trans (canon_of_rises HCR.out))).mono ?_
                      rintro e9 w9 ⟨v, rfl, hov, hk9⟩
                      rw [HCL.out] at hov
                      obtain ⟨va, vc, rfl, -, -⟩ := (Rd.of_owns hov).form
                      have HUS := Lib.hid (Rd.of_owns hov); have HK := Lib.hid (HK.out.trans hk9); have HLD := Lib.hid (HLD.out.keep0 hk9); have HOC := Lib.hid (hk9.owns HOC.out fun _ _ => id)
                      clear hov hk9
                      go_wp2_with fail
                      refine (same_any _ _ _ C' C' (by rw [HCL.out]; exact HUS.out) (by rw [HCL.out]; exact Rd.of_owns HOC.out) true (decide_eq_true rfl)).mono ?_
                      rintro e10 w10 ⟨rfl, hk10⟩
                      have HK := Lib.hid (HK.out.trans hk10); have HLD := Lib.hid (HLD.out.keep0 hk10); have HOC := Lib.hid (hk10.owns HOC.out fun _ _ => id)
                      clear hk10 HUS
                      go_wp2_with fail
                      have HT := total_any _ lo a b D Z c2 C' HLD.out
                      obtain ⟨tt, htt⟩ : ∃ t, freeS C' D Z = t := ⟨_, rfl⟩
                      rw [htt] at HT hty
                      have HT := Lib.hid HT
                      clear htt
                      refine HT.out.mono ?_
                      rintro e11 w11 ⟨rfl, hk11⟩
                      have HK := Lib.hid (HK.out.trans hk11); have HLD := Lib.hid (HLD.out.keep0 hk11); have HOC := Lib.hid (hk11.owns HOC.out fun _ _ => id)
                      clear hk11 HT
                      obtain ⟨y5, hy5⟩ : ∃ y : Nat, (Z : Int) - 5 = (y : Int) := ⟨Z - 5, by omega⟩
                      obtain ⟨dy, hdy⟩ : ∃ x, D * y5 = x := ⟨_, rfl⟩
                      have hdyb : dy ≤ 280 := by rw [← hdy]; exact Nat.le_trans (Nat.mul_le_mul hbd.2.1 (show y5 ≤ 35 by omega)) (by decide)
                      have hdyi : (D : Int) * (y5 : Int) = (dy : Int) := by rw [← hdy]; exact (Int.natCast_mul D y5).symm
                      have hsum : tt + m' = dy := by rw [← hdy, show y5 = Z - 5 by omega]; exact hty.out
                      have hfin : (dy : Int) - (m' : Int) = (tt : Int) := by omega
                      have hwy5 : IntKind.i64.wrap (y5 : Int) = (y5 : Int) := by rw [IntWalk.i64_in _ (by omega)]
                      have hwdy : IntKind.i64.wrap (dy : Int) = (dy : Int) := by rw [IntWalk.i64_in _ (by omega)]
                      have hwtt : IntKind.i64.wrap (tt : Int) = (tt : Int) := by rw [IntWalk.i64_in _ (by omega)]
                      clear hdy hsum hty
                      go_wp2_with fail
                      go_roundw
                      case rel => exact ⟨k + 1, m', C', ua', uc', _, c2, by omega, hm, rfl, by go_num, HCL, HCR, HCP, HLD, HOC, HNO, HK⟩
                      case measure => simp [intOf]; omega
                    · have hmi : ¬ (0 : Int) < (m : Int) := by omega
                      have dm : decide ((0 : Int) < (m : Int)) = false := decide_eq_false hmi
                      go_wp2_with (first
                        | ((with_reducible show wpList _ _ _ (⟨_, .load 41 (.tmp 48), _, _, _, _⟩ :: _) _ _); refine wpList_load_mid rfl 41 (.tmp 48) rfl gl (ol + k * 5) rfl (actCs x) _ HX.out actUnder rfl sizeAct ?_)
                        | ((with_reducible show wpList _ _ _ (⟨some 12, .alloc 41, _, _, _, _⟩ :: _) _ _); refine wpList_alloc_at rfl 41 rfl zeroAct zeroActV #[.int .i64 0, .int .i64 0, .int .i64 0, .slice none 0 0, .slice none 0 0] rfl ?_)
                        | ((with_reducible show wpList _ _ _ (⟨none, .store 41 (.tmp 12) (.tmp 49), _, _, _, _⟩ :: _) _ _); refine wpList_store_agg rfl 41 (.tmp 12) (.tmp 49) rfl wr.heap.size 0 (actCs x) rfl rfl #[.int .i64 0, .int .i64 0, .int .i64 0, .slice none 0 0, .slice none 0 0] 41 (heap_alloc_new _ _) (Nat.le_refl _) sizeAct HON.out ?_
                           intro w3 hb3 hk3
                           rw [spl_whole _ _ (by rfl)] at hb3
                           have hk4 : Keep noBlk wr w3 := ((Keep.refl noBlk wr).alloc _).trans' hk3 (fun _ _ h => h) (fun i hi e => by omega)
                           have HB3 := Lib.hid hb3; have HK3 := Lib.hid hk4
                           have hcK : w3.cell? ⟨wr.heap.size, 0, none⟩ = some (.int .i64 x.kind) := blk_cell hb3 rfl
                           have hcC : w3.cell? ⟨wr.heap.size, 1, none⟩ = some (.int .i64 x.copies) := blk_cell hb3 rfl
                           have hcB : w3.cell? ⟨wr.heap.size, 2, none⟩ = some (.int .i64 x.back) := blk_cell hb3 rfl
                           have hcT : w3.cell? ⟨wr.heap.size, 3, none⟩ = some x.vt := blk_cell hb3 rfl
                           have hcL : w3.cell? ⟨wr.heap.size, 4, none⟩ = some x.vl := blk_cell hb3 rfl
                           rw [HKD.out] at hcK
                           rw [HXC.out] at hcC
                           rw [HXB.out] at hcB
                           rw [HE2.out] at hcT
                           rw [HE3.out] at hcL
                           have HLD := Lib.hid (HLD.out.keep0 hk4); have HOC := Lib.hid (hk4.owns HOC.out fun _ _ => id); have HK := Lib.hid (HK.out.trans hk4)
                           clear hb3 hk3 hk4))
                      have hty := Lib.hid (show freeS C D Z + m = D * (Z - 5) by have h := sum_free (rises_nodup' HCR.out) HCP.out (show 5 ≤ Z by omega); rw [HCL.out] at h; exact h)
                      refine (told_of (ledUsed_any _ lo a b D Z c C HLD.out) ((usedAll_canon HCP.out).trans (canon_of_rises HCR.out))).mono ?_
                      rintro e9 w9 ⟨v, rfl, hov, hk9⟩
                      rw [HCL.out] at hov
                      obtain ⟨va, vc, rfl, -, -⟩ := (Rd.of_owns hov).form
                      have HUS := Lib.hid (Rd.of_owns hov); have HK := Lib.hid (HK.out.trans hk9); have HLD := Lib.hid (HLD.out.keep0 hk9); have HOC := Lib.hid (hk9.owns HOC.out fun _ _ => id)
                      clear hov hk9
                      go_wp2_with fail
                      refine (same_any _ _ _ C C (by rw [HCL.out]; exact HUS.out) (by rw [HCL.out]; exact Rd.of_owns HOC.out) true (decide_eq_true rfl)).mono ?_
                      rintro e10 w10 ⟨rfl, hk10⟩
                      have HK := Lib.hid (HK.out.trans hk10); have HLD := Lib.hid (HLD.out.keep0 hk10); have HOC := Lib.hid (hk10.owns HOC.out fun _ _ => id)
                      clear hk10 HUS
                      go_wp2_with fail
                      have HT := total_any _ lo a b D Z c C HLD.out
                      obtain ⟨tt, htt⟩ : ∃ t, freeS C D Z = t := ⟨_, rfl⟩
                      rw [htt] at HT hty
                      have HT := Lib.hid HT
                      clear htt
                      refine HT.out.mono ?_
                      rintro e11 w11 ⟨rfl, hk11⟩
                      have HK := Lib.hid (HK.out.trans hk11); have HLD := Lib.hid (HLD.out.keep0 hk11); have HOC := Lib.hid (hk11.owns HOC.out fun _ _ => id)
                      clear hk11 HT
                      obtain ⟨y5, hy5⟩ : ∃ y : Nat, (Z : Int) - 5 = (y : Int) := ⟨Z - 5, by omega⟩
                      obtain ⟨dy, hdy⟩ : ∃ x, D * y5 = x := ⟨_, rfl⟩
                      have hdyb : dy ≤ 280 := by rw [← hdy]; exact Nat.le_trans (Nat.mul_le_mul hbd.2.1 (show y5 ≤ 35 by omega)) (by decide)
                      have hdyi : (D : Int) * (y5 : Int) = (dy : Int) := by rw [← hdy]; exact (Int.natCast_mul D y5).symm
                      have hsum : tt + m = dy := by rw [← hdy, show y5 = Z - 5 by omega]; exact hty.out
                      have hfin : (dy : Int) - (m : Int) = (tt : Int) := by omega
                      have hwy5 : IntKind.i64.wrap (y5 : Int) = (y5 : Int) := by rw [IntWalk.i64_in _ (by omega)]
                      have hwdy : IntKind.i64.wrap (dy : Int) = (dy : Int) := by rw [IntWalk.i64_in _ (by omega)]
                      have hwtt : IntKind.i64.wrap (tt : Int) = (tt : Int) := by rw [IntWalk.i64_in _ (by omega)]
                      clear hdy hsum hty
                      go_wp2_with fail
                      go_roundw
                      case rel => exact ⟨k + 1, m, C, ua, uc, base, c, by omega, hm, rfl, by go_num, HCL, HCR, HCP, HLD, HOC, HNO, HK⟩
                      case measure => simp [intOf]; omega
                · have nb0 : (kd == 0) = false := beq_false_of_ne ek0
                  have nb1 : (kd == 1) = false := beq_false_of_ne ek1
                  have nb2 : (kd == 2) = false := beq_false_of_ne ek2
                  have nb3 : (kd == 3) = false := beq_false_of_ne ek3
                  have nb4 : (kd == 4) = false := beq_false_of_ne ek4
                  have nb5 : (kd == 5) = false := beq_false_of_ne ek5
                  go_wp2_with (first
                    | ((with_reducible show wpList _ _ _ (⟨_, .load 41 (.tmp 48), _, _, _, _⟩ :: _) _ _); refine wpList_load_mid rfl 41 (.tmp 48) rfl gl (ol + k * 5) rfl (actCs x) _ HX.out actUnder rfl sizeAct ?_)
                    | ((with_reducible show wpList _ _ _ (⟨some 12, .alloc 41, _, _, _, _⟩ :: _) _ _); refine wpList_alloc_at rfl 41 rfl zeroAct zeroActV #[.int .i64 0, .int .i64 0, .int .i64 0, .slice none 0 0, .slice none 0 0] rfl ?_)
                    | ((with_reducible show wpList _ _ _ (⟨none, .store 41 (.tmp 12) (.tmp 49), _, _, _, _⟩ :: _) _ _); refine wpList_store_agg rfl 41 (.tmp 12) (.tmp 49) rfl wr.heap.size 0 (actCs x) rfl rfl #[.int .i64 0, .int .i64 0, .int .i64 0, .slice none 0 0, .slice none 0 0] 41 (heap_alloc_new _ _) (Nat.le_refl _) sizeAct HON.out ?_
                       intro w3 hb3 hk3
                       rw [spl_whole _ _ (by rfl)] at hb3
                       have hk4 : Keep noBlk wr w3 := ((Keep.refl noBlk wr).alloc _).trans' hk3 (fun _ _ h => h) (fun i hi e => by omega)
                       have HB3 := Lib.hid hb3; have HK3 := Lib.hid hk4
                       have hcK : w3.cell? ⟨wr.heap.size, 0, none⟩ = some (.int .i64 x.kind) := blk_cell hb3 rfl
                       have hcC : w3.cell? ⟨wr.heap.size, 1, none⟩ = some (.int .i64 x.copies) := blk_cell hb3 rfl
                       have hcB : w3.cell? ⟨wr.heap.size, 2, none⟩ = some (.int .i64 x.back) := blk_cell hb3 rfl
                       have hcT : w3.cell? ⟨wr.heap.size, 3, none⟩ = some x.vt := blk_cell hb3 rfl
                       have hcL : w3.cell? ⟨wr.heap.size, 4, none⟩ = some x.vl := blk_cell hb3 rfl
                       rw [HKD.out] at hcK
                       rw [HXC.out] at hcC
                       rw [HXB.out] at hcB
                       rw [HE2.out] at hcT
                       rw [HE3.out] at hcL
                       have HLD := Lib.hid (HLD.out.keep0 hk4); have HOC := Lib.hid (hk4.owns HOC.out fun _ _ => id); have HK := Lib.hid (HK.out.trans hk4)
                       clear hb3 hk3 hk4))
                  have hty := Lib.hid (show freeS C D Z + m = D * (Z - 5) by have h := sum_free (rises_nodup' HCR.out) HCP.out (show 5 ≤ Z by omega); rw [HCL.out] at h; exact h)
                  refine (told_of (ledUsed_any _ lo a b D Z c C HLD.out) ((usedAll_canon HCP.out).trans (canon_of_rises HCR.out))).mono ?_
                  rintro e9 w9 ⟨v, rfl, hov, hk9⟩
                  rw [HCL.out] at hov
                  obtain ⟨va, vc, rfl, -, -⟩ := (Rd.of_owns hov).form
                  have HUS := Lib.hid (Rd.of_owns hov); have HK := Lib.hid (HK.out.trans hk9); have HLD := Lib.hid (HLD.out.keep0 hk9); have HOC := Lib.hid (hk9.owns HOC.out fun _ _ => id)
                  clear hov hk9
                  go_wp2_with fail
                  refine (same_any _ _ _ C C (by rw [HCL.out]; exact HUS.out) (by rw [HCL.out]; exact Rd.of_owns HOC.out) true (decide_eq_true rfl)).mono ?_
                  rintro e10 w10 ⟨rfl, hk10⟩
                  have HK := Lib.hid (HK.out.trans hk10); have HLD := Lib.hid (HLD.out.keep0 hk10); have HOC := Lib.hid (hk10.owns HOC.out fun _ _ => id)
                  clear hk10 HUS
                  go_wp2_with fail
                  have HT := total_any _ lo a b D Z c C HLD.out
                  obtain ⟨tt, htt⟩ : ∃ t, freeS C D Z = t := ⟨_, rfl⟩
                  rw [htt] at HT hty
                  have HT := Lib.hid HT
                  clear htt
                  refine HT.out.mono ?_
                  rintro e11 w11 ⟨rfl, hk11⟩
                  have HK := Lib.hid (HK.out.trans hk11); have HLD := Lib.hid (HLD.out.keep0 hk11); have HOC := Lib.hid (hk11.owns HOC.out fun _ _ => id)
                  clear hk11 HT
                  obtain ⟨y5, hy5⟩ : ∃ y : Nat, (Z : Int) - 5 = (y : Int) := ⟨Z - 5, by omega⟩
                  obtain ⟨dy, hdy⟩ : ∃ x, D * y5 = x := ⟨_, rfl⟩
                  have hdyb : dy ≤ 280 := by rw [← hdy]; exact Nat.le_trans (Nat.mul_le_mul hbd.2.1 (show y5 ≤ 35 by omega)) (by decide)
                  have hdyi : (D : Int) * (y5 : Int) = (dy : Int) := by rw [← hdy]; exact (Int.natCast_mul D y5).symm
                  have hsum : tt + m = dy := by rw [← hdy, show y5 = Z - 5 by omega]; exact hty.out
                  have hfin : (dy : Int) - (m : Int) = (tt : Int) := by omega
                  have hwy5 : IntKind.i64.wrap (y5 : Int) = (y5 : Int) := by rw [IntWalk.i64_in _ (by omega)]
                  have hwdy : IntKind.i64.wrap (dy : Int) = (dy : Int) := by rw [IntWalk.i64_in _ (by omega)]
                  have hwtt : IntKind.i64.wrap (tt : Int) = (tt : Int) := by rw [IntWalk.i64_in _ (by omega)]
                  clear hdy hsum hty
                  go_wp2_with fail
                  go_roundw
                  case rel => exact ⟨k + 1, m, C, ua, uc, base, c, by omega, hm, rfl, by go_num, HCL, HCR, HCP, HLD, HOC, HNO, HK⟩
                  case measure => simp [intOf]; omega
    · obtain rfl : n = k := by omega
      go_wp2_with fail
      go_ret
      exact ⟨rfl, HK.out⟩
  · go_wp2_with fail
    go_ret
    exact ⟨rfl, HK.out⟩

end Go.Proofs.Ytfjklgbakhjjiaa
