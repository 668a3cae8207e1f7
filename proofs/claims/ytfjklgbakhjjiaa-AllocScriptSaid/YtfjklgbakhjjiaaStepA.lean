/-
  caulkerlaw17.step: a call of both ledgers.
  Conditions: none but those told.
-/
import Derived.Test.YtfjklgbakhjjiaaStL
import Derived.Test.YtfjklgbakhjjiaaManyA
import Derived.Test.YtfjklgbakhjjiaaPickA
namespace Go.Proofs.Ytfjklgbakhjjiaa
open Go.RowKit Go.Maps Go.ChangeMaps
set_option maxRecDepth 100000
set_option linter.unusedVariables false

theorem infoLS : (Try.prog.info? 22).map (fun i => (i.zero, i.size, i.bytes)) = some (some (.slice none 0 0), 1, 24) := by kernel_rfl
def StepPost (w0 : World) (lo a b r D Z : Nat) (T : List (Value × List Ad)) (e : Ending) (w' : World) : Prop :=
  ∃ c' v' C' tv' T', e = .returned (.tuple #[tv', .bool true]) ∧ StIs w0 w' lo a b c' r v' D Z C' tv' T' ∧ T'.length ≤ T.length + 1
set_option maxHeartbeats 32000000 in
theorem step_any (w0 w : World) (lo a b r D Z : Nat) (c : Nat → Option Nat) (v tv : Value) (C : List Ad) (T : List (Value × List Ad)) (h : StIs w0 w lo a b c r v D Z C tv T) (htm : T.length ≤ 60)
    (kd cp bk : Int) (vt vl : Value) (th : List Bool) (l : List Ad) (hx : ActOk w0 ⟨kd, cp, bk, vt, th, vl, l⟩) (h12 : th.length ≤ 12) (h40 : l.length ≤ 40) :
    Calls Try.prog 15 #[.pointer (some ⟨a, 0, none⟩), .pointer (some ⟨r, 0, none⟩), .agg (actCs ⟨kd, cp, bk, vt, th, vl, l⟩).toArray, tv] w (StepPost w0 lo a b r D Z T) := by
  have hrt : Rd w0 1 vt th.length (th.map Value.bool) := hx.2.2.2.1
  have hrl : Rd w0 2 vl l.length (adCells l) := hx.2.2.2.2.2
  have hcp : In64 cp := hx.2.1
  have hbk : In64 bk := hx.2.2.1
  have hrow := h.tak.row
  obtain ⟨ta, tcap, htv, -, -⟩ := (Rd.of_owns hrow).form
  obtain ⟨xa, xc, hvt, -, -⟩ := hrt.form
  obtain ⟨ya, yc, hvl, -, -⟩ := hrl.form
  obtain ⟨oa, ca, hvv, -, -⟩ := h.ref.rd.form
  have HAOK := Lib.hid hx.2.2.2.2.1
  have hlt : th.length ≤ 12 := h12
  have hll : l.length ≤ 40 := h40
  obtain ⟨tn, htn⟩ : ∃ n, th.length = n := ⟨_, rfl⟩
  obtain ⟨ln, hln⟩ : ∃ n, l.length = n := ⟨_, rfl⟩
  obtain ⟨tl, htl⟩ : ∃ n, T.length = n := ⟨_, rfl⟩
  obtain ⟨cl, hcl⟩ : ∃ n, C.length = n := ⟨_, rfl⟩
  rw [htl] at htv htm
  rw [htn] at hvt hlt
  rw [hln] at hvl hll
  rw [hcl] at hvv
  subst htv
  subst hvt
  subst hvl
  subst hvv
  rw [htn] at hrt
  rw [hln] at hrl
  have HTN := Lib.hid htn; have HLN := Lib.hid hln; have HTL := Lib.hid htl; have HCL := Lib.hid hcl
  have HRT := Lib.hid hrt; have HRL := Lib.hid hrl
  rw [show actCs ⟨kd, cp, bk, .slice xa tn xc, th, .slice ya ln yc, l⟩ = [.int .i64 kd, .int .i64 cp, .int .i64 bk, .slice xa tn xc, .slice ya ln yc] from rfl]
  obtain ⟨w1, hw1, hk1, hb1, hs1⟩ := alloc_facts w #[.int .i64 kd, .int .i64 cp, .int .i64 bk, .slice xa tn xc, .slice ya ln yc] 41
  have HST := Lib.hid (h.keep0 hk1)
  have HMB : Hid (∀ i, Mine a b r c D i → i < w.heap.size) := Lib.hid (fun i hi => (h.mine hi).2)
  have hbd := h.led.bd
  have hlob : lo ≤ w.heap.size := by have := h.mine (k := a) (.inl (.inl rfl)); omega
  have HTB : Hid (∀ i, (Value.slice ta tl tcap).ownBlock = some i → i < w.heap.size) := Lib.hid (fun i hi => (h.tak.lt.1 i hi).2)
  have HTR : Hid (∀ p ∈ T, ∀ i, p.1.ownBlock = some i → i < w.heap.size) := Lib.hid (fun p hp i hi => (h.tak.lt.2 p hp i hi).2)
  obtain ⟨bx, hbx⟩ : ∃ b, w.heap.size = b := ⟨_, rfl⟩
  have HBX := Lib.hid hbx
  rw [hbx] at HMB hb1 HTB HTR hlob
  have HB := Lib.hid hb1
  have HXS : Hid (bx < w1.heap.size) := Lib.hid (lt_of_block hb1)
  clear hx h hrow hrt hrl htn hln htl hcl hk1 hb1 hs1 hbx h12 h40
  go_enter Try.func15, Try.ntmps15
  have hc3 := blk_cell HB.out (i := 3) rfl
  have hc4 := blk_cell HB.out (i := 4) rfl
  go_wp2_with fail
  try clear hw1
  rw [HBX.out]
  have HC3 := Lib.hid hc3; have HC4 := Lib.hid hc4; have HW0 := Lib.hid (Keep.refl noBlk w1)
  clear hc3 hc4
  obtain ⟨S, hS0⟩ : ∃ S : World → Prop, S = fun w' => Keep noBlk w1 w' := ⟨_, rfl⟩
  have HSE := Lib.hid (show ∀ w', S w' → Keep noBlk w1 w' from fun w' h => by rw [hS0] at h; exact h)
  have HSI := Lib.hid (show ∀ w', Keep noBlk w1 w' → S w' from fun w' h => by rw [hS0]; exact h)
  have hS : S w1.drew := by rw [hS0]; exact (Keep.refl _ _).drew
  clear hS0
  refine wp_region_held (S := S) (by kernel_rfl) ?_
  change wpAnyH _ _ _ _ _ _ _ _ w1.drew
  generalize w1.drew = wq41 at hS ⊢
  refine tnb 0 (.pointer (some ⟨bx, 3, none⟩)) rfl hS ?_
  refine tnd 1 (.slice xa tn xc) rfl (.inl ⟨by rfl, fun w' hw' => by have c := (HSE.out w' hw').cell HC3.out id; go_simp⟩) hS ?_
  refine tnb 3 (.pointer (some ⟨bx, 4, none⟩)) rfl hS ?_
  refine tnd 4 (.slice ya ln yc) rfl (.inl ⟨by rfl, fun w' hw' => by have c := (HSE.out w' hw').cell HC4.out id; go_simp⟩) hS ?_
  refine wpAnyH_one (k := 2) rfl (by kernel_rfl) ?_
  go_wp2_with fail
  have hlb := lentB_any wq41 (.slice xa tn xc) th (by rw [HTN.out]; exact (HRT.out.keep HST.out.keep fun _ _ => id).keep (HSE.out _ hS) fun _ _ => id) (by rw [HTN.out]; omega)
  refine hlb.mono ?_
  rintro e wq42 ⟨g, rfl, hgl, hk, hgs⟩
  rw [HTN.out]
  have hgs2 : bx ≤ g := by have := HXS.out; have := (HSE.out _ hS).size; omega
  have HG := Lib.hid hgl
  clear hlb hgl hgs
  have hS1 := HSI.out _ ((HSE.out _ hS).trans hk)
  clear hS hk
  go_wp2_with fail
  refine ⟨hS1, ?_⟩
  refine wpAnyH_one (k := 5) rfl (by kernel_rfl) ?_
  go_wp2_with fail
  have hlb := copyAddrs_any wq42 (.slice ya ln yc) l (by rw [HLN.out]; exact (HRL.out.keep HST.out.keep fun _ _ => id).keep (HSE.out _ hS1) fun _ _ => id) (by rw [HLN.out]; omega)
  refine hlb.mono ?_
  rintro e wq43 ⟨vc, rfl, ho_, hk⟩
  rw [HLN.out] at ho_
  obtain ⟨la, lc, rfl, -, -⟩ := (Rd.of_owns ho_).form
  have HLC : Hid (wq43.ownsRow bx 50 2 (.slice la ln lc) ln (adCells l)) := Lib.hid (ownsRow_mono ho_ (by have := HXS.out; have := (HSE.out _ hS1).size; omega))
  have HG := Lib.hid (HG.out.keep hk id)
  clear hlb ho_
  have hS2 := HSI.out _ ((HSE.out _ hS1).trans hk)
  clear hS1 hk
  go_wp2_with fail
  refine ⟨hS2, ?_⟩
  refine tna 6 (.slice (some ⟨g, 0, none⟩) tn (tn + 3)) rfl hS2 ?_
  refine tna 7 (.slice la ln lc) rfl hS2 ?_
  refine wpAnyH_done (by kernel_rfl) ?_ _
  have HKR := Lib.hid (HSE.out _ hS2)
  clear hS2 HSE HSI
  have HST := Lib.hid (HST.out.keep0 HKR.out)
  have HB := Lib.hid (HKR.out.blk HB.out id)
  clear HC3 HC4 HW0 HKR
  have hc0 := blk_cell HB.out (i := 0) rfl
  by_cases ek0 : kd = 0
  · as_aux_lemma =>
      subst ek0
      have hc1 := blk_cell HB.out (i := 1) rfl
      go_wp2_with fail
      clear hc0 hc1
      have hct := take_any wq43 lo a b D Z c C HST.out.led (.slice (some ⟨g, 0, none⟩) tn (tn + 3)) th cp (by have h := HG.out.rd (by rw [HTN.out]; omega); rw [HTN.out] at h ⊢; exact h)
      refine hct.mono ?_
      intro e w4 hp
      clear hct
      rcases hp.of with ⟨n, hR, rfl, hk⟩ | ⟨q, v1, hR, hch, rfl, hl4, ho4, hk⟩
      · have HR := Lib.hid hR
        clear hp hR
        have HST := Lib.hid (HST.out.keep0 hk)
        have HB := Lib.hid (hk.blk HB.out id)
        have HG := Lib.hid (HG.out.keep hk id)
        have HLC := Lib.hid (hk.owns HLC.out fun _ _ => id)
        clear hk
        have hc1 := blk_cell HB.out (i := 1) rfl
        have hc3 := blk_cell HB.out (i := 3) rfl
        go_wp2_with fail
        have hct := rtake_any w4 r D Z _ C HST.out.ref (.slice xa tn xc) th cp (by rw [HTN.out]; exact HRT.out.keep HST.out.keep fun _ _ => id)
        refine hct.mono ?_
        intro e w5 hp
        clear hct hc1 hc3
        rcases hp.of with ⟨n', hR', rfl, hk⟩ | ⟨q, vo, v', hR', -⟩
        case inr => rw [HR.out] at hR'; cases hR'
        obtain rfl : n = n' := by rw [HR.out] at hR'; cases hR'; rfl
        have hn0 : (n == 0) = false := by rcases takeR_ne HR.out with rfl | rfl <;> rfl
        clear hp hR' 
        have HST := Lib.hid (HST.out.keep0 hk)
        have HB := Lib.hid (hk.blk HB.out id)
        have HG := Lib.hid (HG.out.keep hk id)
        have HLC := Lib.hid (hk.owns HLC.out fun _ _ => id)
        clear hk
        go_wp2_with fail
        refine (same_any w5 (.slice none 0 0) (.slice none 0 0) [] [] (Rd.nil _ _) (Rd.nil _ _) true rfl).mono ?_
        rintro e w6 ⟨rfl, hk⟩
        have HST := Lib.hid (HST.out.keep0 hk)
        have HB := Lib.hid (hk.blk HB.out id)
        have HG := Lib.hid (HG.out.keep hk id)
        have HLC := Lib.hid (hk.owns HLC.out fun _ _ => id)
        clear hk
        go_wp2_with fail
        refine (over_any w6 0 0 (.slice none 0 0) [] (World.ownsRow_nil _ _ _ _)).mono ?_
        rintro e w7 ⟨rfl, hk7⟩
        have hk : Keep noBlk w6 w7 := hk7.mono fun j _ h => by cases h
        clear hk7
        have HST := Lib.hid (HST.out.keep0 hk)
        have HB := Lib.hid (hk.blk HB.out id)
        have HG := Lib.hid (HG.out.keep hk id)
        have HLC := Lib.hid (hk.owns HLC.out fun _ _ => id)
        clear hk
        try clear hc0
        try clear hc1
        try clear hc2
        try clear hc3
        try clear hc4
        have hc3 := blk_cell HB.out (i := 3) rfl
        have hc4 := blk_cell HB.out (i := 4) rfl
        go_wp2_with fail
        have hkb := keptB_any w7 (.slice xa tn xc) th (by rw [HTN.out]; exact HRT.out.keep HST.out.keep fun _ _ => id) (by rw [HTN.out]; omega) g HG.out
        rw [HTN.out] at hkb
        refine hkb.mono ?_
        rintro e wk1 ⟨rfl, hk⟩
        clear hkb hc3 hc4
        have HST := Lib.hid (HST.out.keep0 hk)
        have HB := Lib.hid (hk.blk HB.out id)
        have HG := Lib.hid (HG.out.keep hk id)
        have HLC := Lib.hid (hk.owns HLC.out fun _ _ => id)
        clear hk
        have hc4 := blk_cell HB.out (i := 4) rfl
        go_wp2_with fail
        refine (same_any wk1 (.slice la ln lc) (.slice ya ln yc) l l (by rw [HLN.out]; exact Rd.of_owns HLC.out) (by rw [HLN.out]; exact HRL.out.keep HST.out.keep fun _ _ => id) true (decide_eq_true rfl)).mono ?_
        rintro e wk2 ⟨rfl, hk⟩
        clear hc4
        have HST := Lib.hid (HST.out.keep0 hk)
        have HB := Lib.hid (hk.blk HB.out id)
        have HG := Lib.hid (HG.out.keep hk id)
        have HLC := Lib.hid (hk.owns HLC.out fun _ _ => id)
        clear hk
        go_wp2_with fail
        go_ret2
        exact ⟨c, _, C, _, T, rfl, HST.out, Nat.le_succ _⟩
      · have HR := Lib.hid hR
        have hq8 : q.length ≤ 8 := by
          have hcs := choose_some hch
          have h1 : q.length ≤ (List.range D).length := List.Nodup.length_le_of_subset hcs.2.2.2.1 fun d hd => List.mem_range.2 (choose_head hch hd).1
          rw [List.length_range] at h1; omega
        obtain ⟨qn, hqn⟩ : ∃ n, q.length = n := ⟨_, rfl⟩
        have HQN := Lib.hid hqn
        have HTKL : Hid ((takenL C Z q).length = qn) := Lib.hid (by rw [takenL_len, hqn])
        rw [hqn] at ho4 hq8
        obtain ⟨pa, pc, rfl, -, -⟩ := (Rd.of_owns ho4).form
        have hgl := lt_of_block HG.out
        have HLL : Hid (∀ i, (Value.slice la ln lc).ownBlock = some i → i < wq43.heap.size) := Lib.hid (fun i hi => by obtain ⟨cur, hc⟩ := owns_block HLC.out hi; exact lt_of_block hc)
        have hxs := HXS.out
        have hsz0 : bx < wq43.heap.size := by have := HST.out.keep.size; exact lt_of_block HB.out
        have HB := Lib.hid (hk.blk HB.out fun ho => by have := HMB.out _ (.inl ho); omega)
        have HG := Lib.hid (HG.out.keep hk fun ho => by have := HMB.out _ (.inl ho); omega)
        have HLC := Lib.hid (hk.owns HLC.out fun i hi ho => by have := HMB.out _ (.inl ho); have := owns_base HLC.out hi; omega)
        have HKX : Hid (Keep noBlk w0 w4) := Lib.hid (HST.out.keep.trans' hk (fun _ _ h => h) (fun i hi ho => by have := (HST.out.led.own_lt ho).1; have := HST.out.lo0; omega))
        have hr4 := HST.out.ref.keep hk (fun ho => HST.out.nr ho) (fun i hi ho => HST.out.nv i hi (.inl ho))
        have HL4 := Lib.hid hl4; have HO4 := Lib.hid ho4; have HK4 := Lib.hid hk; have HR4 := Lib.hid hr4
        clear hp hR hch hl4 ho4 hk hr4 hqn
        have hc1 := blk_cell HB.out (i := 1) rfl
        have hc3 := blk_cell HB.out (i := 3) rfl
        go_wp2_with fail
        have hct := rtake_any w4 r D Z _ C HR4.out (.slice xa tn xc) th cp (by rw [HTN.out]; exact HRT.out.keep HKX.out fun _ _ => id)
        refine hct.mono ?_
        intro e w5 hp
        clear hct hc1 hc3
        rcases hp.of with ⟨n', hR', -⟩ | ⟨q', vo, vz, hR', rfl, hr5, ho5, hv5, hk5⟩
        case inl => rw [HR.out] at hR'; cases hR'
        obtain rfl : q = q' := by rw [HR.out] at hR'; cases hR'; rfl
        rw [HQN.out] at ho5
        have hs45b := hk5.size
        obtain ⟨ua, uc, rfl, -, -⟩ := (Rd.of_owns ho5).form
        have hrx := HMB.out _ (.inr rfl)
        have hs45 := HK4.out.size
        have hst5 := HST.out.next HK4.out HL4.out (fun d g _ h => .inl h) hk5 hr5 hv5 (fun x => mem_canon.symm)
        have HB := Lib.hid (hk5.blk HB.out fun e => by have e : bx = r := e; omega)
        have HG := Lib.hid (HG.out.keep hk5 fun e => by have e : g = r := e; omega)
        have HLC := Lib.hid (hk5.owns HLC.out fun i hi e => by have := owns_base HLC.out hi; omega)
        have HP5 := Lib.hid (hk5.owns HO4.out fun i hi e => by have := owns_base HO4.out hi; omega)
        have HQ5 := Lib.hid ho5
        have HST := Lib.hid hst5; have HV5 := Lib.hid hv5
        have HPL : Hid (∀ i, (Value.slice pa qn pc).ownBlock = some i → wq43.heap.size ≤ i ∧ i < w4.heap.size) := Lib.hid (fun i hi => ⟨owns_base HO4.out hi, by obtain ⟨cur, hc⟩ := owns_block HO4.out hi; exact lt_of_block hc⟩)
        clear hp hR' hst5 hr5 ho5 hv5 hk5
        go_wp2_with fail
        refine (same_any w5 (.slice pa qn pc) (.slice ua qn uc) (takenL C Z q) (takenL C Z q) (by rw [HTKL.out]; exact Rd.of_owns HP5.out) (by rw [HTKL.out]; exact Rd.of_owns HQ5.out) true (decide_eq_true rfl)).mono ?_
        rintro e w6 ⟨rfl, hk⟩
        have hs56 := hk.size
        have HST := Lib.hid (HST.out.keep0 hk)
        have HB := Lib.hid (hk.blk HB.out id)
        have HG := Lib.hid (HG.out.keep hk id)
        have HLC := Lib.hid (hk.owns HLC.out fun _ _ => id)
        have HP5 := Lib.hid (hk.owns HP5.out fun _ _ => id)
        have HQ5 := Lib.hid (hk.owns HQ5.out fun _ _ => id)
        clear hk
        have hrow := HST.out.tak.row
        rw [HTL.out] at hrow
        have hs46 : w4.heap.size ≤ w6.heap.size := by omega
        obtain ⟨w7, hw7, hk7, hb7, hs7⟩ := alloc_facts w6 #[(.slice ua qn uc)] 22
        have HR8 : Hid (Rd w7 1 (.slice (some ⟨w6.heap.size, 0, none⟩) 1 1) 1 [(Value.slice ua qn uc)]) := Lib.hid (rd_blk (n := 1) (size := 1) (vs := [(Value.slice ua qn uc)]) hb7 rfl (by unfold maxLen; omega))
        have HO8 := Lib.hid (hk7.owns hrow fun _ _ => id)
        have hB : lo ≤ w7.heap.size := by omega
        have hs7b : w4.heap.size ≤ w7.heap.size := by omega
        have hone : ∀ u ∈ [Value.slice ua qn uc], u.oneCell' = true := by simp [Value.oneCell']
        have HST := Lib.hid (HST.out.keep0 hk7)
        have HB := Lib.hid (hk7.blk HB.out id)
        have HG := Lib.hid (HG.out.keep hk7 id)
        have HLC := Lib.hid (hk7.owns HLC.out fun _ _ => id)
        have HP5 := Lib.hid (hk7.owns HP5.out fun _ _ => id)
        have HQ5 := Lib.hid (hk7.owns HQ5.out fun _ _ => id)
        clear hrow hk7 hb7 hs7
        go_wp2_with (at_builtin; try rw [hw7]
                     refine wpList_append_rd rfl (.tmp 62) (.tmp 64) 36 rfl lo 22 (.slice none 0 0) 1 24 Try.underlying36 infoLS rfl (by decide) (.slice ta tl tcap) tl (T.map (·.1)) rfl HO8.out (.slice (some ⟨w6.heap.size, 0, none⟩) 1 1) 1 [(Value.slice ua qn uc)] rfl HR8.out hone (by unfold maxLen; omega) (by omega) hB ?_
                     intro v' w8 ho8 hk8 hn8 hb8
                     obtain ⟨tb, tbc, rfl, -, -⟩ := (Rd.of_owns ho8).form
                     have HO9 := Lib.hid ho8; have HK8 := Lib.hid hk8; have HN8 := Lib.hid hb8
                     clear ho8 hk8 hn8 hb8 hw7)
        have HST : Hid (StIs w0 w8 lo a b c r vz D Z (canon (C ++ takenL C Z q)) (.slice tb (tl + 1) tbc) (T ++ [(.slice ua qn uc, takenL C Z q)])) := Lib.hid (HST.out.push (bo := w4.heap.size) (by rw [HTL.out]; exact HO9.out) HK8.out HN8.out (by rw [HTKL.out]; exact HQ5.out) (by omega) (by rw [HTKL.out]; exact hq8) (fun i hi => by
          have h1 := owns_base HQ5.out hi
          exact ⟨fun hm => by have := HMB.out i hm; omega, fun ht => by have := HTB.out i ht; omega⟩))
        have HB := Lib.hid (HK8.out.blk HB.out fun e => by have := HTB.out _ e; omega)
        have HG := Lib.hid (HG.out.keep HK8.out fun e => by have := HTB.out _ e; omega)
        have HLC := Lib.hid (HK8.out.owns HLC.out fun i hi e => by have := HTB.out _ e; have := owns_base HLC.out hi; omega)
        have HP5 := Lib.hid (HK8.out.owns HP5.out fun i hi e => by have := HTB.out _ e; have := owns_base HP5.out hi; omega)
        have HQL : Hid (∀ i, (Value.slice ua qn uc).ownBlock = some i → w4.heap.size ≤ i) := Lib.hid (fun i hi => owns_base HQ5.out hi)
        clear HK8 HO9 HO8 HR8 HQ5
        refine (over_any w8 _ qn (.slice pa qn pc) _ HP5.out).mono ?_
        rintro e w9 ⟨rfl, hk9⟩
        have HST := Lib.hid (HST.out.keepS hk9 (fun i hi => by
          have h1 := HPL.out i hi
          refine ⟨by omega, fun hm => by have := HMB.out i hm; omega, fun hv => by have := HV5.out i hv; omega, fun ht => ?_, fun p hp hpi => ?_⟩
          · rcases HN8.out with e | e
            · rw [e] at ht; have := HTB.out i ht; omega
            · rw [e] at ht; cases ht; omega
          · rcases List.mem_append.1 hp with hp | hp
            · have := HTR.out p hp i hpi; omega
            · rw [List.mem_singleton.1 hp] at hpi; have := HQL.out i hpi; omega))
        have HB := Lib.hid (hk9.blk HB.out fun e => by have := HPL.out _ e; omega)
        have HG := Lib.hid (HG.out.keep hk9 fun e => by have := HPL.out _ e; omega)
        have HLC := Lib.hid (hk9.owns HLC.out fun i hi e => by have h1 := (HPL.out _ e).1; have h2 := HLL.out i hi; omega)
        clear hk9
        try clear hc0
        try clear hc1
        try clear hc2
        try clear hc3
        try clear hc4
        have hc3 := blk_cell HB.out (i := 3) rfl
        have hc4 := blk_cell HB.out (i := 4) rfl
        go_wp2_with fail
        have hkb := keptB_any w9 (.slice xa tn xc) th (by rw [HTN.out]; exact HRT.out.keep HST.out.keep fun _ _ => id) (by rw [HTN.out]; omega) g HG.out
        rw [HTN.out] at hkb
        refine hkb.mono ?_
        rintro e wk1 ⟨rfl, hk⟩
        clear hkb hc3 hc4
        have HST := Lib.hid (HST.out.keep0 hk)
        have HB := Lib.hid (hk.blk HB.out id)
        have HG := Lib.hid (HG.out.keep hk id)
        have HLC := Lib.hid (hk.owns HLC.out fun _ _ => id)
        clear hk
        have hc4 := blk_cell HB.out (i := 4) rfl
        go_wp2_with fail
        refine (same_any wk1 (.slice la ln lc) (.slice ya ln yc) l l (by rw [HLN.out]; exact Rd.of_owns HLC.out) (by rw [HLN.out]; exact HRL.out.keep HST.out.keep fun _ _ => id) true (decide_eq_true rfl)).mono ?_
        rintro e wk2 ⟨rfl, hk⟩
        clear hc4
        have HST := Lib.hid (HST.out.keep0 hk)
        have HB := Lib.hid (hk.blk HB.out id)
        have HG := Lib.hid (HG.out.keep hk id)
        have HLC := Lib.hid (hk.owns HLC.out fun _ _ => id)
        clear hk
        go_wp2_with fail
        go_ret2
        exact ⟨c, _, _, _, _, rfl, HST.out, by rw [List.length_append]; exact Nat.le_refl _⟩
  · by_cases ek1 : kd = 1
    · as_aux_lemma =>
        subst ek1
        have hc1 := blk_cell HB.out (i := 1) rfl
        go_wp2_with fail
        clear hc0 hc1
        have hct := take_any wq43 lo a b D Z c C HST.out.led (.slice (some ⟨g, 0, none⟩) tn (tn + 3)) th cp (by have h := HG.out.rd (by rw [HTN.out]; omega); rw [HTN.out] at h ⊢; exact h)
        refine hct.mono ?_
        intro e w4 hp
        clear hct
        rcases hp.of with ⟨n, hR, rfl, hk⟩ | ⟨q, v1, hR, hch, rfl, hl4, ho4, hk⟩
        · have HR := Lib.hid hR
          clear hp hR
          have HST := Lib.hid (HST.out.keep0 hk)
          have HB := Lib.hid (hk.blk HB.out id)
          have HG := Lib.hid (HG.out.keep hk id)
          have HLC := Lib.hid (hk.owns HLC.out fun _ _ => id)
          clear hk
          have hc1 := blk_cell HB.out (i := 1) rfl
          have hc3 := blk_cell HB.out (i := 3) rfl
          go_wp2_with fail
          have hct := rtake_any w4 r D Z _ C HST.out.ref (.slice xa tn xc) th cp (by rw [HTN.out]; exact HRT.out.keep HST.out.keep fun _ _ => id)
          refine hct.mono ?_
          intro e w5 hp
          clear hct hc1 hc3
          rcases hp.of with ⟨n', hR', rfl, hk⟩ | ⟨q, vo, v', hR', -⟩
          case inr => rw [HR.out] at hR'; cases hR'
          obtain rfl : n = n' := by rw [HR.out] at hR'; cases hR'; rfl
          have hn0 : (n == 0) = false := by rcases takeR_ne HR.out with rfl | rfl <;> rfl
          clear hp hR' 
          have HST := Lib.hid (HST.out.keep0 hk)
          have HB := Lib.hid (hk.blk HB.out id)
          have HG := Lib.hid (HG.out.keep hk id)
          have HLC := Lib.hid (hk.owns HLC.out fun _ _ => id)
          clear hk
          go_wp2_with fail
          refine (same_any w5 (.slice none 0 0) (.slice none 0 0) [] [] (Rd.nil _ _) (Rd.nil _ _) true rfl).mono ?_
          rintro e w6 ⟨rfl, hk⟩
          have HST := Lib.hid (HST.out.keep0 hk)
          have HB := Lib.hid (hk.blk HB.out id)
          have HG := Lib.hid (HG.out.keep hk id)
          have HLC := Lib.hid (hk.owns HLC.out fun _ _ => id)
          clear hk
          go_wp2_with fail
          refine (over_any w6 0 0 (.slice none 0 0) [] (World.ownsRow_nil _ _ _ _)).mono ?_
          rintro e w7 ⟨rfl, hk7⟩
          have hk : Keep noBlk w6 w7 := hk7.mono fun j _ h => by cases h
          clear hk7
          have HST := Lib.hid (HST.out.keep0 hk)
          have HB := Lib.hid (hk.blk HB.out id)
          have HG := Lib.hid (HG.out.keep hk id)
          have HLC := Lib.hid (hk.owns HLC.out fun _ _ => id)
          clear hk
          try clear hc0
          try clear hc1
          try clear hc2
          try clear hc3
          try clear hc4
          have hc3 := blk_cell HB.out (i := 3) rfl
          have hc4 := blk_cell HB.out (i := 4) rfl
          go_wp2_with fail
          have hkb := keptB_any w7 (.slice xa tn xc) th (by rw [HTN.out]; exact HRT.out.keep HST.out.keep fun _ _ => id) (by rw [HTN.out]; omega) g HG.out
          rw [HTN.out] at hkb
          refine hkb.mono ?_
          rintro e wk1 ⟨rfl, hk⟩
          clear hkb hc3 hc4
          have HST := Lib.hid (HST.out.keep0 hk)
          have HB := Lib.hid (hk.blk HB.out id)
          have HG := Lib.hid (HG.out.keep hk id)
          have HLC := Lib.hid (hk.owns HLC.out fun _ _ => id)
          clear hk
          have hc4 := blk_cell HB.out (i := 4) rfl
          go_wp2_with fail
          refine (same_any wk1 (.slice la ln lc) (.slice ya ln yc) l l (by rw [HLN.out]; exact Rd.of_owns HLC.out) (by rw [HLN.out]; exact HRL.out.keep HST.out.keep fun _ _ => id) true (decide_eq_true rfl)).mono ?_
          rintro e wk2 ⟨rfl, hk⟩
          clear hc4
          have HST := Lib.hid (HST.out.keep0 hk)
          have HB := Lib.hid (hk.blk HB.out id)
          have HG := Lib.hid (HG.out.keep hk id)
          have HLC := Lib.hid (hk.owns HLC.out fun _ _ => id)
          clear hk
          go_wp2_with fail
          go_ret2
          exact ⟨c, _, C, _, T, rfl, HST.out, Nat.le_succ _⟩
        · have HR := Lib.hid hR
          have hq8 : q.length ≤ 8 := by
            have hcs := choose_some hch
            have h1 : q.length ≤ (List.range D).length := List.Nodup.length_le_of_subset hcs.2.2.2.1 fun d hd => List.mem_range.2 (choose_head hch hd).1
            rw [List.length_range] at h1; omega
          obtain ⟨qn, hqn⟩ : ∃ n, q.length = n := ⟨_, rfl⟩
          have HQN := Lib.hid hqn
          have HTKL : Hid ((takenL C Z q).length = qn) := Lib.hid (by rw [takenL_len, hqn])
          rw [hqn] at ho4 hq8
          obtain ⟨pa, pc, rfl, -, -⟩ := (Rd.of_owns ho4).form
          have hgl := lt_of_block HG.out
          have HLL : Hid (∀ i, (Value.slice la ln lc).ownBlock = some i → i < wq43.heap.size) := Lib.hid (fun i hi => by obtain ⟨cur, hc⟩ := owns_block HLC.out hi; exact lt_of_block hc)
          have hxs := HXS.out
          have hsz0 : bx < wq43.heap.size := by have := HST.out.keep.size; exact lt_of_block HB.out
          have HB := Lib.hid (hk.blk HB.out fun ho => by have := HMB.out _ (.inl ho); omega)
          have HG := Lib.hid (HG.out.keep hk fun ho => by have := HMB.out _ (.inl ho); omega)
          have HLC := Lib.hid (hk.owns HLC.out fun i hi ho => by have := HMB.out _ (.inl ho); have := owns_base HLC.out hi; omega)
          have HKX : Hid (Keep noBlk w0 w4) := Lib.hid (HST.out.keep.trans' hk (fun _ _ h => h) (fun i hi ho => by have := (HST.out.led.own_lt ho).1; have := HST.out.lo0; omega))
          have hr4 := HST.out.ref.keep hk (fun ho => HST.out.nr ho) (fun i hi ho => HST.out.nv i hi (.inl ho))
          have HL4 := Lib.hid hl4; have HO4 := Lib.hid ho4; have HK4 := Lib.hid hk; have HR4 := Lib.hid hr4
          clear hp hR hch hl4 ho4 hk hr4 hqn
          have hc1 := blk_cell HB.out (i := 1) rfl
          have hc3 := blk_cell HB.out (i := 3) rfl
          go_wp2_with fail
          have hct := rtake_any w4 r D Z _ C HR4.out (.slice xa tn xc) th cp (by rw [HTN.out]; exact HRT.out.keep HKX.out fun _ _ => id)
          refine hct.mono ?_
          intro e w5 hp
          clear hct hc1 hc3
          rcases hp.of with ⟨n', hR', -⟩ | ⟨q', vo, vz, hR', rfl, hr5, ho5, hv5, hk5⟩
          case inl => rw [HR.out] at hR'; cases hR'
          obtain rfl : q = q' := by rw [HR.out] at hR'; cases hR'; rfl
          rw [HQN.out] at ho5
          have hs45b := hk5.size
          obtain ⟨ua, uc, rfl, -, -⟩ := (Rd.of_owns ho5).form
          have hrx := HMB.out _ (.inr rfl)
          have hs45 := HK4.out.size
          have hst5 := HST.out.next HK4.out HL4.out (fun d g _ h => .inl h) hk5 hr5 hv5 (fun x => mem_canon.symm)
          have HB := Lib.hid (hk5.blk HB.out fun e => by have e : bx = r := e; omega)
          have HG := Lib.hid (HG.out.keep hk5 fun e => by have e : g = r := e; omega)
          have HLC := Lib.hid (hk5.owns HLC.out fun i hi e => by have := owns_base HLC.out hi; omega)
          have HP5 := Lib.hid (hk5.owns HO4.out fun i hi e => by have := owns_base HO4.out hi; omega)
          have HQ5 := Lib.hid ho5
          have HST := Lib.hid hst5; have HV5 := Lib.hid hv5
          have HPL : Hid (∀ i, (Value.slice pa qn pc).ownBlock = some i → wq43.heap.size ≤ i ∧ i < w4.heap.size) := Lib.hid (fun i hi => ⟨owns_base HO4.out hi, by obtain ⟨cur, hc⟩ := owns_block HO4.out hi; exact lt_of_block hc⟩)
          clear hp hR' hst5 hr5 ho5 hv5 hk5
          go_wp2_with fail
          refine (same_any w5 (.slice pa qn pc) (.slice ua qn uc) (takenL C Z q) (takenL C Z q) (by rw [HTKL.out]; exact Rd.of_owns HP5.out) (by rw [HTKL.out]; exact Rd.of_owns HQ5.out) true (decide_eq_true rfl)).mono ?_
          rintro e w6 ⟨rfl, hk⟩
          have hs56 := hk.size
          have HST := Lib.hid (HST.out.keep0 hk)
          have HB := Lib.hid (hk.blk HB.out id)
          have HG := Lib.hid (HG.out.keep hk id)
          have HLC := Lib.hid (hk.owns HLC.out fun _ _ => id)
          have HP5 := Lib.hid (hk.owns HP5.out fun _ _ => id)
          have HQ5 := Lib.hid (hk.owns HQ5.out fun _ _ => id)
          clear hk
          have hrow := HST.out.tak.row
          rw [HTL.out] at hrow
          have hs46 : w4.heap.size ≤ w6.heap.size := by omega
          obtain ⟨w7, hw7, hk7, hb7, hs7⟩ := alloc_facts w6 #[(.slice ua qn uc)] 22
          have HR8 : Hid (Rd w7 1 (.slice (some ⟨w6.heap.size, 0, none⟩) 1 1) 1 [(Value.slice ua qn uc)]) := Lib.hid (rd_blk (n := 1) (size := 1) (vs := [(Value.slice ua qn uc)]) hb7 rfl (by unfold maxLen; omega))
          have HO8 := Lib.hid (hk7.owns hrow fun _ _ => id)
          have hB : lo ≤ w7.heap.size := by omega
          have hs7b : w4.heap.size ≤ w7.heap.size := by omega
          have hone : ∀ u ∈ [Value.slice ua qn uc], u.oneCell' = true := by simp [Value.oneCell']
          have HST := Lib.hid (HST.out.keep0 hk7)
          have HB := Lib.hid (hk7.blk HB.out id)
          have HG := Lib.hid (HG.out.keep hk7 id)
          have HLC := Lib.hid (hk7.owns HLC.out fun _ _ => id)
          have HP5 := Lib.hid (hk7.owns HP5.out fun _ _ => id)
          have HQ5 := Lib.hid (hk7.owns HQ5.out fun _ _ => id)
          clear hrow hk7 hb7 hs7
          go_wp2_with (at_builtin; try rw [hw7]
                       refine wpList_append_rd rfl (.tmp 62) (.tmp 64) 36 rfl lo 22 (.slice none 0 0) 1 24 Try.underlying36 infoLS rfl (by decide) (.slice ta tl tcap) tl (T.map (·.1)) rfl HO8.out (.slice (some ⟨w6.heap.size, 0, none⟩) 1 1) 1 [(Value.slice ua qn uc)] rfl HR8.out hone (by unfold maxLen; omega) (by omega) hB ?_
                       intro v' w8 ho8 hk8 hn8 hb8
                       obtain ⟨tb, tbc, rfl, -, -⟩ := (Rd.of_owns ho8).form
                       have HO9 := Lib.hid ho8; have HK8 := Lib.hid hk8; have HN8 := Lib.hid hb8
                       clear ho8 hk8 hn8 hb8 hw7)
          have HST : Hid (StIs w0 w8 lo a b c r vz D Z (canon (C ++ takenL C Z q)) (.slice tb (tl + 1) tbc) (T ++ [(.slice ua qn uc, takenL C Z q)])) := Lib.hid (HST.out.push (bo := w4.heap.size) (by rw [HTL.out]; exact HO9.out) HK8.out HN8.out (by rw [HTKL.out]; exact HQ5.out) (by omega) (by rw [HTKL.out]; exact hq8) (fun i hi => by
            have h1 := owns_base HQ5.out hi
            exact ⟨fun hm => by have := HMB.out i hm; omega, fun ht => by have := HTB.out i ht; omega⟩))
          have HB := Lib.hid (HK8.out.blk HB.out fun e => by have := HTB.out _ e; omega)
          have HG := Lib.hid (HG.out.keep HK8.out fun e => by have := HTB.out _ e; omega)
          have HLC := Lib.hid (HK8.out.owns HLC.out fun i hi e => by have := HTB.out _ e; have := owns_base HLC.out hi; omega)
          have HP5 := Lib.hid (HK8.out.owns HP5.out fun i hi e => by have := HTB.out _ e; have := owns_base HP5.out hi; omega)
          have HQL : Hid (∀ i, (Value.slice ua qn uc).ownBlock = some i → w4.heap.size ≤ i) := Lib.hid (fun i hi => owns_base HQ5.out hi)
          clear HK8 HO9 HO8 HR8 HQ5
          refine (over_any w8 _ qn (.slice pa qn pc) _ HP5.out).mono ?_
          rintro e w9 ⟨rfl, hk9⟩
          have HST := Lib.hid (HST.out.keepS hk9 (fun i hi => by
            have h1 := HPL.out i hi
            refine ⟨by omega, fun hm => by have := HMB.out i hm; omega, fun hv => by have := HV5.out i hv; omega, fun ht => ?_, fun p hp hpi => ?_⟩
            · rcases HN8.out with e | e
              · rw [e] at ht; have := HTB.out i ht; omega
              · rw [e] at ht; cases ht; omega
            · rcases List.mem_append.1 hp with hp | hp
              · have := HTR.out p hp i hpi; omega
              · rw [List.mem_singleton.1 hp] at hpi; have := HQL.out i hpi; omega))
          have HB := Lib.hid (hk9.blk HB.out fun e => by have := HPL.out _ e; omega)
          have HG := Lib.hid (HG.out.keep hk9 fun e => by have := HPL.out _ e; omega)
          have HLC := Lib.hid (hk9.owns HLC.out fun i hi e => by have h1 := (HPL.out _ e).1; have h2 := HLL.out i hi; omega)
          clear hk9
          try clear hc0
          try clear hc1
          try clear hc2
          try clear hc3
          try clear hc4
          have hc3 := blk_cell HB.out (i := 3) rfl
          have hc4 := blk_cell HB.out (i := 4) rfl
          go_wp2_with fail
          have hkb := keptB_any w9 (.slice xa tn xc) th (by rw [HTN.out]; exact HRT.out.keep HST.out.keep fun _ _ => id) (by rw [HTN.out]; omega) g HG.out
          rw [HTN.out] at hkb
          refine hkb.mono ?_
          rintro e wk1 ⟨rfl, hk⟩
          clear hkb hc3 hc4
          have HST := Lib.hid (HST.out.keep0 hk)
          have HB := Lib.hid (hk.blk HB.out id)
          have HG := Lib.hid (HG.out.keep hk id)
          have HLC := Lib.hid (hk.owns HLC.out fun _ _ => id)
          clear hk
          have hc4 := blk_cell HB.out (i := 4) rfl
          go_wp2_with fail
          refine (same_any wk1 (.slice la ln lc) (.slice ya ln yc) l l (by rw [HLN.out]; exact Rd.of_owns HLC.out) (by rw [HLN.out]; exact HRL.out.keep HST.out.keep fun _ _ => id) true (decide_eq_true rfl)).mono ?_
          rintro e wk2 ⟨rfl, hk⟩
          clear hc4
          have HST := Lib.hid (HST.out.keep0 hk)
          have HB := Lib.hid (hk.blk HB.out id)
          have HG := Lib.hid (HG.out.keep hk id)
          have HLC := Lib.hid (hk.owns HLC.out fun _ _ => id)
          clear hk
          go_wp2_with fail
          go_ret2
          exact ⟨c, _, _, _, _, rfl, HST.out, by rw [List.length_append]; exact Nat.le_refl _⟩
    · by_cases ek2 : kd = 2
      · as_aux_lemma =>
          subst ek2
          have hc1 := blk_cell HB.out (i := 1) rfl
          go_wp2_with fail
          clear hc0 hc1
          have hct := take_any wq43 lo a b D Z c C HST.out.led (.slice (some ⟨g, 0, none⟩) tn (tn + 3)) th cp (by have h := HG.out.rd (by rw [HTN.out]; omega); rw [HTN.out] at h ⊢; exact h)
          refine hct.mono ?_
          intro e w4 hp
          clear hct
          rcases hp.of with ⟨n, hR, rfl, hk⟩ | ⟨q, v1, hR, hch, rfl, hl4, ho4, hk⟩
          · have HR := Lib.hid hR
            clear hp hR
            have HST := Lib.hid (HST.out.keep0 hk)
            have HB := Lib.hid (hk.blk HB.out id)
            have HG := Lib.hid (HG.out.keep hk id)
            have HLC := Lib.hid (hk.owns HLC.out fun _ _ => id)
            clear hk
            have hc1 := blk_cell HB.out (i := 1) rfl
            have hc3 := blk_cell HB.out (i := 3) rfl
            go_wp2_with fail
            have hct := rtake_any w4 r D Z _ C HST.out.ref (.slice xa tn xc) th cp (by rw [HTN.out]; exact HRT.out.keep HST.out.keep fun _ _ => id)
            refine hct.mono ?_
            intro e w5 hp
            clear hct hc1 hc3
            rcases hp.of with ⟨n', hR', rfl, hk⟩ | ⟨q, vo, v', hR', -⟩
            case inr => rw [HR.out] at hR'; cases hR'
            obtain rfl : n = n' := by rw [HR.out] at hR'; cases hR'; rfl
            have hn0 : (n == 0) = false := by rcases takeR_ne HR.out with rfl | rfl <;> rfl
            clear hp hR' 
            have HST := Lib.hid (HST.out.keep0 hk)
            have HB := Lib.hid (hk.blk HB.out id)
            have HG := Lib.hid (HG.out.keep hk id)
            have HLC := Lib.hid (hk.owns HLC.out fun _ _ => id)
            clear hk
            go_wp2_with fail
            refine (same_any w5 (.slice none 0 0) (.slice none 0 0) [] [] (Rd.nil _ _) (Rd.nil _ _) true rfl).mono ?_
            rintro e w6 ⟨rfl, hk⟩
            have HST := Lib.hid (HST.out.keep0 hk)
            have HB := Lib.hid (hk.blk HB.out id)
            have HG := Lib.hid (HG.out.keep hk id)
            have HLC := Lib.hid (hk.owns HLC.out fun _ _ => id)
            clear hk
            go_wp2_with fail
            refine (over_any w6 0 0 (.slice none 0 0) [] (World.ownsRow_nil _ _ _ _)).mono ?_
            rintro e w7 ⟨rfl, hk7⟩
            have hk : Keep noBlk w6 w7 := hk7.mono fun j _ h => by cases h
            clear hk7
            have HST := Lib.hid (HST.out.keep0 hk)
            have HB := Lib.hid (hk.blk HB.out id)
            have HG := Lib.hid (HG.out.keep hk id)
            have HLC := Lib.hid (hk.owns HLC.out fun _ _ => id)
            clear hk
            try clear hc0
            try clear hc1
            try clear hc2
            try clear hc3
            try clear hc4
            have hc3 := blk_cell HB.out (i := 3) rfl
            have hc4 := blk_cell HB.out (i := 4) rfl
            go_wp2_with fail
            have hkb := keptB_any w7 (.slice xa tn xc) th (by rw [HTN.out]; exact HRT.out.keep HST.out.keep fun _ _ => id) (by rw [HTN.out]; omega) g HG.out
            rw [HTN.out] at hkb
            refine hkb.mono ?_
            rintro e wk1 ⟨rfl, hk⟩
            clear hkb hc3 hc4
            have HST := Lib.hid (HST.out.keep0 hk)
            have HB := Lib.hid (hk.blk HB.out id)
            have HG := Lib.hid (HG.out.keep hk id)
            have HLC := Lib.hid (hk.owns HLC.out fun _ _ => id)
            clear hk
            have hc4 := blk_cell HB.out (i := 4) rfl
            go_wp2_with fail
            refine (same_any wk1 (.slice la ln lc) (.slice ya ln yc) l l (by rw [HLN.out]; exact Rd.of_owns HLC.out) (by rw [HLN.out]; exact HRL.out.keep HST.out.keep fun _ _ => id) true (decide_eq_true rfl)).mono ?_
            rintro e wk2 ⟨rfl, hk⟩
            clear hc4
            have HST := Lib.hid (HST.out.keep0 hk)
            have HB := Lib.hid (hk.blk HB.out id)
            have HG := Lib.hid (HG.out.keep hk id)
            have HLC := Lib.hid (hk.owns HLC.out fun _ _ => id)
            clear hk
            go_wp2_with fail
            go_ret2
            exact ⟨c, _, C, _, T, rfl, HST.out, Nat.le_succ _⟩
          · have HR := Lib.hid hR
            have hq8 : q.length ≤ 8 := by
              have hcs := choose_some hch
              have h1 : q.length ≤ (List.range D).length := List.Nodup.length_le_of_subset hcs.2.2.2.1 fun d hd => List.mem_range.2 (choose_head hch hd).1
              rw [List.length_range] at h1; omega
            obtain ⟨qn, hqn⟩ : ∃ n, q.length = n := ⟨_, rfl⟩
            have HQN := Lib.hid hqn
            have HTKL : Hid ((takenL C Z q).length = qn) := Lib.hid (by rw [takenL_len, hqn])
            rw [hqn] at ho4 hq8
            obtain ⟨pa, pc, rfl, -, -⟩ := (Rd.of_owns ho4).form
            have hgl := lt_of_block HG.out
            have HLL : Hid (∀ i, (Value.slice la ln lc).ownBlock = some i → i < wq43.heap.size) := Lib.hid (fun i hi => by obtain ⟨cur, hc⟩ := owns_block HLC.out hi; exact lt_of_block hc)
            have hxs := HXS.out
            have hsz0 : bx < wq43.heap.size := by have := HST.out.keep.size; exact lt_of_block HB.out
            have HB := Lib.hid (hk.blk HB.out fun ho => by have := HMB.out _ (.inl ho); omega)
            have HG := Lib.hid (HG.out.keep hk fun ho => by have := HMB.out _ (.inl ho); omega)
            have HLC := Lib.hid (hk.owns HLC.out fun i hi ho => by have := HMB.out _ (.inl ho); have := owns_base HLC.out hi; omega)
            have HKX : Hid (Keep noBlk w0 w4) := Lib.hid (HST.out.keep.trans' hk (fun _ _ h => h) (fun i hi ho => by have := (HST.out.led.own_lt ho).1; have := HST.out.lo0; omega))
            have hr4 := HST.out.ref.keep hk (fun ho => HST.out.nr ho) (fun i hi ho => HST.out.nv i hi (.inl ho))
            have HL4 := Lib.hid hl4; have HO4 := Lib.hid ho4; have HK4 := Lib.hid hk; have HR4 := Lib.hid hr4
            clear hp hR hch hl4 ho4 hk hr4 hqn
            have hc1 := blk_cell HB.out (i := 1) rfl
            have hc3 := blk_cell HB.out (i := 3) rfl
            go_wp2_with fail
            have hct := rtake_any w4 r D Z _ C HR4.out (.slice xa tn xc) th cp (by rw [HTN.out]; exact HRT.out.keep HKX.out fun _ _ => id)
            refine hct.mono ?_
            intro e w5 hp
            clear hct hc1 hc3
            rcases hp.of with ⟨n', hR', -⟩ | ⟨q', vo, vz, hR', rfl, hr5, ho5, hv5, hk5⟩
            case inl => rw [HR.out] at hR'; cases hR'
            obtain rfl : q = q' := by rw [HR.out] at hR'; cases hR'; rfl
            rw [HQN.out] at ho5
            have hs45b := hk5.size
            obtain ⟨ua, uc, rfl, -, -⟩ := (Rd.of_owns ho5).form
            have hrx := HMB.out _ (.inr rfl)
            have hs45 := HK4.out.size
            have hst5 := HST.out.next HK4.out HL4.out (fun d g _ h => .inl h) hk5 hr5 hv5 (fun x => mem_canon.symm)
            have HB := Lib.hid (hk5.blk HB.out fun e => by have e : bx = r := e; omega)
            have HG := Lib.hid (HG.out.keep hk5 fun e => by have e : g = r := e; omega)
            have HLC := Lib.hid (hk5.owns HLC.out fun i hi e => by have := owns_base HLC.out hi; omega)
            have HP5 := Lib.hid (hk5.owns HO4.out fun i hi e => by have := owns_base HO4.out hi; omega)
            have HQ5 := Lib.hid ho5
            have HST := Lib.hid hst5; have HV5 := Lib.hid hv5
            have HPL : Hid (∀ i, (Value.slice pa qn pc).ownBlock = some i → wq43.heap.size ≤ i ∧ i < w4.heap.size) := Lib.hid (fun i hi => ⟨owns_base HO4.out hi, by obtain ⟨cur, hc⟩ := owns_block HO4.out hi; exact lt_of_block hc⟩)
            clear hp hR' hst5 hr5 ho5 hv5 hk5
            go_wp2_with fail
            refine (same_any w5 (.slice pa qn pc) (.slice ua qn uc) (takenL C Z q) (takenL C Z q) (by rw [HTKL.out]; exact Rd.of_owns HP5.out) (by rw [HTKL.out]; exact Rd.of_owns HQ5.out) true (decide_eq_true rfl)).mono ?_
            rintro e w6 ⟨rfl, hk⟩
            have hs56 := hk.size
            have HST := Lib.hid (HST.out.keep0 hk)
            have HB := Lib.hid (hk.blk HB.out id)
            have HG := Lib.hid (HG.out.keep hk id)
            have HLC := Lib.hid (hk.owns HLC.out fun _ _ => id)
            have HP5 := Lib.hid (hk.owns HP5.out fun _ _ => id)
            have HQ5 := Lib.hid (hk.owns HQ5.out fun _ _ => id)
            clear hk
            have hrow := HST.out.tak.row
            rw [HTL.out] at hrow
            have hs46 : w4.heap.size ≤ w6.heap.size := by omega
            obtain ⟨w7, hw7, hk7, hb7, hs7⟩ := alloc_facts w6 #[(.slice ua qn uc)] 22
            have HR8 : Hid (Rd w7 1 (.slice (some ⟨w6.heap.size, 0, none⟩) 1 1) 1 [(Value.slice ua qn uc)]) := Lib.hid (rd_blk (n := 1) (size := 1) (vs := [(Value.slice ua qn uc)]) hb7 rfl (by unfold maxLen; omega))
            have HO8 := Lib.hid (hk7.owns hrow fun _ _ => id)
            have hB : lo ≤ w7.heap.size := by omega
            have hs7b : w4.heap.size ≤ w7.heap.size := by omega
            have hone : ∀ u ∈ [Value.slice ua qn uc], u.oneCell' = true := by simp [Value.oneCell']
            have HST := Lib.hid (HST.out.keep0 hk7)
            have HB := Lib.hid (hk7.blk HB.out id)
            have HG := Lib.hid (HG.out.keep hk7 id)
            have HLC := Lib.hid (hk7.owns HLC.out fun _ _ => id)
            have HP5 := Lib.hid (hk7.owns HP5.out fun _ _ => id)
            have HQ5 := Lib.hid (hk7.owns HQ5.out fun _ _ => id)
            clear hrow hk7 hb7 hs7
            go_wp2_with (at_builtin; try rw [hw7]
                         refine wpList_append_rd rfl (.tmp 62) (.tmp 64) 36 rfl lo 22 (.slice none 0 0) 1 24 Try.underlying36 infoLS rfl (by decide) (.slice ta tl tcap) tl (T.map (·.1)) rfl HO8.out (.slice (some ⟨w6.heap.size, 0, none⟩) 1 1) 1 [(Value.slice ua qn uc)] rfl HR8.out hone (by unfold maxLen; omega) (by omega) hB ?_
                         intro v' w8 ho8 hk8 hn8 hb8
                         obtain ⟨tb, tbc, rfl, -, -⟩ := (Rd.of_owns ho8).form
                         have HO9 := Lib.hid ho8; have HK8 := Lib.hid hk8; have HN8 := Lib.hid hb8
                         clear ho8 hk8 hn8 hb8 hw7)
            have HST : Hid (StIs w0 w8 lo a b c r vz D Z (canon (C ++ takenL C Z q)) (.slice tb (tl + 1) tbc) (T ++ [(.slice ua qn uc, takenL C Z q)])) := Lib.hid (HST.out.push (bo := w4.heap.size) (by rw [HTL.out]; exact HO9.out) HK8.out HN8.out (by rw [HTKL.out]; exact HQ5.out) (by omega) (by rw [HTKL.out]; exact hq8) (fun i hi => by
              have h1 := owns_base HQ5.out hi
              exact ⟨fun hm => by have := HMB.out i hm; omega, fun ht => by have := HTB.out i ht; omega⟩))
            have HB := Lib.hid (HK8.out.blk HB.out fun e => by have := HTB.out _ e; omega)
            have HG := Lib.hid (HG.out.keep HK8.out fun e => by have := HTB.out _ e; omega)
            have HLC := Lib.hid (HK8.out.owns HLC.out fun i hi e => by have := HTB.out _ e; have := owns_base HLC.out hi; omega)
            have HP5 := Lib.hid (HK8.out.owns HP5.out fun i hi e => by have := HTB.out _ e; have := owns_base HP5.out hi; omega)
            have HQL : Hid (∀ i, (Value.slice ua qn uc).ownBlock = some i → w4.heap.size ≤ i) := Lib.hid (fun i hi => owns_base HQ5.out hi)
            clear HK8 HO9 HO8 HR8 HQ5
            refine (over_any w8 _ qn (.slice pa qn pc) _ HP5.out).mono ?_
            rintro e w9 ⟨rfl, hk9⟩
            have HST := Lib.hid (HST.out.keepS hk9 (fun i hi => by
              have h1 := HPL.out i hi
              refine ⟨by omega, fun hm => by have := HMB.out i hm; omega, fun hv => by have := HV5.out i hv; omega, fun ht => ?_, fun p hp hpi => ?_⟩
              · rcases HN8.out with e | e
                · rw [e] at ht; have := HTB.out i ht; omega
                · rw [e] at ht; cases ht; omega
              · rcases List.mem_append.1 hp with hp | hp
                · have := HTR.out p hp i hpi; omega
                · rw [List.mem_singleton.1 hp] at hpi; have := HQL.out i hpi; omega))
            have HB := Lib.hid (hk9.blk HB.out fun e => by have := HPL.out _ e; omega)
            have HG := Lib.hid (HG.out.keep hk9 fun e => by have := HPL.out _ e; omega)
            have HLC := Lib.hid (hk9.owns HLC.out fun i hi e => by have h1 := (HPL.out _ e).1; have h2 := HLL.out i hi; omega)
            clear hk9
            try clear hc0
            try clear hc1
            try clear hc2
            try clear hc3
            try clear hc4
            have hc3 := blk_cell HB.out (i := 3) rfl
            have hc4 := blk_cell HB.out (i := 4) rfl
            go_wp2_with fail
            have hkb := keptB_any w9 (.slice xa tn xc) th (by rw [HTN.out]; exact HRT.out.keep HST.out.keep fun _ _ => id) (by rw [HTN.out]; omega) g HG.out
            rw [HTN.out] at hkb
            refine hkb.mono ?_
            rintro e wk1 ⟨rfl, hk⟩
            clear hkb hc3 hc4
            have HST := Lib.hid (HST.out.keep0 hk)
            have HB := Lib.hid (hk.blk HB.out id)
            have HG := Lib.hid (HG.out.keep hk id)
            have HLC := Lib.hid (hk.owns HLC.out fun _ _ => id)
            clear hk
            have hc4 := blk_cell HB.out (i := 4) rfl
            go_wp2_with fail
            refine (same_any wk1 (.slice la ln lc) (.slice ya ln yc) l l (by rw [HLN.out]; exact Rd.of_owns HLC.out) (by rw [HLN.out]; exact HRL.out.keep HST.out.keep fun _ _ => id) true (decide_eq_true rfl)).mono ?_
            rintro e wk2 ⟨rfl, hk⟩
            clear hc4
            have HST := Lib.hid (HST.out.keep0 hk)
            have HB := Lib.hid (hk.blk HB.out id)
            have HG := Lib.hid (HG.out.keep hk id)
            have HLC := Lib.hid (hk.owns HLC.out fun _ _ => id)
            clear hk
            go_wp2_with fail
            go_ret2
            exact ⟨c, _, _, _, _, rfl, HST.out, by rw [List.length_append]; exact Nat.le_refl _⟩
      · by_cases ek3 : kd = 3
        · as_aux_lemma =>
            subst ek3
            obtain ⟨bb, hbb⟩ : ∃ b, okT C l false D Z = b := ⟨_, rfl⟩
            have HBB := Lib.hid hbb
            clear hbb
            cases bb
            · go_wp2_with fail
              clear hc0
              obtain ⟨S, hS0⟩ : ∃ S : World → Prop, S = fun w' => Keep noBlk w0 w' ∧ w'.heap[bx]? = some (.cells #[.int .i64 3, .int .i64 cp, .int .i64 bk, .slice xa tn xc, .slice ya ln yc] 41 (0, 0)) := ⟨_, rfl⟩
              have HSE := Lib.hid (show ∀ w', S w' → Keep noBlk w0 w' ∧ w'.heap[bx]? = some (.cells #[.int .i64 3, .int .i64 cp, .int .i64 bk, .slice xa tn xc, .slice ya ln yc] 41 (0, 0)) from fun w' h => by rw [hS0] at h; exact h)
              have HSI := Lib.hid (show ∀ w', (Keep noBlk w0 w' ∧ w'.heap[bx]? = some (.cells #[.int .i64 3, .int .i64 cp, .int .i64 bk, .slice xa tn xc, .slice ya ln yc] 41 (0, 0))) → S w' from fun w' h => by rw [hS0]; exact h)
              have hdr : Keep noBlk wq43 wq43.drew := (Keep.refl _ _).drew
              have hS : S wq43.drew := by rw [hS0]; exact ⟨HST.out.keep.trans hdr, hdr.blk HB.out id⟩
              clear hS0
              refine wp_region_held (S := S) (by kernel_rfl) ?_
              change wpAnyH _ _ _ _ _ _ _ _ wq43.drew
              have HST := Lib.hid (HST.out.keep0 hdr)
              have HB := Lib.hid (hdr.blk HB.out id)
              have HG := Lib.hid (HG.out.keep hdr id)
              have HLC := Lib.hid (hdr.owns HLC.out fun _ _ => id)
              generalize wq43.drew = wq44 at hS HST HB HG HLC ⊢
              clear hdr
              refine tna 0 (.pointer (some ⟨a, 0, none⟩)) rfl hS ?_
              refine tna 1 (.slice la ln lc) rfl hS ?_
              refine tna 3 (.pointer (some ⟨r, 0, none⟩)) rfl hS ?_
              refine tnb 4 (.pointer (some ⟨bx, 4, none⟩)) rfl hS ?_
              refine tnd 5 (.slice ya ln yc) rfl (.inl ⟨by rfl, fun w' hw' => by have c := blk_cell (HSE.out w' hw').2 (i := 4) rfl; go_simp⟩) hS ?_
              refine wpAnyH_one (k := 2) rfl (by kernel_rfl) ?_
              go_wp2_with fail
              have hct := mark_any wq44 lo a b D Z c C HST.out.led (.slice la ln lc) l (by rw [HLN.out]; exact Rd.of_owns HLC.out) (fun i hi e => by have h1 := owns_base HLC.out hi; have h2 := HMB.out b (.inl (.inr (.inl rfl))); omega)
              refine hct.mono ?_
              intro e wq45 hp
              unfold TurnsPost at hp
              rw [if_neg (by rw [HBB.out]; decide)] at hp
              obtain ⟨rfl, hk⟩ := hp
              clear hct
              have HST := Lib.hid (HST.out.keep0 hk); have HB := Lib.hid (hk.blk HB.out id); have HG := Lib.hid (HG.out.keep hk id); have HLC := Lib.hid (hk.owns HLC.out fun _ _ => id)
              have hk2 := And.intro HST.out.keep HB.out
              have hS1 := HSI.out _ hk2
              clear hS hk2
              go_wp2_with fail
              refine ⟨hS1, ?_⟩
              refine wpAnyH_one (k := 6) rfl (by kernel_rfl) ?_
              go_wp2_with fail
              have hct := rmark_any wq45 r D Z _ C HST.out.ref (.slice ya ln yc) l (by rw [HLN.out]; exact HRL.out.keep HST.out.keep fun _ _ => id) (by rw [HLN.out]; omega)
              refine hct.mono ?_
              intro e wq46 hp
              unfold RTurnsPost at hp
              rw [if_neg (by rw [HBB.out]; decide)] at hp
              obtain ⟨rfl, hk⟩ := hp
              clear hct
              have HST := Lib.hid (HST.out.keep0 hk); have HB := Lib.hid (hk.blk HB.out id); have HG := Lib.hid (HG.out.keep hk id); have HLC := Lib.hid (hk.owns HLC.out fun _ _ => id)
              have hk2 := And.intro HST.out.keep HB.out
              have hS2 := HSI.out _ hk2
              clear hS1 hk2
              go_wp2_with fail
              refine ⟨hS2, ?_⟩
              refine tnb 7 (.bool true) rfl hS2 ?_
              refine tna 8 (.bool true) rfl hS2 ?_
              refine wpAnyH_done (by kernel_rfl) ?_ _
              have HKR := Lib.hid (HSE.out _ hS2)
              clear hS2 HSE HSI
              clear HKR
              try clear hc0
              try clear hc1
              try clear hc2
              try clear hc3
              try clear hc4
              have hc3 := blk_cell HB.out (i := 3) rfl
              have hc4 := blk_cell HB.out (i := 4) rfl
              go_wp2_with fail
              have hkb := keptB_any wq46 (.slice xa tn xc) th (by rw [HTN.out]; exact HRT.out.keep HST.out.keep fun _ _ => id) (by rw [HTN.out]; omega) g HG.out
              rw [HTN.out] at hkb
              refine hkb.mono ?_
              rintro e wk1 ⟨rfl, hk⟩
              clear hkb hc3 hc4
              have HST := Lib.hid (HST.out.keep0 hk)
              have HB := Lib.hid (hk.blk HB.out id)
              have HG := Lib.hid (HG.out.keep hk id)
              have HLC := Lib.hid (hk.owns HLC.out fun _ _ => id)
              clear hk
              have hc4 := blk_cell HB.out (i := 4) rfl
              go_wp2_with fail
              refine (same_any wk1 (.slice la ln lc) (.slice ya ln yc) l l (by rw [HLN.out]; exact Rd.of_owns HLC.out) (by rw [HLN.out]; exact HRL.out.keep HST.out.keep fun _ _ => id) true (decide_eq_true rfl)).mono ?_
              rintro e wk2 ⟨rfl, hk⟩
              clear hc4
              have HST := Lib.hid (HST.out.keep0 hk)
              have HB := Lib.hid (hk.blk HB.out id)
              have HG := Lib.hid (HG.out.keep hk id)
              have HLC := Lib.hid (hk.owns HLC.out fun _ _ => id)
              clear hk
              go_wp2_with fail
              go_ret2
              exact ⟨_, _, _, _, T, rfl, HST.out, Nat.le_succ _⟩
            · go_wp2_with fail
              clear hc0
              obtain ⟨S, hS0⟩ : ∃ S : World → Prop, S = fun w' => Keep noBlk w0 w' ∧ w'.heap[bx]? = some (.cells #[.int .i64 3, .int .i64 cp, .int .i64 bk, .slice xa tn xc, .slice ya ln yc] 41 (0, 0)) := ⟨_, rfl⟩
              have HSE := Lib.hid (show ∀ w', S w' → Keep noBlk w0 w' ∧ w'.heap[bx]? = some (.cells #[.int .i64 3, .int .i64 cp, .int .i64 bk, .slice xa tn xc, .slice ya ln yc] 41 (0, 0)) from fun w' h => by rw [hS0] at h; exact h)
              have HSI := Lib.hid (show ∀ w', (Keep noBlk w0 w' ∧ w'.heap[bx]? = some (.cells #[.int .i64 3, .int .i64 cp, .int .i64 bk, .slice xa tn xc, .slice ya ln yc] 41 (0, 0))) → S w' from fun w' h => by rw [hS0]; exact h)
              have hdr : Keep noBlk wq43 wq43.drew := (Keep.refl _ _).drew
              have hS : S wq43.drew := by rw [hS0]; exact ⟨HST.out.keep.trans hdr, hdr.blk HB.out id⟩
              clear hS0
              refine wp_region_held (S := S) (by kernel_rfl) ?_
              change wpAnyH _ _ _ _ _ _ _ _ wq43.drew
              have HST := Lib.hid (HST.out.keep0 hdr)
              have HB := Lib.hid (hdr.blk HB.out id)
              have HG := Lib.hid (HG.out.keep hdr id)
              have HLC := Lib.hid (hdr.owns HLC.out fun _ _ => id)
              generalize wq43.drew = wq44 at hS HST HB HG HLC ⊢
              clear hdr
              refine tna 0 (.pointer (some ⟨a, 0, none⟩)) rfl hS ?_
              refine tna 1 (.slice la ln lc) rfl hS ?_
              refine tna 3 (.pointer (some ⟨r, 0, none⟩)) rfl hS ?_
              refine tnb 4 (.pointer (some ⟨bx, 4, none⟩)) rfl hS ?_
              refine tnd 5 (.slice ya ln yc) rfl (.inl ⟨by rfl, fun w' hw' => by have c := blk_cell (HSE.out w' hw').2 (i := 4) rfl; go_simp⟩) hS ?_
              refine wpAnyH_one (k := 2) rfl (by kernel_rfl) ?_
              go_wp2_with fail
              have hct := mark_any wq44 lo a b D Z c C HST.out.led (.slice la ln lc) l (by rw [HLN.out]; exact Rd.of_owns HLC.out) (fun i hi e => by have h1 := owns_base HLC.out hi; have h2 := HMB.out b (.inl (.inr (.inl rfl))); omega)
              refine hct.mono ?_
              intro e wq45 hp
              unfold TurnsPost at hp
              rw [if_pos HBB.out] at hp
              obtain ⟨rfl, c', hl4, hcn, hk⟩ := hp
              clear hct
              have hko : Keep (Own a b c D) wq44 wq45 := hk.mono fun i _ e => .inr (.inl e)
              have hbx : b < bx := HMB.out b (.inl (.inr (.inl rfl)))
              have HKX := Lib.hid (HST.out.keep.trans' hko (U := noBlk) (fun _ _ h => h) (fun i hi ho => by have := (HST.out.led.own_lt ho).1; have := HST.out.lo0; omega))
              have HR4 := Lib.hid (HST.out.ref.keep hko (fun ho => HST.out.nr ho) (fun i hi ho => HST.out.nv i hi (.inl ho)))
              have HB := Lib.hid (hk.blk HB.out fun e => by have e : bx = b := e; omega); have HG := Lib.hid (HG.out.keep hk fun e => by have e : g = b := e; omega); have HLC := Lib.hid (hk.owns HLC.out fun i hi e => by have := owns_base HLC.out hi; omega)
              have HL4 := Lib.hid hl4; have HCN := Lib.hid hcn; have HKO := Lib.hid hko; have HST4 := HST
              have hk2 := And.intro HKX.out HB.out
              clear hk hl4 hcn hko
              have hS1 := HSI.out _ hk2
              clear hS hk2
              go_wp2_with fail
              refine ⟨hS1, ?_⟩
              refine wpAnyH_one (k := 6) rfl (by kernel_rfl) ?_
              go_wp2_with fail
              have hct := rmark_any wq45 r D Z _ C HR4.out (.slice ya ln yc) l (by rw [HLN.out]; exact HRL.out.keep HKX.out fun _ _ => id) (by rw [HLN.out]; omega)
              refine hct.mono ?_
              intro e wq46 hp
              unfold RTurnsPost at hp
              rw [if_pos HBB.out] at hp
              obtain ⟨rfl, vz, hr5, hv5, hk⟩ := hp
              clear hct
              have hrx := HMB.out _ (.inr rfl)
              have HST := Lib.hid (HST4.out.next HKO.out HL4.out (fun d g hd h => .inr (HCN.out d g hd h)) hk hr5 hv5 (fun x => mem_canon.symm))
              have HB := Lib.hid (hk.blk HB.out fun e => by have e : bx = r := e; omega); have HG := Lib.hid (HG.out.keep hk fun e => by have e : g = r := e; omega); have HLC := Lib.hid (hk.owns HLC.out fun i hi e => by have := owns_base HLC.out hi; omega)
              have hk2 := And.intro HST.out.keep HB.out
              clear hk hr5 hv5 HST4 HKX HR4 HL4 HCN HKO
              have hS2 := HSI.out _ hk2
              clear hS1 hk2
              go_wp2_with fail
              refine ⟨hS2, ?_⟩
              refine tnb 7 (.bool true) rfl hS2 ?_
              refine tna 8 (.bool true) rfl hS2 ?_
              refine wpAnyH_done (by kernel_rfl) ?_ _
              have HKR := Lib.hid (HSE.out _ hS2)
              clear hS2 HSE HSI
              clear HKR
              try clear hc0
              try clear hc1
              try clear hc2
              try clear hc3
              try clear hc4
              have hc3 := blk_cell HB.out (i := 3) rfl
              have hc4 := blk_cell HB.out (i := 4) rfl
              go_wp2_with fail
              have hkb := keptB_any wq46 (.slice xa tn xc) th (by rw [HTN.out]; exact HRT.out.keep HST.out.keep fun _ _ => id) (by rw [HTN.out]; omega) g HG.out
              rw [HTN.out] at hkb
              refine hkb.mono ?_
              rintro e wk1 ⟨rfl, hk⟩
              clear hkb hc3 hc4
              have HST := Lib.hid (HST.out.keep0 hk)
              have HB := Lib.hid (hk.blk HB.out id)
              have HG := Lib.hid (HG.out.keep hk id)
              have HLC := Lib.hid (hk.owns HLC.out fun _ _ => id)
              clear hk
              have hc4 := blk_cell HB.out (i := 4) rfl
              go_wp2_with fail
              refine (same_any wk1 (.slice la ln lc) (.slice ya ln yc) l l (by rw [HLN.out]; exact Rd.of_owns HLC.out) (by rw [HLN.out]; exact HRL.out.keep HST.out.keep fun _ _ => id) true (decide_eq_true rfl)).mono ?_
              rintro e wk2 ⟨rfl, hk⟩
              clear hc4
              have HST := Lib.hid (HST.out.keep0 hk)
              have HB := Lib.hid (hk.blk HB.out id)
              have HG := Lib.hid (HG.out.keep hk id)
              have HLC := Lib.hid (hk.owns HLC.out fun _ _ => id)
              clear hk
              go_wp2_with fail
              go_ret2
              exact ⟨_, _, _, _, T, rfl, HST.out, Nat.le_succ _⟩
        · by_cases ek4 : kd = 4
          · as_aux_lemma =>
              subst ek4
              obtain ⟨bb, hbb⟩ : ∃ b, okT C l true D Z = b := ⟨_, rfl⟩
              have HBB := Lib.hid hbb
              clear hbb
              cases bb
              · go_wp2_with fail
                clear hc0
                obtain ⟨S, hS0⟩ : ∃ S : World → Prop, S = fun w' => Keep noBlk w0 w' ∧ w'.heap[bx]? = some (.cells #[.int .i64 4, .int .i64 cp, .int .i64 bk, .slice xa tn xc, .slice ya ln yc] 41 (0, 0)) := ⟨_, rfl⟩
                have HSE := Lib.hid (show ∀ w', S w' → Keep noBlk w0 w' ∧ w'.heap[bx]? = some (.cells #[.int .i64 4, .int .i64 cp, .int .i64 bk, .slice xa tn xc, .slice ya ln yc] 41 (0, 0)) from fun w' h => by rw [hS0] at h; exact h)
                have HSI := Lib.hid (show ∀ w', (Keep noBlk w0 w' ∧ w'.heap[bx]? = some (.cells #[.int .i64 4, .int .i64 cp, .int .i64 bk, .slice xa tn xc, .slice ya ln yc] 41 (0, 0))) → S w' from fun w' h => by rw [hS0]; exact h)
                have hdr : Keep noBlk wq43 wq43.drew := (Keep.refl _ _).drew
                have hS : S wq43.drew := by rw [hS0]; exact ⟨HST.out.keep.trans hdr, hdr.blk HB.out id⟩
                clear hS0
                refine wp_region_held (S := S) (by kernel_rfl) ?_
                change wpAnyH _ _ _ _ _ _ _ _ wq43.drew
                have HST := Lib.hid (HST.out.keep0 hdr)
                have HB := Lib.hid (hdr.blk HB.out id)
                have HG := Lib.hid (HG.out.keep hdr id)
                have HLC := Lib.hid (hdr.owns HLC.out fun _ _ => id)
                generalize wq43.drew = wq44 at hS HST HB HG HLC ⊢
                clear hdr
                refine tna 0 (.pointer (some ⟨a, 0, none⟩)) rfl hS ?_
                refine tna 1 (.slice la ln lc) rfl hS ?_
                refine tna 3 (.pointer (some ⟨r, 0, none⟩)) rfl hS ?_
                refine tnb 4 (.pointer (some ⟨bx, 4, none⟩)) rfl hS ?_
                refine tnd 5 (.slice ya ln yc) rfl (.inl ⟨by rfl, fun w' hw' => by have c := blk_cell (HSE.out w' hw').2 (i := 4) rfl; go_simp⟩) hS ?_
                refine wpAnyH_one (k := 2) rfl (by kernel_rfl) ?_
                go_wp2_with fail
                have hct := release_any wq44 lo a b D Z c C HST.out.led (.slice la ln lc) l (by rw [HLN.out]; exact Rd.of_owns HLC.out) (fun i hi e => by have h1 := owns_base HLC.out hi; have h2 := HMB.out b (.inl (.inr (.inl rfl))); omega)
                refine hct.mono ?_
                intro e wq45 hp
                unfold TurnsPost at hp
                rw [if_neg (by rw [HBB.out]; decide)] at hp
                obtain ⟨rfl, hk⟩ := hp
                clear hct
                have HST := Lib.hid (HST.out.keep0 hk); have HB := Lib.hid (hk.blk HB.out id); have HG := Lib.hid (HG.out.keep hk id); have HLC := Lib.hid (hk.owns HLC.out fun _ _ => id)
                have hk2 := And.intro HST.out.keep HB.out
                have hS1 := HSI.out _ hk2
                clear hS hk2
                go_wp2_with fail
                refine ⟨hS1, ?_⟩
                refine wpAnyH_one (k := 6) rfl (by kernel_rfl) ?_
                go_wp2_with fail
                have hct := rrelease_any wq45 r D Z _ C HST.out.ref (.slice ya ln yc) l (by rw [HLN.out]; exact HRL.out.keep HST.out.keep fun _ _ => id) (by rw [HLN.out]; omega)
                refine hct.mono ?_
                intro e wq46 hp
                unfold RTurnsPost at hp
                rw [if_neg (by rw [HBB.out]; decide)] at hp
                obtain ⟨rfl, hk⟩ := hp
                clear hct
                have HST := Lib.hid (HST.out.keep0 hk); have HB := Lib.hid (hk.blk HB.out id); have HG := Lib.hid (HG.out.keep hk id); have HLC := Lib.hid (hk.owns HLC.out fun _ _ => id)
                have hk2 := And.intro HST.out.keep HB.out
                have hS2 := HSI.out _ hk2
                clear hS1 hk2
                go_wp2_with fail
                refine ⟨hS2, ?_⟩
                refine tnb 7 (.bool true) rfl hS2 ?_
                refine tna 8 (.bool true) rfl hS2 ?_
                refine wpAnyH_done (by kernel_rfl) ?_ _
                have HKR := Lib.hid (HSE.out _ hS2)
                clear hS2 HSE HSI
                clear HKR
                try clear hc0
                try clear hc1
                try clear hc2
                try clear hc3
                try clear hc4
                have hc3 := blk_cell HB.out (i := 3) rfl
                have hc4 := blk_cell HB.out (i := 4) rfl
                go_wp2_with fail
                have hkb := keptB_any wq46 (.slice xa tn xc) th (by rw [HTN.out]; exact HRT.out.keep HST.out.keep fun _ _ => id) (by rw [HTN.out]; omega) g HG.out
                rw [HTN.out] at hkb
                refine hkb.mono ?_
                rintro e wk1 ⟨rfl, hk⟩
                clear hkb hc3 hc4
                have HST := Lib.hid (HST.out.keep0 hk)
                have HB := Lib.hid (hk.blk HB.out id)
                have HG := Lib.hid (HG.out.keep hk id)
                have HLC := Lib.hid (hk.owns HLC.out fun _ _ => id)
                clear hk
                have hc4 := blk_cell HB.out (i := 4) rfl
                go_wp2_with fail
                refine (same_any wk1 (.slice la ln lc) (.slice ya ln yc) l l (by rw [HLN.out]; exact Rd.of_owns HLC.out) (by rw [HLN.out]; exact HRL.out.keep HST.out.keep fun _ _ => id) true (decide_eq_true rfl)).mono ?_
                rintro e wk2 ⟨rfl, hk⟩
                clear hc4
                have HST := Lib.hid (HST.out.keep0 hk)
                have HB := Lib.hid (hk.blk HB.out id)
                have HG := Lib.hid (HG.out.keep hk id)
                have HLC := Lib.hid (hk.owns HLC.out fun _ _ => id)
                clear hk
                go_wp2_with fail
                go_ret2
                exact ⟨_, _, _, _, T, rfl, HST.out, Nat.le_succ _⟩
              · go_wp2_with fail
                clear hc0
                obtain ⟨S, hS0⟩ : ∃ S : World → Prop, S = fun w' => Keep noBlk w0 w' ∧ w'.heap[bx]? = some (.cells #[.int .i64 4, .int .i64 cp, .int .i64 bk, .slice xa tn xc, .slice ya ln yc] 41 (0, 0)) := ⟨_, rfl⟩
                have HSE := Lib.hid (show ∀ w', S w' → Keep noBlk w0 w' ∧ w'.heap[bx]? = some (.cells #[.int .i64 4, .int .i64 cp, .int .i64 bk, .slice xa tn xc, .slice ya ln yc] 41 (0, 0)) from fun w' h => by rw [hS0] at h; exact h)
                have HSI := Lib.hid (show ∀ w', (Keep noBlk w0 w' ∧ w'.heap[bx]? = some (.cells #[.int .i64 4, .int .i64 cp, .int .i64 bk, .slice xa tn xc, .slice ya ln yc] 41 (0, 0))) → S w' from fun w' h => by rw [hS0]; exact h)
                have hdr : Keep noBlk wq43 wq43.drew := (Keep.refl _ _).drew
                have hS : S wq43.drew := by rw [hS0]; exact ⟨HST.out.keep.trans hdr, hdr.blk HB.out id⟩
                clear hS0
                refine wp_region_held (S := S) (by kernel_rfl) ?_
                change wpAnyH _ _ _ _ _ _ _ _ wq43.drew
                have HST := Lib.hid (HST.out.keep0 hdr)
                have HB := Lib.hid (hdr.blk HB.out id)
                have HG := Lib.hid (HG.out.keep hdr id)
                have HLC := Lib.hid (hdr.owns HLC.out fun _ _ => id)
                generalize wq43.drew = wq44 at hS HST HB HG HLC ⊢
                clear hdr
                refine tna 0 (.pointer (some ⟨a, 0, none⟩)) rfl hS ?_
                refine tna 1 (.slice la ln lc) rfl hS ?_
                refine tna 3 (.pointer (some ⟨r, 0, none⟩)) rfl hS ?_
                refine tnb 4 (.pointer (some ⟨bx, 4, none⟩)) rfl hS ?_
                refine tnd 5 (.slice ya ln yc) rfl (.inl ⟨by rfl, fun w' hw' => by have c := blk_cell (HSE.out w' hw').2 (i := 4) rfl; go_simp⟩) hS ?_
                refine wpAnyH_one (k := 2) rfl (by kernel_rfl) ?_
                go_wp2_with fail
                have hct := release_any wq44 lo a b D Z c C HST.out.led (.slice la ln lc) l (by rw [HLN.out]; exact Rd.of_owns HLC.out) (fun i hi e => by have h1 := owns_base HLC.out hi; have h2 := HMB.out b (.inl (.inr (.inl rfl))); omega)
                refine hct.mono ?_
                intro e wq45 hp
                unfold TurnsPost at hp
                rw [if_pos HBB.out] at hp
                obtain ⟨rfl, c', hl4, hcn, hk⟩ := hp
                clear hct
                have hko : Keep (Own a b c D) wq44 wq45 := hk.mono fun i _ e => .inr (.inl e)
                have hbx : b < bx := HMB.out b (.inl (.inr (.inl rfl)))
                have HKX := Lib.hid (HST.out.keep.trans' hko (U := noBlk) (fun _ _ h => h) (fun i hi ho => by have := (HST.out.led.own_lt ho).1; have := HST.out.lo0; omega))
                have HR4 := Lib.hid (HST.out.ref.keep hko (fun ho => HST.out.nr ho) (fun i hi ho => HST.out.nv i hi (.inl ho)))
                have HB := Lib.hid (hk.blk HB.out fun e => by have e : bx = b := e; omega); have HG := Lib.hid (HG.out.keep hk fun e => by have e : g = b := e; omega); have HLC := Lib.hid (hk.owns HLC.out fun i hi e => by have := owns_base HLC.out hi; omega)
                have HL4 := Lib.hid hl4; have HCN := Lib.hid hcn; have HKO := Lib.hid hko; have HST4 := HST
                have hk2 := And.intro HKX.out HB.out
                clear hk hl4 hcn hko
                have hS1 := HSI.out _ hk2
                clear hS hk2
                go_wp2_with fail
                refine ⟨hS1, ?_⟩
                refine wpAnyH_one (k := 6) rfl (by kernel_rfl) ?_
                go_wp2_with fail
                have hct := rrelease_any wq45 r D Z _ C HR4.out (.slice ya ln yc) l (by rw [HLN.out]; exact HRL.out.keep HKX.out fun _ _ => id) (by rw [HLN.out]; omega)
                refine hct.mono ?_
                intro e wq46 hp
                unfold RTurnsPost at hp
                rw [if_pos HBB.out] at hp
                obtain ⟨rfl, vz, hr5, hv5, hk⟩ := hp
                clear hct
                have hrx := HMB.out _ (.inr rfl)
                have HST := Lib.hid (HST4.out.next HKO.out HL4.out (fun d g hd h => .inr (HCN.out d g hd h)) hk hr5 hv5 (fun x => mem_canon.symm))
                have HB := Lib.hid (hk.blk HB.out fun e => by have e : bx = r := e; omega); have HG := Lib.hid (HG.out.keep hk fun e => by have e : g = r := e; omega); have HLC := Lib.hid (hk.owns HLC.out fun i hi e => by have := owns_base HLC.out hi; omega)
                have hk2 := And.intro HST.out.keep HB.out
                clear hk hr5 hv5 HST4 HKX HR4 HL4 HCN HKO
                have hS2 := HSI.out _ hk2
                clear hS1 hk2
                go_wp2_with fail
                refine ⟨hS2, ?_⟩
                refine tnb 7 (.bool true) rfl hS2 ?_
                refine tna 8 (.bool true) rfl hS2 ?_
                refine wpAnyH_done (by kernel_rfl) ?_ _
                have HKR := Lib.hid (HSE.out _ hS2)
                clear hS2 HSE HSI
                clear HKR
                try clear hc0
                try clear hc1
                try clear hc2
                try clear hc3
                try clear hc4
                have hc3 := blk_cell HB.out (i := 3) rfl
                have hc4 := blk_cell HB.out (i := 4) rfl
                go_wp2_with fail
                have hkb := keptB_any wq46 (.slice xa tn xc) th (by rw [HTN.out]; exact HRT.out.keep HST.out.keep fun _ _ => id) (by rw [HTN.out]; omega) g HG.out
                rw [HTN.out] at hkb
                refine hkb.mono ?_
                rintro e wk1 ⟨rfl, hk⟩
                clear hkb hc3 hc4
                have HST := Lib.hid (HST.out.keep0 hk)
                have HB := Lib.hid (hk.blk HB.out id)
                have HG := Lib.hid (HG.out.keep hk id)
                have HLC := Lib.hid (hk.owns HLC.out fun _ _ => id)
                clear hk
                have hc4 := blk_cell HB.out (i := 4) rfl
                go_wp2_with fail
                refine (same_any wk1 (.slice la ln lc) (.slice ya ln yc) l l (by rw [HLN.out]; exact Rd.of_owns HLC.out) (by rw [HLN.out]; exact HRL.out.keep HST.out.keep fun _ _ => id) true (decide_eq_true rfl)).mono ?_
                rintro e wk2 ⟨rfl, hk⟩
                clear hc4
                have HST := Lib.hid (HST.out.keep0 hk)
                have HB := Lib.hid (hk.blk HB.out id)
                have HG := Lib.hid (HG.out.keep hk id)
                have HLC := Lib.hid (hk.owns HLC.out fun _ _ => id)
                clear hk
                go_wp2_with fail
                go_ret2
                exact ⟨_, _, _, _, T, rfl, HST.out, Nat.le_succ _⟩
          · by_cases ek5 : kd = 5
            · as_aux_lemma =>
                subst ek5
                by_cases h0 : 0 < tl
                · have hc2 := blk_cell HB.out (i := 2) rfl
                  obtain ⟨p, hp⟩ : ∃ p : Nat, bk % (tl : Int) = (p : Int) := ⟨(bk % (tl : Int)).toNat, by have := Int.emod_nonneg bk (show (tl : Int) ≠ 0 by omega); omega⟩
                  have hpm : p < tl := by have := Int.emod_lt_of_pos bk (show (0 : Int) < (tl : Int) by omega); omega
                  have HPK := pick_any wq43 bk (tl : Int) (by omega) (by omega) hbk.1 hbk.2
                  rw [hp] at HPK
                  have HPK := Lib.hid HPK
                  obtain ⟨j, hj⟩ : ∃ j, tl - 1 - p = j := ⟨_, rfl⟩
                  have hjt : j < tl := by omega
                  have hti : (0 : Int) < (tl : Int) := by omega
                  have hw1 : IntKind.i64.wrap ((tl : Int) - 1) = (tl : Int) - 1 := by rw [IntWalk.i64_in _ (by omega)]
                  have hji : (tl : Int) - 1 - (p : Int) = (j : Int) := by omega
                  have hw3 : IntKind.i64.wrap (j : Int) = (j : Int) := by rw [IntWalk.i64_in _ (by omega)]
                  have hj0 : (0 : Int) ≤ (j : Int) := by omega
                  have hjl : (j : Int) < (tl : Int) := by omega
                  obtain ⟨y, hy⟩ : ∃ y, T[j]? = some y := ⟨T[j]'(by rw [HTL.out]; exact hjt), List.getElem?_eq_getElem _⟩
                  have hym := List.mem_of_getElem? hy
                  have hrow := Rd.of_owns HST.out.tak.row
                  rw [HTL.out] at hrow
                  obtain ⟨-, a', cap', hv, -, -, -, h4⟩ := hrow
                  obtain ⟨tg, to, e, hc⟩ := h4 (by rw [List.length_map, HTL.out]; omega)
                  subst e
                  have e1 : ta = some ⟨tg, to, none⟩ := by cases hv; rfl
                  subst e1
                  have hcj := hc j y.1 (by rw [List.getElem?_map, hy]; rfl)
                  obtain ⟨yv, yl⟩ := y
                  have hyo := (HST.out.tak.own _ hym).1
                  have hy8 := (HST.out.tak.own _ hym).2
                  obtain ⟨ua, uc, hyv, -, -⟩ := (Rd.of_owns hyo).form
                  obtain ⟨yn, hyn⟩ : ∃ n, yl.length = n := ⟨_, rfl⟩
                  have hyv2 : yv = .slice ua yn uc := by rw [← hyn]; exact hyv
                  subst hyv2
                  have HYN := Lib.hid hyn; have HYM := Lib.hid hym
                  have hyn8 : yn ≤ 8 := by rw [← hyn]; exact hy8
                  clear hp hj hy hym hv h4 hc hyo hyv hy8 hyn
                  go_wp2_with fail
                  refine HPK.out.mono ?_
                  rintro e wp5 ⟨rfl, hwp⟩
                  subst hwp
                  clear HPK hc0 hc2
                  go_wp2_with fail
                  clear hcj
                  have hcc := copyAddrs_any wq43 (.slice ua yn uc) yl (by rw [HYN.out]; have h := Rd.of_owns (HST.out.tak.own _ HYM.out).1; rw [HYN.out] at h; exact h) (by rw [HYN.out]; omega)
                  refine hcc.mono ?_
                  rintro e w4 ⟨vc, rfl, ho_, hk⟩
                  rw [HYN.out] at ho_
                  obtain ⟨qa, qc, rfl, -, -⟩ := (Rd.of_owns ho_).form
                  have hszb : bx < wq43.heap.size := lt_of_block HB.out
                  have HQO := Lib.hid ho_
                  clear hcc ho_
                  obtain ⟨bb, hbb⟩ : ∃ b, okT C yl true D Z = b := ⟨_, rfl⟩
                  have HBB := Lib.hid hbb
                  clear hbb
                  have HST := Lib.hid (HST.out.keep0 hk)
                  have HB := Lib.hid (hk.blk HB.out id)
                  have HG := Lib.hid (HG.out.keep hk id)
                  have HLC := Lib.hid (hk.owns HLC.out fun _ _ => id)
                  clear hk
                  cases bb
                  · go_wp2_with fail
                    have hct := release_any w4 lo a b D Z c C HST.out.led (.slice qa yn qc) yl (by rw [HYN.out]; exact Rd.of_owns HQO.out) (fun i hi e => by have h1 := owns_base HQO.out hi; have h2 := HMB.out b (.inl (.inr (.inl rfl))); omega)
                    refine hct.mono ?_
                    intro e w5 hp
                    unfold TurnsPost at hp
                    rw [if_neg (by rw [HBB.out]; decide)] at hp
                    obtain ⟨rfl, hk⟩ := hp
                    clear hct
                    have HST := Lib.hid (HST.out.keep0 hk)
                    have HB := Lib.hid (hk.blk HB.out id)
                    have HG := Lib.hid (HG.out.keep hk id)
                    have HLC := Lib.hid (hk.owns HLC.out fun _ _ => id)
                    clear hk
                    go_wp2_with fail
                    have hct := rrelease_any w5 r D Z _ C HST.out.ref (.slice ua yn uc) yl (by rw [HYN.out]; have h := Rd.of_owns (HST.out.tak.own _ HYM.out).1; rw [HYN.out] at h; exact h) (by rw [HYN.out]; omega)
                    refine hct.mono ?_
                    intro e w6 hp
                    unfold RTurnsPost at hp
                    rw [if_neg (by rw [HBB.out]; decide)] at hp
                    obtain ⟨rfl, hk⟩ := hp
                    clear hct
                    have HST := Lib.hid (HST.out.keep0 hk)
                    have HB := Lib.hid (hk.blk HB.out id)
                    have HG := Lib.hid (HG.out.keep hk id)
                    have HLC := Lib.hid (hk.owns HLC.out fun _ _ => id)
                    clear hk
                    try clear hc0
                    try clear hc1
                    try clear hc2
                    try clear hc3
                    try clear hc4
                    have hc3 := blk_cell HB.out (i := 3) rfl
                    have hc4 := blk_cell HB.out (i := 4) rfl
                    go_wp2_with fail
                    have hkb := keptB_any w6 (.slice xa tn xc) th (by rw [HTN.out]; exact HRT.out.keep HST.out.keep fun _ _ => id) (by rw [HTN.out]; omega) g HG.out
                    rw [HTN.out] at hkb
                    refine hkb.mono ?_
                    rintro e wk1 ⟨rfl, hk⟩
                    clear hkb hc3 hc4
                    have HST := Lib.hid (HST.out.keep0 hk)
                    have HB := Lib.hid (hk.blk HB.out id)
                    have HG := Lib.hid (HG.out.keep hk id)
                    have HLC := Lib.hid (hk.owns HLC.out fun _ _ => id)
                    clear hk
                    have hc4 := blk_cell HB.out (i := 4) rfl
                    go_wp2_with fail
                    refine (same_any wk1 (.slice la ln lc) (.slice ya ln yc) l l (by rw [HLN.out]; exact Rd.of_owns HLC.out) (by rw [HLN.out]; exact HRL.out.keep HST.out.keep fun _ _ => id) true (decide_eq_true rfl)).mono ?_
                    rintro e wk2 ⟨rfl, hk⟩
                    clear hc4
                    have HST := Lib.hid (HST.out.keep0 hk)
                    have HB := Lib.hid (hk.blk HB.out id)
                    have HG := Lib.hid (HG.out.keep hk id)
                    have HLC := Lib.hid (hk.owns HLC.out fun _ _ => id)
                    clear hk
                    go_wp2_with fail
                    go_ret2
                    exact ⟨c, _, C, _, T, rfl, HST.out, Nat.le_succ _⟩
                  · go_wp2_with fail
                    have hct := release_any w4 lo a b D Z c C HST.out.led (.slice qa yn qc) yl (by rw [HYN.out]; exact Rd.of_owns HQO.out) (fun i hi e => by have h1 := owns_base HQO.out hi; have h2 := HMB.out b (.inl (.inr (.inl rfl))); omega)
                    refine hct.mono ?_
                    intro e w5 hp
                    unfold TurnsPost at hp
                    rw [if_pos HBB.out] at hp
                    obtain ⟨rfl, c', hl4, hcn, hk⟩ := hp
                    clear hct
                    have hko : Keep (Own a b c D) w4 w5 := hk.mono fun i _ e => .inr (.inl e)
                    have hbx : b < bx := HMB.out b (.inl (.inr (.inl rfl)))
                    have HR4 := Lib.hid (HST.out.ref.keep hko (fun ho => HST.out.nr ho) (fun i hi ho => HST.out.nv i hi (.inl ho)))
                    have hy5 := hko.owns (HST.out.tak.own _ HYM.out).1 fun i hi ho => HST.out.tak.fars _ HYM.out i hi (.inl ho)
                    have HY5 : Hid (Rd w5 2 (.slice ua yn uc) yn (adCells yl)) := Lib.hid (by have h := Rd.of_owns hy5; rw [HYN.out] at h; exact h)
                    have HB := Lib.hid (hk.blk HB.out fun e => by have e : bx = b := e; omega); have HG := Lib.hid (HG.out.keep hk fun e => by have e : g = b := e; omega); have HLC := Lib.hid (hk.owns HLC.out fun i hi e => by have := owns_base HLC.out hi; omega)
                    have HL4 := Lib.hid hl4; have HCN := Lib.hid hcn; have HKO := Lib.hid hko; have HST4 := HST
                    clear hk hl4 hcn hko hy5
                    go_wp2_with fail
                    have hct := rrelease_any w5 r D Z _ C HR4.out (.slice ua yn uc) yl (by rw [HYN.out]; exact HY5.out) (by rw [HYN.out]; omega)
                    refine hct.mono ?_
                    intro e w6 hp
                    unfold RTurnsPost at hp
                    rw [if_pos HBB.out] at hp
                    obtain ⟨rfl, vz, hr5, hv5, hk⟩ := hp
                    clear hct
                    have hrx := HMB.out _ (.inr rfl)
                    have HST := Lib.hid (HST4.out.next HKO.out HL4.out (fun d g hd h => .inr (HCN.out d g hd h)) hk hr5 hv5 (fun x => mem_canon.symm))
                    have HB := Lib.hid (hk.blk HB.out fun e => by have e : bx = r := e; omega); have HG := Lib.hid (HG.out.keep hk fun e => by have e : g = r := e; omega); have HLC := Lib.hid (hk.owns HLC.out fun i hi e => by have := owns_base HLC.out hi; omega)
                    clear hk hr5 hv5 HST4 HR4 HL4 HCN HKO HY5
                    try clear hc0
                    try clear hc1
                    try clear hc2
                    try clear hc3
                    try clear hc4
                    have hc3 := blk_cell HB.out (i := 3) rfl
                    have hc4 := blk_cell HB.out (i := 4) rfl
                    go_wp2_with fail
                    have hkb := keptB_any w6 (.slice xa tn xc) th (by rw [HTN.out]; exact HRT.out.keep HST.out.keep fun _ _ => id) (by rw [HTN.out]; omega) g HG.out
                    rw [HTN.out] at hkb
                    refine hkb.mono ?_
                    rintro e wk1 ⟨rfl, hk⟩
                    clear hkb hc3 hc4
                    have HST := Lib.hid (HST.out.keep0 hk)
                    have HB := Lib.hid (hk.blk HB.out id)
                    have HG := Lib.hid (HG.out.keep hk id)
                    have HLC := Lib.hid (hk.owns HLC.out fun _ _ => id)
                    clear hk
                    have hc4 := blk_cell HB.out (i := 4) rfl
                    go_wp2_with fail
                    refine (same_any wk1 (.slice la ln lc) (.slice ya ln yc) l l (by rw [HLN.out]; exact Rd.of_owns HLC.out) (by rw [HLN.out]; exact HRL.out.keep HST.out.keep fun _ _ => id) true (decide_eq_true rfl)).mono ?_
                    rintro e wk2 ⟨rfl, hk⟩
                    clear hc4
                    have HST := Lib.hid (HST.out.keep0 hk)
                    have HB := Lib.hid (hk.blk HB.out id)
                    have HG := Lib.hid (HG.out.keep hk id)
                    have HLC := Lib.hid (hk.owns HLC.out fun _ _ => id)
                    clear hk
                    go_wp2_with fail
                    go_ret2
                    exact ⟨_, _, _, _, T, rfl, HST.out, Nat.le_succ _⟩
                · have hti : ¬ (0 : Int) < (tl : Int) := by omega
                  have hc3 := blk_cell HB.out (i := 3) rfl
                  have hc4 := blk_cell HB.out (i := 4) rfl
                  go_wp2_with fail
                  have hkb := keptB_any wq43 (.slice xa tn xc) th (by rw [HTN.out]; exact HRT.out.keep HST.out.keep fun _ _ => id) (by rw [HTN.out]; omega) g HG.out
                  rw [HTN.out] at hkb
                  refine hkb.mono ?_
                  rintro e wk1 ⟨rfl, hk⟩
                  clear hkb hc3 hc4
                  have HST := Lib.hid (HST.out.keep0 hk)
                  have HB := Lib.hid (hk.blk HB.out id)
                  have HG := Lib.hid (HG.out.keep hk id)
                  have HLC := Lib.hid (hk.owns HLC.out fun _ _ => id)
                  clear hk
                  have hc4 := blk_cell HB.out (i := 4) rfl
                  go_wp2_with fail
                  refine (same_any wk1 (.slice la ln lc) (.slice ya ln yc) l l (by rw [HLN.out]; exact Rd.of_owns HLC.out) (by rw [HLN.out]; exact HRL.out.keep HST.out.keep fun _ _ => id) true (decide_eq_true rfl)).mono ?_
                  rintro e wk2 ⟨rfl, hk⟩
                  clear hc4
                  have HST := Lib.hid (HST.out.keep0 hk)
                  have HB := Lib.hid (hk.blk HB.out id)
                  have HG := Lib.hid (HG.out.keep hk id)
                  have HLC := Lib.hid (hk.owns HLC.out fun _ _ => id)
                  clear hk
                  go_wp2_with fail
                  go_ret2
                  exact ⟨c, _, C, _, T, rfl, HST.out, Nat.le_succ _⟩
            · by_cases ek6 : kd = 6
              · as_aux_lemma =>
                  subst ek6
                  have hc1 := blk_cell HB.out (i := 1) rfl
                  have hc3 := blk_cell HB.out (i := 3) rfl
                  go_wp2_with fail
                  clear hc0 hc1 hc3
                  have hct := room_any wq43 lo a b D Z c C HST.out.led (.slice (some ⟨g, 0, none⟩) tn (tn + 3)) th cp (by have h := HG.out.rd (by rw [HTN.out]; omega); rw [HTN.out] at h ⊢; exact h)
                  refine hct.mono ?_
                  intro e w4 hp
                  clear hct
                  unfold ManyPost at hp
                  by_cases hcb : checkB (freeN C D Z) th cp = true
                  · have HCB := Lib.hid hcb
                    rw [if_pos hcb] at hp
                    obtain ⟨N, hN, rfl, hk⟩ := hp
                    have HN := Lib.hid hN
                    clear hN hcb
                    have HST := Lib.hid (HST.out.keep0 hk)
                    have HB := Lib.hid (hk.blk HB.out id)
                    have HG := Lib.hid (HG.out.keep hk id)
                    have HLC := Lib.hid (hk.owns HLC.out fun _ _ => id)
                    clear hk
                    have hc1 := blk_cell HB.out (i := 1) rfl
                    have hc3 := blk_cell HB.out (i := 3) rfl
                    go_wp2_with fail
                    have hct := rroom_any w4 r D Z _ C HST.out.ref (.slice xa tn xc) th cp (by rw [HTN.out]; exact HRT.out.keep HST.out.keep fun _ _ => id)
                    refine hct.mono ?_
                    intro e w5 hp
                    clear hct hc1 hc3
                    unfold ManyPost at hp
                    rw [if_pos HCB.out] at hp
                    obtain ⟨N2, hN2, rfl, hk⟩ := hp
                    obtain rfl : N = N2 := HN.out.unique hN2
                    clear hN2
                    have hnn : ((N : Int) == (N : Int)) = true := by simp
                    have HST := Lib.hid (HST.out.keep0 hk)
                    have HB := Lib.hid (hk.blk HB.out id)
                    have HG := Lib.hid (HG.out.keep hk id)
                    have HLC := Lib.hid (hk.owns HLC.out fun _ _ => id)
                    clear hk
                    try clear hc0
                    try clear hc1
                    try clear hc2
                    try clear hc3
                    try clear hc4
                    have hc3 := blk_cell HB.out (i := 3) rfl
                    have hc4 := blk_cell HB.out (i := 4) rfl
                    go_wp2_with fail
                    have hkb := keptB_any w5 (.slice xa tn xc) th (by rw [HTN.out]; exact HRT.out.keep HST.out.keep fun _ _ => id) (by rw [HTN.out]; omega) g HG.out
                    rw [HTN.out] at hkb
                    refine hkb.mono ?_
                    rintro e wk1 ⟨rfl, hk⟩
                    clear hkb hc3 hc4
                    have HST := Lib.hid (HST.out.keep0 hk)
                    have HB := Lib.hid (hk.blk HB.out id)
                    have HG := Lib.hid (HG.out.keep hk id)
                    have HLC := Lib.hid (hk.owns HLC.out fun _ _ => id)
                    clear hk
                    have hc4 := blk_cell HB.out (i := 4) rfl
                    go_wp2_with fail
                    refine (same_any wk1 (.slice la ln lc) (.slice ya ln yc) l l (by rw [HLN.out]; exact Rd.of_owns HLC.out) (by rw [HLN.out]; exact HRL.out.keep HST.out.keep fun _ _ => id) true (decide_eq_true rfl)).mono ?_
                    rintro e wk2 ⟨rfl, hk⟩
                    clear hc4
                    have HST := Lib.hid (HST.out.keep0 hk)
                    have HB := Lib.hid (hk.blk HB.out id)
                    have HG := Lib.hid (HG.out.keep hk id)
                    have HLC := Lib.hid (hk.owns HLC.out fun _ _ => id)
                    clear hk
                    go_wp2_with fail
                    go_ret2
                    exact ⟨c, _, C, _, T, rfl, HST.out, Nat.le_succ _⟩
                  · have HCB := Lib.hid hcb
                    rw [if_neg hcb] at hp
                    obtain ⟨rfl, hk⟩ := hp
                    clear hcb
                    have HST := Lib.hid (HST.out.keep0 hk)
                    have HB := Lib.hid (hk.blk HB.out id)
                    have HG := Lib.hid (HG.out.keep hk id)
                    have HLC := Lib.hid (hk.owns HLC.out fun _ _ => id)
                    clear hk
                    have hc1 := blk_cell HB.out (i := 1) rfl
                    have hc3 := blk_cell HB.out (i := 3) rfl
                    go_wp2_with fail
                    have hct := rroom_any w4 r D Z _ C HST.out.ref (.slice xa tn xc) th cp (by rw [HTN.out]; exact HRT.out.keep HST.out.keep fun _ _ => id)
                    refine hct.mono ?_
                    intro e w5 hp
                    clear hct hc1 hc3
                    unfold ManyPost at hp
                    rw [if_neg HCB.out] at hp
                    obtain ⟨rfl, hk⟩ := hp
                    have HST := Lib.hid (HST.out.keep0 hk)
                    have HB := Lib.hid (hk.blk HB.out id)
                    have HG := Lib.hid (HG.out.keep hk id)
                    have HLC := Lib.hid (hk.owns HLC.out fun _ _ => id)
                    clear hk
                    try clear hc0
                    try clear hc1
                    try clear hc2
                    try clear hc3
                    try clear hc4
                    have hc3 := blk_cell HB.out (i := 3) rfl
                    have hc4 := blk_cell HB.out (i := 4) rfl
                    go_wp2_with fail
                    have hkb := keptB_any w5 (.slice xa tn xc) th (by rw [HTN.out]; exact HRT.out.keep HST.out.keep fun _ _ => id) (by rw [HTN.out]; omega) g HG.out
                    rw [HTN.out] at hkb
                    refine hkb.mono ?_
                    rintro e wk1 ⟨rfl, hk⟩
                    clear hkb hc3 hc4
                    have HST := Lib.hid (HST.out.keep0 hk)
                    have HB := Lib.hid (hk.blk HB.out id)
                    have HG := Lib.hid (HG.out.keep hk id)
                    have HLC := Lib.hid (hk.owns HLC.out fun _ _ => id)
                    clear hk
                    have hc4 := blk_cell HB.out (i := 4) rfl
                    go_wp2_with fail
                    refine (same_any wk1 (.slice la ln lc) (.slice ya ln yc) l l (by rw [HLN.out]; exact Rd.of_owns HLC.out) (by rw [HLN.out]; exact HRL.out.keep HST.out.keep fun _ _ => id) true (decide_eq_true rfl)).mono ?_
                    rintro e wk2 ⟨rfl, hk⟩
                    clear hc4
                    have HST := Lib.hid (HST.out.keep0 hk)
                    have HB := Lib.hid (hk.blk HB.out id)
                    have HG := Lib.hid (HG.out.keep hk id)
                    have HLC := Lib.hid (hk.owns HLC.out fun _ _ => id)
                    clear hk
                    go_wp2_with fail
                    go_ret2
                    exact ⟨c, _, C, _, T, rfl, HST.out, Nat.le_succ _⟩
              · by_cases ek7 : kd = 7
                · as_aux_lemma =>
                    subst ek7
                    go_wp2_with fail
                    clear hc0
                    have HMA : Hid (∀ x, x ∈ C → mayB x D Z = true) := Lib.hid (fun x hx => (mayB_in hbd).2 (HST.out.ref.inn x hx))
                    go_loopw [12, 22] (fun f i wx => ∃ k : Nat, k ≤ ln ∧ f = .bool true ∧ i = .int .i64 k ∧ Hid (Keep noBlk wq43 wx)) (fun _ i _ => ln - (intOf i).toNat)
                    case atStart => exact ⟨0, Nat.zero_le _, rfl, rfl, Lib.hid (Keep.refl _ _)⟩
                    case round =>
                    obtain ⟨k, hk, rfl, rfl, HKj⟩ := hrel
                    have HST := Lib.hid (HST.out.keep0 HKj.out)
                    have HB := Lib.hid (HKj.out.blk HB.out id)
                    have HG := Lib.hid (HG.out.keep HKj.out id)
                    have HLC := Lib.hid (HKj.out.owns HLC.out fun _ _ => id)
                    by_cases hlt : k < ln
                    · have hki : (k : Int) < (ln : Int) := by omega
                      have hk0 : (0 : Int) ≤ (k : Int) := by omega
                      obtain ⟨x, hx⟩ : ∃ x, l[k]? = some x := ⟨l[k]'(by rw [HLN.out]; exact hlt), List.getElem?_eq_getElem _⟩
                      have hr_ := Rd.of_owns HLC.out
                      rw [← HLN.out] at hr_
                      obtain ⟨lg, l2, cap', hv, hat⟩ := rd_ad hr_ hx
                      rw [HLN.out] at hv
                      have e1 : la = some ⟨lg, l2, none⟩ := by cases hv; rfl
                      subst e1
                      have HX := Lib.hid hat
                      have HC2 := Lib.hid HST.out.ref.c2
                      have hin : inB x D Z C = decide (x ∈ C) := by
                        unfold inB
                        by_cases hm : x ∈ C
                        · rw [HMA.out x hm, decide_eq_true hm]; rfl
                        · rw [decide_eq_false hm, Bool.and_false]
                      obtain ⟨bi, hbi⟩ : ∃ b, decide (x ∈ C) = b := ⟨_, rfl⟩
                      have HA1 : Hid (∀ w', Keep noBlk wr w' → Calls Try.prog 24 #[.pointer (some ⟨a, 0, none⟩), .agg (adCs x).toArray] w' fun e w2 => e = .returned (.bool bi) ∧ Keep noBlk w' w2) := Lib.hid (fun w' kk => by
                        have h := ledHas_any w' lo a b D Z c C (HST.out.led.keep0 kk) x
                        rwa [hin, hbi] at h)
                      have HA2 : Hid (∀ w', Keep noBlk wr w' → Calls Try.prog 47 #[.slice oa cl ca, .agg (adCs x).toArray] w' fun e w2 => e = .returned (.bool bi) ∧ Keep noBlk w' w2) := Lib.hid (fun w' kk => by
                        have h := rhas_any w' (.slice oa cl ca) C x (HST.out.ref.rd.keep kk fun _ _ => id)
                        rwa [hbi] at h)
                      have HW0 := Lib.hid (Keep.refl noBlk wr)
                      clear hx hr_ hv hat hin hbi
                      go_wp2_with fail
                      obtain ⟨S, hS0⟩ : ∃ S : World → Prop, S = fun w' => Keep noBlk wr w' := ⟨_, rfl⟩
                      have HSE := Lib.hid (show ∀ w', S w' → Keep noBlk wr w' from fun w' h => by rw [hS0] at h; exact h)
                      have HSI := Lib.hid (show ∀ w', Keep noBlk wr w' → S w' from fun w' h => by rw [hS0]; exact h)
                      have hS : S wr.drew := by rw [hS0]; exact (Keep.refl _ _).drew
                      clear hS0
                      refine wp_region_held (S := S) (by kernel_rfl) ?_
                      change wpAnyH _ _ _ _ _ _ _ _ wr.drew
                      generalize wr.drew = wq44 at hS ⊢
                      refine tna 0 (.bool true) rfl hS ?_
                      refine tna 1 (.bool true) rfl hS ?_
                      refine tna 2 (.pointer (some ⟨a, 0, none⟩)) rfl hS ?_
                      refine tna 3 (.slice (some ⟨lg, l2, none⟩) ln lc) rfl hS ?_
                      refine tna 4 (.int .i64 (k : Int)) rfl hS ?_
                      refine tnb 5 (.pointer (some ⟨lg, l2 + k * 2, none⟩)) rfl hS ?_
                      refine tnd 6 (.agg ((adCs x)).toArray) rfl (yieldsIf_load_mid (by rfl) 50 (.tmp 153) rfl (lg) (l2 + k * 2) rfl ((adCs x)) _ (fun w' h => (HSE.out w' h).rangeAt HX.out) adUnder rfl sizeAd) hS ?_
                      refine tna 8 (.pointer (some ⟨r, 0, none⟩)) rfl hS ?_
                      refine tnb 9 (.pointer (some ⟨r, 0, none⟩)) rfl hS ?_
                      refine tnb 10 (.pointer (some ⟨r, 2, none⟩)) rfl hS ?_
                      refine tnd 11 (.slice oa cl ca) rfl (.inl ⟨by rfl, fun w' hw' => by have c := (HSE.out w' hw').cell HC2.out id; go_simp⟩) hS ?_
                      refine tna 12 (.slice (some ⟨lg, l2, none⟩) ln lc) rfl hS ?_
                      refine tna 13 (.int .i64 (k : Int)) rfl hS ?_
                      refine tnb 14 (.pointer (some ⟨lg, l2 + k * 2, none⟩)) rfl hS ?_
                      refine tnd 15 (.agg ((adCs x)).toArray) rfl (yieldsIf_load_mid (by rfl) 50 (.tmp 162) rfl (lg) (l2 + k * 2) rfl ((adCs x)) _ (fun w' h => (HSE.out w' h).rangeAt HX.out) adUnder rfl sizeAd) hS ?_
                      refine wpAnyH_one (k := 7) rfl (by kernel_rfl) ?_
                      go_wp2_with fail
                      refine (HA1.out wq44 (HW0.out.trans (HSE.out _ hS))).mono ?_
                      rintro e wq45 ⟨rfl, hk⟩
                      have hS1 := HSI.out _ ((HSE.out _ hS).trans hk)
                      clear hS hk
                      go_wp2_with fail
                      refine ⟨hS1, ?_⟩
                      refine wpAnyH_one (k := 16) rfl (by kernel_rfl) ?_
                      go_wp2_with fail
                      refine (HA2.out wq45 (HW0.out.trans (HSE.out _ hS1))).mono ?_
                      rintro e wq46 ⟨rfl, hk⟩
                      have hS2 := HSI.out _ ((HSE.out _ hS1).trans hk)
                      clear hS1 hk
                      go_wp2_with fail
                      refine ⟨hS2, ?_⟩
                      refine tnb 17 (.bool true) rfl hS2 ?_
                      refine tna 18 (.bool true) rfl hS2 ?_
                      refine tna 19 (.bool true) rfl hS2 ?_
                      refine wpAnyH_done (by kernel_rfl) ?_ _
                      have HKR := Lib.hid (HSE.out _ hS2)
                      clear hS2 HSE HSI
                      have HST := Lib.hid (HST.out.keep0 HKR.out)
                      have HB := Lib.hid (HKR.out.blk HB.out id)
                      have HG := Lib.hid (HG.out.keep HKR.out id)
                      have HLC := Lib.hid (HKR.out.owns HLC.out fun _ _ => id)
                      have HKj := Lib.hid (HKj.out.trans HKR.out)
                      have HX := Lib.hid (HKR.out.rangeAt HX.out)
                      have HW0 := Lib.hid (HW0.out.trans HKR.out)
                      go_wp2_with fail
                      go_roundw
                      case rel => exact ⟨k + 1, by omega, rfl, by go_num, HKj⟩
                      case measure => simp [intOf]; omega
                    · have hki : ¬ (k : Int) < (ln : Int) := by omega
                      have hc3 := blk_cell HB.out (i := 3) rfl
                      have hc4 := blk_cell HB.out (i := 4) rfl
                      go_wp2_with fail
                      have hkb := keptB_any wr (.slice xa tn xc) th (by rw [HTN.out]; exact HRT.out.keep HST.out.keep fun _ _ => id) (by rw [HTN.out]; omega) g HG.out
                      rw [HTN.out] at hkb
                      refine hkb.mono ?_
                      rintro e wk1 ⟨rfl, hk⟩
                      clear hkb hc3 hc4
                      have HST := Lib.hid (HST.out.keep0 hk)
                      have HB := Lib.hid (hk.blk HB.out id)
                      have HG := Lib.hid (HG.out.keep hk id)
                      have HLC := Lib.hid (hk.owns HLC.out fun _ _ => id)
                      have HKj := Lib.hid (HKj.out.trans hk)
                      clear hk
                      have hc4 := blk_cell HB.out (i := 4) rfl
                      go_wp2_with fail
                      refine (same_any wk1 (.slice la ln lc) (.slice ya ln yc) l l (by rw [HLN.out]; exact Rd.of_owns HLC.out) (by rw [HLN.out]; exact HRL.out.keep HST.out.keep fun _ _ => id) true (decide_eq_true rfl)).mono ?_
                      rintro e wk2 ⟨rfl, hk⟩
                      clear hc4
                      have HST := Lib.hid (HST.out.keep0 hk)
                      have HB := Lib.hid (hk.blk HB.out id)
                      have HG := Lib.hid (HG.out.keep hk id)
                      have HLC := Lib.hid (hk.owns HLC.out fun _ _ => id)
                      have HKj := Lib.hid (HKj.out.trans hk)
                      clear hk
                      go_wp2_with fail
                      go_ret2
                      exact ⟨c, _, C, _, T, rfl, HST.out, Nat.le_succ _⟩
                · have hc3 := blk_cell HB.out (i := 3) rfl
                  have hc4 := blk_cell HB.out (i := 4) rfl
                  go_wp2_with fail
                  have hkb := keptB_any wq43 (.slice xa tn xc) th (by rw [HTN.out]; exact HRT.out.keep HST.out.keep fun _ _ => id) (by rw [HTN.out]; omega) g HG.out
                  rw [HTN.out] at hkb
                  refine hkb.mono ?_
                  rintro e wk1 ⟨rfl, hk⟩
                  clear hkb hc3 hc4
                  have HST := Lib.hid (HST.out.keep0 hk)
                  have HB := Lib.hid (hk.blk HB.out id)
                  have HG := Lib.hid (HG.out.keep hk id)
                  have HLC := Lib.hid (hk.owns HLC.out fun _ _ => id)
                  clear hk
                  have hc4 := blk_cell HB.out (i := 4) rfl
                  go_wp2_with fail
                  refine (same_any wk1 (.slice la ln lc) (.slice ya ln yc) l l (by rw [HLN.out]; exact Rd.of_owns HLC.out) (by rw [HLN.out]; exact HRL.out.keep HST.out.keep fun _ _ => id) true (decide_eq_true rfl)).mono ?_
                  rintro e wk2 ⟨rfl, hk⟩
                  clear hc4
                  have HST := Lib.hid (HST.out.keep0 hk)
                  have HB := Lib.hid (hk.blk HB.out id)
                  have HG := Lib.hid (HG.out.keep hk id)
                  have HLC := Lib.hid (hk.owns HLC.out fun _ _ => id)
                  clear hk
                  go_wp2_with fail
                  go_ret2
                  exact ⟨c, _, C, _, T, rfl, HST.out, Nat.le_succ _⟩
end Go.Proofs.Ytfjklgbakhjjiaa
