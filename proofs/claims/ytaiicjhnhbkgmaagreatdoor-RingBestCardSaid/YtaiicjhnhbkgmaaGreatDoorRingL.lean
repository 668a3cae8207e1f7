/-
  OverAddrs (once more), OverUbers.
  Conditions: none.
-/
import Derived.Test.YtaiicjhnhbkgmaaGreatDoorRingH
namespace Go.Proofs.YtaiicjhnhbkgmaaGreatDoor
open Go.RowKit Go.Maps Go.ChangeMaps
set_option maxRecDepth 100000
set_option linter.unusedVariables false

def OverAll (w w' : World) : Prop := ∀ (n : Nat) (oa : Option Addr), OverI n oa w → OverI n oa w'
theorem OverAll.keep {w w' : World} {S : Nat → Prop} (k : Keep S w w') (hS : ∀ j cur, w.heap[j]? = some (.cells cur 70 (0, 0)) → ¬ S j) : OverAll w w' := fun n oa h hn => by
  obtain ⟨g, cur, h1, h2, h3⟩ := h hn
  exact ⟨g, cur, h1, k.blk h2 (hS _ _ h2), h3⟩
theorem OverAll.store {w w' : World} {g : Nat} {cur cur' : Array Value} (hb : w.heap[g]? = some (.cells cur 70 (0, 0))) (hb' : w'.heap[g]? = some (.cells cur' 70 (0, 0))) (hs : cur'.size = cur.size) (k : Keep (fun j => j = g) w w') : OverAll w w' := fun n oa h hn => by
  obtain ⟨g2, cur2, h1, h2, h3⟩ := h hn
  by_cases e : g2 = g
  · subst e
    rw [hb] at h2
    cases h2
    exact ⟨_, _, h1, hb', by rw [hs]; exact h3⟩
  · exact ⟨g2, cur2, h1, k.blk h2 e, h3⟩
set_option maxHeartbeats 4000000 in
theorem overAd2_any (w : World) (n ca : Nat) (oa : Option Addr) (hi : OverI n oa w) (hn63 : n ≤ 9223372036854775807) : Calls Tryz.prog 38 #[.slice oa n ca] w fun e w' => e = .returned (.tuple #[]) ∧ Keep (fun j => (Value.slice oa n ca).ownBlock = some j) w w' ∧ OverAll w w' := by
  have HZ := Lib.hid hi
  clear hi
  go_enter Tryz.func38, Tryz.ntmps38
  go_wp2_with fail
  go_loopw [2] (fun i wr => ∃ k : Nat, k ≤ n ∧ i = .int .i64 k ∧ Hid (OverI n oa wr) ∧ Hid (Keep (fun j => (Value.slice oa n ca).ownBlock = some j) w wr) ∧ Hid (OverAll w wr)) (fun i _ => n - (intOf i).toNat)
  case atStart => exact ⟨0, Nat.zero_le _, rfl, HZ, Lib.hid (Keep.refl _ _), Lib.hid (fun _ _ h => h)⟩
  case round =>
  obtain ⟨k, hk, rfl, HI, HKR, HA⟩ := hrel
  by_cases hlt : k < n
  · obtain ⟨g, cur, rfl, hb, hsz⟩ := HI.out (by omega)
    have HB := Lib.hid hb
    have hki : (k : Int) < (n : Int) := by omega
    have hk0 : (0 : Int) ≤ (k : Int) := by omega
    have hfit : k * 2 + 2 ≤ cur.size := by omega
    have hbd := buildAd (-7) (-7)
    clear hb
    go_wp2_with (first
      | ((with_reducible show wpList _ _ _ (⟨none, .store 70 (.tmp 12) (.tmp 11), _, _, _, _⟩ :: _) _ _); refine wpList_store_agg rfl 70 (.tmp 12) (.tmp 11) rfl g (k * 2) (adCs ⟨-7, -7⟩) rfl rfl cur 70 HB.out hfit sizeAd (oneCell_ad _) ?_
         intro w3 hb3 hk3
         have HI3 : Hid (OverI n (some ⟨g, 0, none⟩) w3) := Lib.hid (fun _ => ⟨g, _, rfl, hb3, by rw [spl_size]; exact hsz⟩)
         have HA3 : Hid (OverAll w w3) := Lib.hid (fun n' oa' h => OverAll.store HB.out hb3 (spl_size _ _ _) hk3 n' oa' (HA.out n' oa' h))
         have HK3 := Lib.hid (HKR.out.trans' hk3 (U := fun j => (Value.slice (some ⟨g, 0, none⟩) n ca).ownBlock = some j) (fun _ _ h => h) (fun i hi e => by rw [e]; rfl))
         clear hb3 hk3))
    go_roundw
    case rel => exact ⟨k + 1, by omega, by go_num, HI3, HK3, HA3⟩
    case measure => simp [intOf]; omega
  · obtain rfl : k = n := by omega
    go_wp2_with fail
    go_end0
    exact ⟨rfl, HKR.out, HA.out⟩
def zUb7 : Ub := ⟨-7, zPt, 0, zeros32⟩
theorem buildUb7 (w : World) : (Instr.build 36 #[(0, .int .i64 (-7))]).run Tryz.prog w = .ok (.agg (ubCs (.slice none 0 0) zUb7).toArray) w := by kernel_rfl
def OvS (B E : Nat) : Nat → Prop := fun j => B ≤ j ∧ j < E
set_option maxHeartbeats 8000000 in
theorem overUbs_any (w : World) (B E : Nat) (v : Value) (qs : List (Value × Ub)) (ho : w.ownsRow B 36 69 v qs.length (ubRow qs)) (hu : UbsO w B qs) (hE : (∀ j, v.ownBlock = some j → j < E) ∧ ∀ q ∈ qs, ∀ j, q.1.ownBlock = some j → j < E) :
    Calls Tryz.prog 15 #[v] w fun e w' => e = .returned (.tuple #[]) ∧ Keep (OvS B E) w w' := by
  obtain ⟨oa, ca, hv, hcn, hcm⟩ := (Rd.of_owns ho).form
  subst hv
  unfold maxLen at hcm
  have hl : UbLens qs := fun q hq => ⟨(hu q hq).2.1, (hu q hq).1⟩
  have HL := Lib.hid hl
  have hov : ∀ q ∈ qs, ∃ a c, q.1 = .slice a q.2.root.addrs.length c ∧ OverI q.2.root.addrs.length a w ∧ (∀ j, q.1.ownBlock = some j → OvS B E j ∧ ∃ cur, w.heap[j]? = some (.cells cur 70 (0, 0))) ∧ q.2.root.addrs.length ≤ 9223372036854775807 := fun q hq => by
    obtain ⟨a, c, h1, h2, h3⟩ := (Rd.of_owns (hu q hq).2.2.2).form
    refine ⟨a, c, h1, fun hn => by have h4 := (hu q hq).2.2.2; rw [h1] at h4; exact owns_open h4 hn, fun j hj => ⟨⟨owns_base (hu q hq).2.2.2 hj, hE.2 q hq j hj⟩, owns_block (hu q hq).2.2.2 hj⟩, ?_⟩
    unfold maxLen at h3; omega
  have HOV := Lib.hid hov
  have hrow : ∃ g : Nat, 0 < qs.length → oa = some ⟨g, 0, none⟩ ∧ B ≤ g ∧ ∃ cur, w.heap[g]? = some (.cells cur 36 (0, 0)) ∧ qs.length * 69 ≤ cur.size ∧ cur.toList.take (qs.length * 69) = ubRow qs := by
    rcases ho.2 with ⟨h1, -⟩ | ⟨g, cap, cur, h1, hb, hh, h3, h4, h5, h6⟩
    · refine ⟨0, fun hn => ?_⟩
      injection h1 with h1 h2
      omega
    · injection h1 with h1 _ h2
      exact ⟨g, fun _ => ⟨h1, hb, cur, hh, by rw [h5]; exact Nat.mul_le_mul_right 69 h3, h6⟩⟩
  obtain ⟨g, hrow⟩ := hrow
  obtain ⟨n, hn⟩ : ∃ n, qs.length = n := ⟨_, rfl⟩
  have HN := Lib.hid hn
  rw [hn] at hrow hcn ⊢
  have HRW : Hid (0 < n → ∃ cur, w.heap[g]? = some (.cells cur 36 (0, 0)) ∧ n * 69 ≤ cur.size ∧ ∀ k, k < n → ∀ j, j < 69 → cur[k * 69 + j]? = (ubRow qs)[k * 69 + j]?) := Lib.hid (fun h => by
    obtain ⟨-, -, cur, h1, h2, h3⟩ := hrow h
    refine ⟨cur, h1, h2, fun k hk j hj => ?_⟩
    have hkj : k * 69 + j < n * 69 := by
      have : (k + 1) * 69 ≤ n * 69 := Nat.mul_le_mul_right 69 hk
      omega
    rw [← h3, List.getElem?_take, if_pos hkj, Array.getElem?_toList])
  have HGO : Hid (0 < n → oa = some ⟨g, 0, none⟩ ∧ OvS B E g) := Lib.hid (fun h => by
    obtain ⟨h1, h2, cur, h3, -⟩ := hrow h
    exact ⟨h1, h2, hE.1 g (by rw [h1]; rfl)⟩)
  clear ho hu hl hov hrow hn hE
  go_enter Tryz.func15, Tryz.ntmps15
  go_wp2_with fail
  go_loopw [2] (fun i wr => ∃ k : Nat, k ≤ n ∧ i = .int .i64 k ∧ Hid (Keep (OvS B E) w wr) ∧ Hid (OverAll w wr) ∧ Hid (0 < n → ∃ cur, wr.heap[g]? = some (.cells cur 36 (0, 0)) ∧ n * 69 ≤ cur.size ∧ ∀ i, k ≤ i → i < n → ∀ j, j < 69 → cur[i * 69 + j]? = (ubRow qs)[i * 69 + j]?)) (fun i _ => n - (intOf i).toNat)
  case atStart => exact ⟨0, Nat.zero_le _, rfl, Lib.hid (Keep.refl _ _), Lib.hid (fun _ _ h => h), Lib.hid (fun h => by obtain ⟨cur, h1, h2, h3⟩ := HRW.out h; exact ⟨cur, h1, h2, fun i _ hi j hj => h3 i hi j hj⟩)⟩
  case round =>
  obtain ⟨k, hk, rfl, HKR, HA, HR⟩ := hrel
  by_cases hlt : k < n
  · obtain ⟨rfl, hgs⟩ := HGO.out (by omega)
    obtain ⟨cur, hb, hsz, hat⟩ := HR.out (by omega)
    obtain ⟨q, hq⟩ : ∃ q, qs[k]? = some q := ⟨qs[k]'(by rw [HN.out]; exact hlt), List.getElem?_eq_getElem _⟩
    obtain ⟨qa, qc, hq1, hqi, hqs, hq63⟩ := HOV.out q (List.mem_of_getElem? hq)
    have hki : (k : Int) < (n : Int) := by omega
    have hk0 : (0 : Int) ≤ (k : Int) := by omega
    have h1k : (k + 1) * 69 ≤ n * 69 := Nat.mul_le_mul_right 69 hlt
    have hc1 : wr.cell? ⟨g, k * 69 + 1, none⟩ = some (.slice qa q.2.root.addrs.length qc) := by
      refine blk_cell hb ?_
      rw [hat k (Nat.le_refl _) hlt 1 (by omega), ubRow_at HL.out hq (by omega), ← hq1]
      rfl
    have HC := Lib.hid (overAd2_any wr q.2.root.addrs.length qc qa (HA.out _ _ hqi) hq63)
    have hqs2 : ∀ j, (Value.slice qa q.2.root.addrs.length qc).ownBlock = some j → OvS B E j ∧ j ≠ g := by
      rw [← hq1]
      intro j hj
      refine ⟨(hqs j hj).1, fun e => ?_⟩
      obtain ⟨cur1, h1⟩ := (hqs j hj).2
      obtain ⟨cur2, h2, -⟩ := HRW.out (by omega)
      rw [e, h2] at h1
      cases h1
    have HQS := Lib.hid hqs2; have HGS := Lib.hid hgs
    have HB := Lib.hid hb; have HSZ := Lib.hid hsz; have HAT := Lib.hid hat
    have HFT : Hid (k * 69 + 69 ≤ cur.size) := Lib.hid (by omega)
    obtain ⟨m, hm⟩ : ∃ m, q.2.root.addrs.length = m := ⟨_, rfl⟩
    rw [hm] at hc1 HC HQS
    have hbd := buildUb7
    obtain ⟨zc, hzc, hzl, hzo⟩ : ∃ zc, ubCs (.slice none 0 0) zUb7 = zc ∧ zc.length = 69 ∧ ∀ u ∈ zc, u.oneCell' = true := ⟨_, rfl, rfl, oneCell_ub _⟩
    rw [hzc] at hbd
    have HZO := Lib.hid hzo; have HBD := Lib.hid hbd
    clear hb hsz hat hqi hqs hqs2 hq1 hq63 hq hm h1k hgs hzc hzo hbd
    go_wp2_with fail
    refine HC.out.mono ?_
    rintro e w2 ⟨rfl, hk2, ha2⟩
    have hb2 : w2.heap[g]? = some (.cells cur 36 (0, 0)) := hk2.blk HB.out (fun e => (HQS.out g e).2 rfl)
    have HB2 := Lib.hid hb2
    have HK2 : Hid (Keep (OvS B E) w w2) := Lib.hid (HKR.out.trans' hk2 (fun _ _ h => h) (fun i _ h => (HQS.out i h).1))
    have HA2 : Hid (OverAll w w2) := Lib.hid (fun n' oa' h => ha2 n' oa' (HA.out n' oa' h))
    clear hb2 hk2 ha2 hc1
    go_wp2_with (first
      | ((with_reducible show wpList _ _ _ (⟨_, .build _ _, _, _, _, _⟩ :: _) _ _); refine wpList_build_to rfl 36 #[(0, .const (.int .i64 (-7)))] rfl [(0, .int .i64 (-7))] rfl (.agg zc.toArray) HBD.out ?_)
      | ((with_reducible show wpList _ _ _ (⟨none, .store 36 (.tmp 19) (.tmp 18), _, _, _, _⟩ :: _) _ _); refine wpList_store_agg rfl 36 (.tmp 19) (.tmp 18) rfl g (k * 69) zc rfl rfl cur 36 HB2.out (by rw [hzl]; exact HFT.out) (sizeUbL hzl) HZO.out ?_
         intro w3 hb3 hk3
         have HK3 : Hid (Keep (OvS B E) w w3) := Lib.hid (HK2.out.trans' hk3 (fun _ _ h => h) (fun i _ h => by rw [h]; exact HGS.out))
         have HA3 : Hid (OverAll w w3) := Lib.hid (fun n' oa' h => (OverAll.keep hk3 (fun j c h1 e => by rw [e, HB2.out] at h1; cases h1)) n' oa' (HA2.out n' oa' h))
         have HR3 : Hid (0 < n → ∃ cur, w3.heap[g]? = some (.cells cur 36 (0, 0)) ∧ n * 69 ≤ cur.size ∧ ∀ i, k + 1 ≤ i → i < n → ∀ j, j < 69 → cur[i * 69 + j]? = (ubRow qs)[i * 69 + j]?) := Lib.hid (fun _ => ⟨_, hb3, by rw [spl_size]; exact HSZ.out, fun i h1 h2 j h3 => by
           rw [spl_get _ _ _ _ (by rw [hzl]; exact HFT.out), hzl, if_neg (by have : (k + 1) * 69 ≤ i * 69 := Nat.mul_le_mul_right 69 h1; omega)]
           exact HAT.out i (by omega) h2 j h3⟩)
         clear hb3 hk3))
    go_roundw
    case rel => exact ⟨k + 1, by omega, by go_num, HK3, HA3, HR3⟩
    case measure => simp [intOf]; omega
  · obtain rfl : k = n := by omega
    go_wp2_with fail
    go_end0
    exact ⟨rfl, HKR.out⟩

end Go.Proofs.YtaiicjhnhbkgmaaGreatDoor

/-
  the law's of.
  Conditions: none.
-/
namespace Go.Proofs.YtaiicjhnhbkgmaaGreatDoor
open Go.RowKit Go.Maps Go.ChangeMaps
set_option maxRecDepth 100000
set_option linter.unusedVariables false

def ofUb (t : Int) : Ub := ⟨t, zPt, 0, zeros32⟩
theorem buildOf (t : Int) (w : World) : (Instr.build 36 #[(0, .int .i64 t)]).run Tryz.prog w = .ok (.agg (ubCs (.slice none 0 0) (ofUb t)).toArray) w := by kernel_rfl
theorem ubV_of (w : World) (t : Int) : UbV w (.slice none 0 0) (ofUb t) := ⟨⟨Rd.of_owns (World.ownsRow_nil w 0 70 2), (fun x hx => by cases hx), rfl⟩, rfl⟩
def OfPost (w : World) (t : Int) (e : Ending) (w' : World) : Prop := ∃ v, e = .returned (.tuple #[.agg (ubCs (.slice none 0 0) (ofUb t)).toArray, v]) ∧ w'.ownsRow w.heap.size 5 1 v (packU (ofUb t)).length ((packU (ofUb t)).map vb) ∧ Keep noBlk w w'
set_option maxHeartbeats 4000000 in
theorem of_any (w : World) (t : Int) : Calls Tryz.prog 26 #[.int .i64 t] w (OfPost w t) := by
  obtain ⟨zc, hzc, hzl⟩ : ∃ zc, ubCs (.slice none 0 0) zUb = zc ∧ zc.length = 69 := ⟨_, rfl, rfl⟩
  have hzv : ∀ w, (zeroValue 36).run Tryz.prog w = .ok (.agg zc.toArray) w := by rw [← hzc]; exact zeroValUb
  have HZV := Lib.hid hzv; have HZC := Lib.hid hzc
  clear hzc hzv
  have HU := Lib.hid (ubV_of w t)
  obtain ⟨oc, hoc, hol, hoo⟩ : ∃ oc, ubCs (.slice none 0 0) (ofUb t) = oc ∧ oc.length = 69 ∧ ∀ u ∈ oc, u.oneCell' = true := ⟨_, rfl, rfl, oneCell_ub _⟩
  have hbd : ∀ w, (Instr.build 36 #[(0, .int .i64 t)]).run Tryz.prog w = .ok (.agg oc.toArray) w := by rw [← hoc]; exact buildOf t
  have HBD := Lib.hid hbd; have HOC := Lib.hid hoc; have HOO := Lib.hid hoo
  obtain ⟨w1, hw1, k1, hb1, s1⟩ := alloc_facts w zc.toArray 36
  have HK1 := Lib.hid k1; have HR1 := Lib.hid hb1
  obtain ⟨rb, hrb⟩ : ∃ b, w.heap.size = b := ⟨_, rfl⟩
  have HRN := Lib.hid hrb
  rw [hrb] at HR1
  have hrl : rb < w1.heap.size := by omega
  have HRL := Lib.hid hrl
  clear hbd hoc hoo k1 hb1 s1 hrl hrb
  go_enter Tryz.func26, Tryz.ntmps26
  go_wp2_with (first
    | ((with_reducible show wpList _ _ _ (⟨some 2, .alloc 36, _, _, _, _⟩ :: _) _ _); refine wpList_alloc_at rfl 36 rfl _ HZV.out zc.toArray rfl ?_; rw [hw1, HRN.out]; clear hw1)
    | ((with_reducible show wpList _ _ _ (⟨_, .build _ _, _, _, _, _⟩ :: _) _ _); refine wpList_build_to rfl 36 #[(0, .tmp 7)] rfl [(0, .int .i64 t)] rfl (.agg oc.toArray) HBD.out ?_)
    | ((with_reducible show wpList _ _ _ (⟨some 4, .alloc 36, _, _, _, _⟩ :: _) _ _); refine wpList_alloc_at rfl 36 rfl _ HZV.out zc.toArray rfl ?_)
    | ((with_reducible show wpList _ _ _ (⟨none, .store 36 (.tmp 4) (.tmp 8), _, _, _, _⟩ :: _) _ _)
       refine wpList_store_agg rfl 36 (.tmp 4) (.tmp 8) rfl w1.heap.size 0 oc rfl rfl zc.toArray _ (heap_alloc_new _ _) (by rw [hol, List.size_toArray, hzl]; exact Nat.le_refl _) (sizeUbL hol) HOO.out ?_
       intro w2 hb2 hk2
       rw [spl_whole _ _ (by rw [hol, List.size_toArray, hzl])] at hb2
       have hkb : Keep noBlk w1 w2 := ((Keep.refl noBlk w1).alloc _).trans' hk2 (fun _ _ h => h.elim) (fun i hi e => by omega)
       clear hk2
       obtain ⟨ub, hub⟩ : ∃ b, w1.heap.size = b := ⟨_, rfl⟩
       rw [hub] at hb2 ⊢
       have HB2 := Lib.hid hb2; have HUN := Lib.hid hub
       have HR2 := Lib.hid (hkb.blk HR1.out id); have HK2 := Lib.hid (HK1.out.trans hkb)
       clear hb2 hub hkb)
    | ((with_reducible show wpList _ _ _ (⟨_, .load 36 (.tmp 4), _, _, _, _⟩ :: _) _ _); refine wpList_load_mid rfl 36 (.tmp 4) rfl ub 0 rfl oc _ (rangeAt_whole HB2.out) ubUnder rfl (sizeUbL hol) ?_))
  refine (show Calls Tryz.prog 30 #[.agg oc.toArray] w2 (UPackPost w2 (ofUb t)) from by rw [← HOC.out]; exact upack_any w2 _ _ (HU.out.keep HK2.out fun _ _ => id)).mono ?_
  rintro e w3 ⟨v3, rfl, ho3, hk3⟩
  have HB3 := Lib.hid (hk3.blk HB2.out id); have HR3 := Lib.hid (hk3.blk HR2.out id); have HK3 := Lib.hid (HK2.out.trans hk3)
  obtain ⟨a3, c3, hv3, -, -⟩ := (Rd.of_owns ho3).form
  have ho3 := ownsRow_mono ho3 HK2.out.size
  have HO3 := Lib.hid ho3
  have HUB := Lib.hid (show rb < ub from by have := HRL.out; have := HUN.out; omega)
  clear hk3 ho3
  have HNM : Hid ((ofUb t).may = false → packU (ofUb t) = []) := Lib.hid (fun h => by unfold packU; rw [h]; rfl)
  subst hv3
  obtain ⟨n3, hn3⟩ : ∃ n, (packU (ofUb t)).length = n := ⟨_, rfl⟩
  rw [hn3] at HO3 ⊢
  have HN3 := Lib.hid hn3
  clear hn3
  cases hm : (ofUb t).may
  · have he := HNM.out hm
    rw [if_neg Bool.false_ne_true]
    clear hm
    go_wp2_with (first
      | ((with_reducible show wpList _ _ _ (⟨_, .load 36 (.tmp 4), _, _, _, _⟩ :: _) _ _); refine wpList_load_mid rfl 36 (.tmp 4) rfl ub 0 rfl oc _ (rangeAt_whole HB3.out) ubUnder rfl (sizeUbL hol) ?_)
      | ((with_reducible show wpList _ _ _ (⟨none, .store 36 (.tmp 2) (.tmp 16), _, _, _, _⟩ :: _) _ _)
         refine wpList_store_agg rfl 36 (.tmp 2) (.tmp 16) rfl rb 0 oc rfl rfl zc.toArray _ HR3.out (by rw [hol, List.size_toArray, hzl]; exact Nat.le_refl _) (sizeUbL hol) HOO.out ?_
         intro w4 hb4 hk4
         rw [spl_whole _ _ (by rw [hol, List.size_toArray, hzl])] at hb4
         have HB4 := Lib.hid hb4; have HK4 := Lib.hid hk4
         clear hb4 hk4))
    refine bodyPost_ret (results_cell_row_tmp rfl _ _ rb _ _ _ _ rfl HB4.out ubUnder rfl (by rw [List.size_toArray]; exact sizeUbL hol)) rfl ?_
    refine ⟨.slice none 0 0, by rw [HOC.out]; rfl, ?_, HK3.out.trans' HK4.out (fun _ _ h => h) (fun i hi e => by have := HRN.out; omega)⟩
    rw [he]
    exact World.ownsRow_nil _ _ _ _
  · rw [if_pos rfl]
    clear hm
    go_wp2_with (first
      | ((with_reducible show wpList _ _ _ (⟨_, .load 36 (.tmp 4), _, _, _, _⟩ :: _) _ _); refine wpList_load_mid rfl 36 (.tmp 4) rfl ub 0 rfl oc _ (rangeAt_whole HB3.out) ubUnder rfl (sizeUbL hol) ?_)
      | ((with_reducible show wpList _ _ _ (⟨none, .store 36 (.tmp 2) (.tmp 17), _, _, _, _⟩ :: _) _ _)
         refine wpList_store_agg rfl 36 (.tmp 2) (.tmp 17) rfl rb 0 oc rfl rfl zc.toArray _ HR3.out (by rw [hol, List.size_toArray, hzl]; exact Nat.le_refl _) (sizeUbL hol) HOO.out ?_
         intro w4 hb4 hk4
         rw [spl_whole _ _ (by rw [hol, List.size_toArray, hzl])] at hb4
         have HB4 := Lib.hid hb4; have HK4 := Lib.hid hk4
         clear hb4 hk4))
    refine bodyPost_ret (results_cell_row_tmp rfl _ _ rb _ _ _ _ rfl HB4.out ubUnder rfl (by rw [List.size_toArray]; exact sizeUbL hol)) rfl ?_
    refine ⟨.slice a3 n3 c3, by rw [HOC.out]; rfl, ?_, HK3.out.trans' HK4.out (fun _ _ h => h) (fun i hi e => by have := HRN.out; omega)⟩
    rw [HN3.out]
    exact HK4.out.owns HO3.out (fun k hk e => by
      obtain ⟨cur, hc⟩ := owns_block HO3.out hk
      rw [e, HR3.out] at hc
      cases hc)

end Go.Proofs.YtaiicjhnhbkgmaaGreatDoor

/-
  the law's four.
  Conditions: none.
-/
namespace Go.Proofs.YtaiicjhnhbkgmaaGreatDoor
open Go.RowKit Go.Maps Go.ChangeMaps
set_option maxRecDepth 100000
set_option linter.unusedVariables false

def z256 : List UInt8 := List.replicate 256 0
theorem z256_vb : z256.map vb = List.replicate 256 (.int .u8 0) := by unfold z256; rw [List.map_replicate]; rfl
theorem four_rows {w : World} {B x5 x8 x9 n1 n2 c1 c2 : Nat} {b1 b2 : Option Addr} {b c : List UInt8} (h : w.heap[x9]? = some (.cells #[.slice (some ⟨x5, 0, none⟩) 256 256, .slice b1 n1 c1, .slice b2 n2 c2, .slice (some ⟨x8, 0, none⟩) 256 256] 51 (0, 0)))
    (h5 : w.ownsRow B 5 1 (.slice (some ⟨x5, 0, none⟩) 256 256) 256 (List.replicate 256 (.int .u8 0))) (h8 : w.ownsRow B 5 1 (.slice (some ⟨x8, 0, none⟩) 256 256) 256 (List.replicate 256 (.int .u8 0)))
    (hb : Rd w 1 (.slice b1 n1 c1) b.length (b.map vb)) (hc : Rd w 1 (.slice b2 n2 c2) c.length (c.map vb)) : RowsB w (.slice (some ⟨x9, 0, none⟩) 4 4) [z256, b, c, z256] := by
  refine ⟨[.slice (some ⟨x5, 0, none⟩) 256 256, .slice b1 n1 c1, .slice b2 n2 c2, .slice (some ⟨x8, 0, none⟩) 256 256], rd_blk (n := 4) (size := 1) h rfl (by unfold maxLen; omega), fun i L hi => ?_⟩
  have hz : ∀ {x}, w.ownsRow B 5 1 (.slice (some ⟨x, 0, none⟩) 256 256) 256 (List.replicate 256 (.int .u8 0)) → Rd w 1 (.slice (some ⟨x, 0, none⟩) 256 256) z256.length (z256.map vb) := fun h => by
    rw [z256_vb]; exact Rd.of_owns h
  match i, hi with
  | 0, hi => cases hi; exact ⟨_, rfl, hz h5⟩
  | 1, hi => cases hi; exact ⟨_, rfl, hb⟩
  | 2, hi => cases hi; exact ⟨_, rfl, hc⟩
  | 3, hi => cases hi; exact ⟨_, rfl, hz h8⟩
  | i + 4, hi => simp at hi
set_option maxHeartbeats 4000000 in
theorem four_any (w : World) (v1 v2 : Value) (b c : List UInt8) (hb : Rd w 1 v1 b.length (b.map vb)) (hc : Rd w 1 v2 c.length (c.map vb)) :
    Calls Tryz.prog 27 #[v1, v2] w fun e w' => ∃ v, e = .returned v ∧ RowsB w' v [z256, b, c, z256] ∧ Keep noBlk w w' := by
  obtain ⟨b1, c1, hv1, -, -⟩ := hb.form
  obtain ⟨b2, c2, hv2, -, -⟩ := hc.form
  subst hv1; subst hv2
  obtain ⟨n1, hn1⟩ : ∃ n, b.length = n := ⟨_, rfl⟩
  obtain ⟨n2, hn2⟩ : ∃ n, c.length = n := ⟨_, rfl⟩
  have HN1 := Lib.hid hn1; have HN2 := Lib.hid hn2
  rw [hn1] at hb ⊢
  rw [hn2] at hc ⊢
  have HB := Lib.hid hb; have HC := Lib.hid hc
  clear hb hc hn1 hn2
  go_enter Tryz.func27, Tryz.ntmps27
  go_wp2_with fail
  obtain ⟨S, hS0⟩ : ∃ S : World → Prop, S = fun w' => Keep noBlk w w' := ⟨_, rfl⟩
  have HSE := Lib.hid (show ∀ w', S w' → Keep noBlk w w' from fun w' h => by rw [hS0] at h; exact h)
  have HSI := Lib.hid (show ∀ w', Keep noBlk w w' → S w' from fun w' h => by rw [hS0]; exact h)
  have hS : S w.drew := by rw [hS0]; exact (Keep.refl _ _).drew
  clear hS0
  refine wp_region_held (S := S) (by kernel_rfl) ?_
  change wpAnyH _ _ _ _ _ _ _ _ w.drew
  generalize w.drew = w1 at hS ⊢
  refine tka 1 (.slice b1 n1 c1) rfl hS ?_
  simp only [Act.put, List.setIfInBounds_toArray, List.set_cons_zero, List.set_cons_succ, List.getElem_toArray, List.getElem_cons_succ, List.getElem_cons_zero]
  refine tka 2 (.slice b2 n2 c2) rfl hS ?_
  simp only [Act.put, List.setIfInBounds_toArray, List.set_cons_zero, List.set_cons_succ, List.getElem_toArray, List.getElem_cons_succ, List.getElem_cons_zero]
  refine wpAnyH_two (k := 0) (l := 3) rfl rfl (by kernel_rfl) ?_ ?_
  · refine wpList_make_one (by rfl) (.const (.int .i64 256)) (.const (.int .i64 256)) 51 rfl w.heap.size 5 (.int .u8 0) 1 Tryz.underlying51 infoU8 rfl 256 rfl rfl (by decide) (by unfold maxLen; omega) (HSE.out _ hS).size ?_
    intro w2 ho hk
    have HM5 := Lib.hid ho
    obtain ⟨x5, hx5⟩ : ∃ x, w1.heap.size = x := ⟨_, rfl⟩
    rw [hx5] at HM5 ⊢
    have HX5 := Lib.hid (show x5 < w2.heap.size from by obtain ⟨cur, hc⟩ := owns_block HM5.out (k := x5) rfl; exact lt_of_block hc)
    clear ho hx5
    have HKM5 := Lib.hid hk
    have hS1 := HSI.out _ ((HSE.out _ hS).trans hk)
    clear hS hk
    go_wp2_with fail
    refine ⟨hS1, ?_⟩
    refine wpAnyH_one (k := 3) rfl (by kernel_rfl) ?_
    refine wpList_make_one (by rfl) (.const (.int .i64 256)) (.const (.int .i64 256)) 51 rfl w.heap.size 5 (.int .u8 0) 1 Tryz.underlying51 infoU8 rfl 256 rfl rfl (by decide) (by unfold maxLen; omega) (HSE.out _ hS1).size ?_
    intro w3 ho hk
    have HM8 := Lib.hid ho
    obtain ⟨x8, hx8⟩ : ∃ x, w2.heap.size = x := ⟨_, rfl⟩
    rw [hx8] at HM8 ⊢
    have HX8 := Lib.hid (show x8 < w3.heap.size from by obtain ⟨cur, hc⟩ := owns_block HM8.out (k := x8) rfl; exact lt_of_block hc)
    clear ho hx8
    have HKM8 := Lib.hid hk
    have hS2 := HSI.out _ ((HSE.out _ hS1).trans hk)
    clear hS1 hk
    go_wp2_with fail
    refine ⟨hS2, ?_⟩
    have HM5 := Lib.hid (HKM8.out.owns HM5.out fun _ _ => id)
    refine wpAnyH_one (k := 4) rfl (by kernel_rfl) ?_
    go_wp2_with fail
    have HRW := Lib.hid (heap_alloc_new w3 (.cells #[.slice (some ⟨x5, 0, none⟩) 256 256, .slice b1 n1 c1, .slice b2 n2 c2, .slice (some ⟨x8, 0, none⟩) 256 256] 51))
    have hk : Keep noBlk w3 (w3.alloc (.cells #[.slice (some ⟨x5, 0, none⟩) 256 256, .slice b1 n1 c1, .slice b2 n2 c2, .slice (some ⟨x8, 0, none⟩) 256 256] 51)) := (Keep.refl _ _).alloc _
    obtain ⟨x9, hx9⟩ : ∃ x, w3.heap.size = x := ⟨_, rfl⟩
    rw [hx9] at HRW ⊢
    clear hx9
    generalize w3.alloc (.cells #[.slice (some ⟨x5, 0, none⟩) 256 256, .slice b1 n1 c1, .slice b2 n2 c2, .slice (some ⟨x8, 0, none⟩) 256 256] 51) = w4 at *
    have HKN := Lib.hid hk
    have hS3 := HSI.out _ ((HSE.out _ hS2).trans hk)
    clear hS2 hk
    refine ⟨hS3, ?_⟩
    refine tka 5 (.slice (some ⟨x9, 0, none⟩) 4 4) rfl hS3 ?_
    simp only [Act.put, List.setIfInBounds_toArray, List.set_cons_zero, List.set_cons_succ, List.getElem_toArray, List.getElem_cons_succ, List.getElem_cons_zero]
    refine wpAnyH_done (by kernel_rfl) ?_ _
    have HKR := Lib.hid (HSE.out _ hS3)
    clear hS3 HSE HSI
    go_wp2_with fail
    go_ret
    refine ⟨_, rfl, four_rows HRW.out (HKN.out.owns HM5.out fun _ _ => id) (HKN.out.owns HM8.out fun _ _ => id) (by rw [HN1.out]; exact HB.out.keep HKR.out fun _ _ => id) (by rw [HN2.out]; exact HC.out.keep HKR.out fun _ _ => id), HKR.out⟩
  · refine wpList_make_one (by rfl) (.const (.int .i64 256)) (.const (.int .i64 256)) 51 rfl w.heap.size 5 (.int .u8 0) 1 Tryz.underlying51 infoU8 rfl 256 rfl rfl (by decide) (by unfold maxLen; omega) (HSE.out _ hS).size ?_
    intro w2 ho hk
    have HM8 := Lib.hid ho
    obtain ⟨x8, hx8⟩ : ∃ x, w1.heap.size = x := ⟨_, rfl⟩
    rw [hx8] at HM8 ⊢
    have HX8 := Lib.hid (show x8 < w2.heap.size from by obtain ⟨cur, hc⟩ := owns_block HM8.out (k := x8) rfl; exact lt_of_block hc)
    clear ho hx8
    have HKM8 := Lib.hid hk
    have hS1 := HSI.out _ ((HSE.out _ hS).trans hk)
    clear hS hk
    go_wp2_with fail
    refine ⟨hS1, ?_⟩
    refine wpAnyH_one (k := 0) rfl (by kernel_rfl) ?_
    refine wpList_make_one (by rfl) (.const (.int .i64 256)) (.const (.int .i64 256)) 51 rfl w.heap.size 5 (.int .u8 0) 1 Tryz.underlying51 infoU8 rfl 256 rfl rfl (by decide) (by unfold maxLen; omega) (HSE.out _ hS1).size ?_
    intro w3 ho hk
    have HM5 := Lib.hid ho
    obtain ⟨x5, hx5⟩ : ∃ x, w2.heap.size = x := ⟨_, rfl⟩
    rw [hx5] at HM5 ⊢
    have HX5 := Lib.hid (show x5 < w3.heap.size from by obtain ⟨cur, hc⟩ := owns_block HM5.out (k := x5) rfl; exact lt_of_block hc)
    clear ho hx5
    have HKM5 := Lib.hid hk
    have hS2 := HSI.out _ ((HSE.out _ hS1).trans hk)
    clear hS1 hk
    go_wp2_with fail
    refine ⟨hS2, ?_⟩
    have HM8 := Lib.hid (HKM5.out.owns HM8.out fun _ _ => id)
    refine wpAnyH_one (k := 4) rfl (by kernel_rfl) ?_
    go_wp2_with fail
    have HRW := Lib.hid (heap_alloc_new w3 (.cells #[.slice (some ⟨x5, 0, none⟩) 256 256, .slice b1 n1 c1, .slice b2 n2 c2, .slice (some ⟨x8, 0, none⟩) 256 256] 51))
    have hk : Keep noBlk w3 (w3.alloc (.cells #[.slice (some ⟨x5, 0, none⟩) 256 256, .slice b1 n1 c1, .slice b2 n2 c2, .slice (some ⟨x8, 0, none⟩) 256 256] 51)) := (Keep.refl _ _).alloc _
    obtain ⟨x9, hx9⟩ : ∃ x, w3.heap.size = x := ⟨_, rfl⟩
    rw [hx9] at HRW ⊢
    clear hx9
    generalize w3.alloc (.cells #[.slice (some ⟨x5, 0, none⟩) 256 256, .slice b1 n1 c1, .slice b2 n2 c2, .slice (some ⟨x8, 0, none⟩) 256 256] 51) = w4 at *
    have HKN := Lib.hid hk
    have hS3 := HSI.out _ ((HSE.out _ hS2).trans hk)
    clear hS2 hk
    refine ⟨hS3, ?_⟩
    refine tka 5 (.slice (some ⟨x9, 0, none⟩) 4 4) rfl hS3 ?_
    simp only [Act.put, List.setIfInBounds_toArray, List.set_cons_zero, List.set_cons_succ, List.getElem_toArray, List.getElem_cons_succ, List.getElem_cons_zero]
    refine wpAnyH_done (by kernel_rfl) ?_ _
    have HKR := Lib.hid (HSE.out _ hS3)
    clear hS3 HSE HSI
    go_wp2_with fail
    go_ret
    refine ⟨_, rfl, four_rows HRW.out (HKN.out.owns HM5.out fun _ _ => id) (HKN.out.owns HM8.out fun _ _ => id) (by rw [HN1.out]; exact HB.out.keep HKR.out fun _ _ => id) (by rw [HN2.out]; exact HC.out.keep HKR.out fun _ _ => id), HKR.out⟩

end Go.Proofs.YtaiicjhnhbkgmaaGreatDoor
