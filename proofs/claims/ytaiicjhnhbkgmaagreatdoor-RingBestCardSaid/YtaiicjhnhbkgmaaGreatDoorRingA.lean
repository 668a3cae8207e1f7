/-
  Slots; rows of bytes (lent, kept); two rows of uberblocks alike.
  Conditions: at most 8 lists of at most 600 bytes; at most 4096 uberblocks.
-/
import Derived.Test.YtaiicjhnhbkgmaaGreatDoorPtrC
import Derived.Test.YtaiicjhnhbkgmaaGreatDoorUbsL
import Derived.Test.YtaiicjhnhbkgmaaGreatDoorLent
import Derived.Test.YtaiicjhnhbkgmaaGreatDoorOneU
import Derived.Test.YtaiicjhnhbkgmaaGreatDoorPtrH
namespace Go.Proofs.YtaiicjhnhbkgmaaGreatDoor
open Go.RowKit Go.Maps Go.ChangeMaps
set_option maxRecDepth 100000
set_option linter.unusedVariables false

def slotB (t : Int) : Bool := decide (1 ≤ t) && decide (t ≤ 2147483648)
def slotN (t : Int) : Int := if slotB t = true then 1 + t % 4 else 0
def SlotPost (w : World) (t : Int) (e : Ending) (w' : World) : Prop := e = .returned (.tuple #[.int .i64 (slotN t), .bool (slotB t)]) ∧ Keep noBlk w w'

theorem slot_any (w : World) (t : Int) (h1 : -9223372036854775808 ≤ t) (h2 : t ≤ 9223372036854775807) : Calls Tryz.prog 23 #[.int .i64 t] w (SlotPost w t) := by
  unfold SlotPost
  by_cases ha : t < 1
  · have e1 : slotB t = false := by unfold slotB; rw [decide_eq_false (by omega)]; rfl
    rw [show slotN t = 0 by unfold slotN; rw [e1]; rfl, e1]
    clear e1
    go_enter Tryz.func23, Tryz.ntmps23
    go_wp2_with fail
    go_ret2
    exact ⟨rfl, Keep.refl _ _⟩
  · by_cases hb : 2147483648 < t
    · have e1 : slotB t = false := by unfold slotB; rw [decide_eq_false (p := t ≤ 2147483648) (by omega)]; simp
      rw [show slotN t = 0 by unfold slotN; rw [e1]; rfl, e1]
      clear e1
      have ha1 : decide (t < 1) = false := decide_eq_false ha
      go_enter Tryz.func23, Tryz.ntmps23
      go_wp2_with fail
      go_ret2
      exact ⟨rfl, Keep.refl _ _⟩
    · have e1 : slotB t = true := by unfold slotB; rw [decide_eq_true (by omega), decide_eq_true (by omega)]; rfl
      rw [show slotN t = 1 + t % 4 by unfold slotN; rw [e1]; rfl, e1]
      clear e1
      have ha1 : decide (t < 1) = false := decide_eq_false ha
      have hb1 : decide (2147483648 < t) = false := decide_eq_false hb
      have hm : t.tmod 4 = t % 4 := Int.tmod_eq_emod_of_nonneg (by omega)
      have hw1 : wrap64 (1 + t % 4) = 1 + t % 4 := by unfold wrap64; omega
      have hw2 : wrap64 (t % 4) = t % 4 := by unfold wrap64; omega
      have HM := Lib.hid hm; have H1 := Lib.hid hw1; have H2 := Lib.hid hw2
      clear hm hw1 hw2
      go_enter Tryz.func23, Tryz.ntmps23
      go_wp2_with fail
      go_ret2
      refine ⟨?_, Keep.refl _ _⟩
      first | rfl | (rw [HM.out, H1.out]; rfl) | (rw [HM.out, H2.out, H1.out]; rfl)

theorem rslot_any (w : World) (t : Int) (h1 : -9223372036854775808 ≤ t) (h2 : t ≤ 9223372036854775807) : Calls Tryz.prog 24 #[.int .i64 t] w (SlotPost w t) := by
  unfold SlotPost
  by_cases ha : t < 1
  · have e1 : slotB t = false := by unfold slotB; rw [decide_eq_false (by omega)]; rfl
    rw [show slotN t = 0 by unfold slotN; rw [e1]; rfl, e1]
    clear e1
    go_enter Tryz.func24, Tryz.ntmps24
    go_wp2_with fail
    go_ret2
    exact ⟨rfl, Keep.refl _ _⟩
  · by_cases hb : 2147483648 < t
    · have e1 : slotB t = false := by unfold slotB; rw [decide_eq_false (p := t ≤ 2147483648) (by omega)]; simp
      rw [show slotN t = 0 by unfold slotN; rw [e1]; rfl, e1]
      clear e1
      have ha1 : decide (t < 1) = false := decide_eq_false ha
      go_enter Tryz.func24, Tryz.ntmps24
      go_wp2_with fail
      go_ret2
      exact ⟨rfl, Keep.refl _ _⟩
    · have e1 : slotB t = true := by unfold slotB; rw [decide_eq_true (by omega), decide_eq_true (by omega)]; rfl
      rw [show slotN t = 1 + t % 4 by unfold slotN; rw [e1]; rfl, e1]
      clear e1
      have ha1 : decide (t < 1) = false := decide_eq_false ha
      have hb1 : decide (2147483648 < t) = false := decide_eq_false hb
      have hm : t.tmod 4 = t % 4 := Int.tmod_eq_emod_of_nonneg (by omega)
      have hw1 : wrap64 (1 + t % 4) = 1 + t % 4 := by unfold wrap64; omega
      have hw2 : wrap64 (t % 4) = t % 4 := by unfold wrap64; omega
      have HM := Lib.hid hm; have H1 := Lib.hid hw1; have H2 := Lib.hid hw2
      clear hm hw1 hw2
      go_enter Tryz.func24, Tryz.ntmps24
      go_wp2_with fail
      go_ret2
      refine ⟨?_, Keep.refl _ _⟩
      first | rfl | (rw [HM.out, H1.out]; rfl) | (rw [HM.out, H2.out, H1.out]; rfl)

/-! ### Rows of bytes -/
structure RowsB (w : World) (v : Value) (hs : List (List UInt8)) : Prop where
  rows : ∃ vs : List Value, Rd w 1 v hs.length vs ∧ ∀ (i : Nat) (L : List UInt8), hs[i]? = some L → ∃ u, vs[i]? = some u ∧ Rd w 1 u L.length (L.map vb)
theorem RowsB.keep {w w' : World} {v : Value} {hs : List (List UInt8)} (h : RowsB w v hs) (k : Keep noBlk w w') : RowsB w' v hs := by
  obtain ⟨vs, h1, h2⟩ := h.rows
  refine ⟨vs, h1.keep k fun _ _ => id, fun i L hi => ?_⟩
  obtain ⟨u, h3, h4⟩ := h2 i L hi
  exact ⟨u, h3, h4.keep k fun _ _ => id⟩
theorem RowsB.at {w : World} {v : Value} {hs : List (List UInt8)} (h : RowsB w v hs) {i : Nat} {L : List UInt8} (hi : hs[i]? = some L) :
    ∃ g o cap a c, v = .slice (some ⟨g, o, none⟩) hs.length cap ∧ w.cell? ⟨g, o + i, none⟩ = some (.slice a L.length c) ∧ Rd w 1 (.slice a L.length c) L.length (L.map vb) := by
  obtain ⟨vs, h1, h2⟩ := h.rows
  obtain ⟨u, h3, h4⟩ := h2 i L hi
  obtain ⟨a, c, rfl, -, -⟩ := h4.form
  obtain ⟨h0, b, cap, rfl, -, -, -, h5⟩ := h1
  obtain ⟨g, o, rfl, hc⟩ := h5 (by have := (List.getElem?_eq_some_iff.1 h3).1; omega)
  exact ⟨g, o, cap, a, c, rfl, hc i _ h3, h4⟩
theorem RowsB.form {w : World} {v : Value} {hs : List (List UInt8)} (h : RowsB w v hs) : ∃ a c, v = .slice a hs.length c ∧ hs.length ≤ maxLen := by
  obtain ⟨vs, h1, h2⟩ := h.rows
  obtain ⟨_, a, c, rfl, h3, h4, -⟩ := h1
  exact ⟨a, c, rfl, by omega⟩
def lentV (e : Nat × List UInt8) : Value := .slice (some ⟨e.1, 0, none⟩) e.2.length (e.2.length + 3)
/-- A row of lent lists. -/
structure LentR (w : World) (v : Value) (es : List (Nat × List UInt8)) : Prop where
  rd : Rd w 1 v es.length (es.map lentV)
  lent : ∀ e ∈ es, IsLent w e.1 e.2 ∧ e.2.length ≤ 65536
theorem LentR.keep {w w' : World} {v : Value} {es : List (Nat × List UInt8)} (h : LentR w v es) (k : Keep noBlk w w') : LentR w' v es :=
  ⟨h.rd.keep k fun _ _ => id, fun e he => ⟨(h.lent e he).1.keep k id, (h.lent e he).2⟩⟩
theorem LentR.far {S : Nat → Prop} {w0 w w' : World} {v : Value} {es : List (Nat × List UInt8)} (h0 : LentR w0 v es) (h : LentR w v es) (k : Keep S w w') (hS : ∀ i, i < w0.heap.size → ¬ S i) : LentR w' v es := by
  refine ⟨?_, fun e he => ⟨(h.lent e he).1.keep k (hS _ (lt_of_block (h0.lent e he).1)), (h.lent e he).2⟩⟩
  obtain ⟨h1, a, cap, rfl, h2, h3, h4, h5⟩ := h.rd
  refine ⟨h1, a, cap, rfl, h2, h3, h4, fun hp => ?_⟩
  obtain ⟨g, o, rfl, hc⟩ := h5 hp
  obtain ⟨g', hg, hlt⟩ := h0.rd.lt hp
  obtain rfl : g = g' := by cases hg; rfl
  exact ⟨g, o, rfl, fun i u hu => k.cell (hc i u hu) (hS g hlt)⟩
theorem LentR.rows {w : World} {v : Value} {es : List (Nat × List UInt8)} (h : LentR w v es) : RowsB w v (es.map (·.2)) := by
  refine ⟨es.map lentV, by rw [List.length_map]; exact h.rd, fun i L hi => ?_⟩
  rw [List.getElem?_map] at hi
  obtain ⟨e, he, rfl⟩ := Option.map_eq_some_iff.1 hi
  have hl := h.lent e (List.mem_of_getElem? he)
  exact ⟨lentV e, by rw [List.getElem?_map, he]; rfl, hl.1.rd hl.2⟩
theorem IsLent.other {w : World} {g : Nat} {b : List UInt8} (h : IsLent w g b) {B s n : Nat} {v : Value} {ys : List Value} (ho : w.ownsRow B 51 s v n ys) : ¬ v.ownBlock = some g := by
  intro hv
  rcases ho.2 with ⟨rfl, -⟩ | ⟨g', cap', cur', rfl, -, hg', -⟩
  · cases hv
  · cases hv
    rw [h] at hg'
    cases hg'
theorem infoLB : (Tryz.prog.info? 51).map (fun i => (i.zero, i.size, i.bytes)) = some (some (.slice none 0 0), 1, 24) := by kernel_rfl
def LentLPost (w : World) (hs : List (List UInt8)) (e : Ending) (w' : World) : Prop := ∃ v es, e = .returned v ∧ LentR w' v es ∧ es.map (·.2) = hs ∧ Keep noBlk w w'

set_option maxHeartbeats 16000000 in
theorem lentLists_any (w : World) (v : Value) (hs : List (List UInt8)) (hr : RowsB w v hs) (h8 : hs.length ≤ 8) (h600 : ∀ L ∈ hs, L.length ≤ 600) : Calls Tryz.prog 18 #[v] w (LentLPost w hs) := by
  obtain ⟨oa, ca, rfl, hlm⟩ := hr.form
  obtain ⟨n, hn⟩ : ∃ n, hs.length = n := ⟨_, rfl⟩
  have HN := Lib.hid hn; have HR := Lib.hid hr; have H100 := Lib.hid h600
  rw [hn] at HR h8 ⊢
  clear hr hn hlm h600
  go_enter Tryz.func18, Tryz.ntmps18
  go_wp2_with fail
  go_loopw [3, 4] (fun t i wr => ∃ (k : Nat) (pa : Option Addr) (pc : Nat) (es : List (Nat × List UInt8)), k ≤ n ∧ t = .slice pa k pc ∧ i = .int .i64 k ∧ Hid (wr.ownsRow w.heap.size 51 1 (.slice pa k pc) k (es.map lentV)) ∧ Hid (es.map (·.2) = hs.take k) ∧ Hid (∀ e ∈ es, IsLent wr e.1 e.2 ∧ e.2.length ≤ 65536) ∧ Hid (Keep noBlk w wr)) (fun _ i _ => n - (intOf i).toNat)
  case atStart => exact ⟨0, none, 0, [], Nat.zero_le _, rfl, rfl, Lib.hid (World.ownsRow_nil _ _ _ _), Lib.hid rfl, Lib.hid (fun e he => by cases he), Lib.hid (Keep.refl _ _)⟩
  case round =>
  obtain ⟨k, pa, pc, es, hk, rfl, rfl, HO, HE, HT, HK⟩ := hrel
  by_cases hlt : k < n
  · have hki : (k : Int) < (n : Int) := by omega
    have hk0 : (0 : Int) ≤ (k : Int) := by omega
    obtain ⟨L, hL⟩ : ∃ L, hs[k]? = some L := ⟨hs[k]'(by rw [HN.out]; exact hlt), List.getElem?_eq_getElem _⟩
    have hrl := (HR.out.keep HK.out).at hL
    rw [HN.out] at hrl
    obtain ⟨gl, ol, capl, al, cl, hvl, hcl, hrdl⟩ := hrl
    have e1 : oa = some ⟨gl, ol, none⟩ := by cases hvl; rfl
    subst e1
    have hlL : L.length ≤ 600 := H100.out L (List.mem_of_getElem? hL)
    have HC := Lib.hid (lent_any wr _ L hrdl (by omega))
    obtain ⟨q, hq⟩ : ∃ q, L.length = q := ⟨_, rfl⟩
    have HQ := Lib.hid hq
    have HQL : Hid (q ≤ 65536) := Lib.hid (by omega)
    rw [hq] at hcl HC
    have HTK : Hid (hs.take (k + 1) = hs.take k ++ [L]) := Lib.hid (by rw [List.take_add_one, hL]; rfl)
    clear hvl hrdl hq hL hlL
    go_wp2_with fail
    refine HC.out.mono ?_
    rintro e w7 ⟨lg, rfl, hlent, hk7, -⟩
    rw [HQ.out]
    obtain ⟨w8, hw8, hk8, hb8, hs8⟩ := alloc_facts w7 #[(Value.slice (some ⟨lg, 0, none⟩) q (q + 3))] 51
    have HR8 : Hid (Rd w8 1 (.slice (some ⟨w7.heap.size, 0, none⟩) 1 1) 1 [(Value.slice (some ⟨lg, 0, none⟩) q (q + 3))]) := Lib.hid (rd_blk (n := 1) (size := 1) (vs := [(Value.slice (some ⟨lg, 0, none⟩) q (q + 3))]) hb8 rfl (by unfold maxLen; omega))
    have HO8 := Lib.hid (hk8.owns (hk7.owns HO.out fun _ _ => id) fun _ _ => id); have HK8 := Lib.hid ((HK.out.trans hk7).trans hk8)
    have hsz8 : w.heap.size ≤ w8.heap.size := HK8.out.size
    have HT8 : Hid (∀ e ∈ es ++ [(lg, L)], IsLent w8 e.1 e.2 ∧ e.2.length ≤ 65536) := Lib.hid (fun e he => by
      rcases List.mem_append.1 he with he | he
      · exact ⟨((HT.out e he).1.keep hk7 id).keep hk8 id, (HT.out e he).2⟩
      · obtain rfl : e = (lg, L) := by simpa using he
        exact ⟨hlent.keep hk8 id, by rw [HQ.out]; exact HQL.out⟩)
    have hone : ∀ u ∈ [(Value.slice (some ⟨lg, 0, none⟩) q (q + 3))], u.oneCell' = true := by simp [Value.oneCell']
    clear hk8 hb8 hs8 hk7 hlent HC hcl
    go_wp2_with (first
      | (at_builtin; try rw [hw8]
         refine wpList_append_rd rfl (.tmp 11) (.tmp 17) 41 rfl w.heap.size 51 (.slice none 0 0) 1 24 Tryz.underlying41 infoLB rfl (by decide) (.slice pa k pc) k (es.map lentV) rfl HO8.out (.slice (some ⟨w7.heap.size, 0, none⟩) 1 1) 1 [(Value.slice (some ⟨lg, 0, none⟩) q (q + 3))] rfl HR8.out hone (by unfold maxLen; omega) (by omega) hsz8 ?_
         intro v' w5 ho5 hk5 hn5 hb5
         obtain ⟨va, vc, rfl, -, -⟩ := (Rd.of_owns ho5).form
         have HO5 : Hid (w5.ownsRow w.heap.size 51 1 (.slice va (k + 1) vc) (k + 1) ((es ++ [(lg, L)]).map lentV)) := Lib.hid (by rw [List.map_append]; show w5.ownsRow _ _ _ _ _ (es.map lentV ++ [Value.slice (some ⟨lg, 0, none⟩) L.length (L.length + 3)]); rw [HQ.out]; exact ho5)
         have HT5 : Hid (∀ e ∈ es ++ [(lg, L)], IsLent w5 e.1 e.2 ∧ e.2.length ≤ 65536) := Lib.hid (fun e he => ⟨(HT8.out e he).1.keep hk5 ((HT8.out e he).1.other HO8.out), (HT8.out e he).2⟩)
         have HK5 := Lib.hid (HK8.out.trans' hk5 (U := noBlk) (fun _ _ h => h) (fun i hi e => by have := owns_base HO8.out e; omega))
         clear ho5 hk5 hn5 hb5 hw8))
    go_roundw
    case rel => exact ⟨k + 1, va, vc, es ++ [(lg, L)], by omega, rfl, by go_num, HO5, Lib.hid (by rw [HTK.out, List.map_append, HE.out]; rfl), HT5, HK5⟩
    case measure => simp [intOf]; omega
  · obtain rfl : k = n := by omega
    have hw : LentLPost w hs (.returned (.slice pa k pc)) wr := by
      have h := HE.out
      rw [List.take_of_length_le (by rw [HN.out]; exact Nat.le_refl _)] at h
      have hl2 : es.length = k := by have := congrArg List.length h; rw [List.length_map] at this; rw [this, HN.out]
      exact ⟨_, es, rfl, ⟨by rw [hl2]; exact Rd.of_owns HO.out, HT.out⟩, h, HK.out⟩
    have HW := Lib.hid hw
    clear hw
    go_wp2_with fail
    go_ret
    exact HW.out
set_option maxHeartbeats 16000000 in
theorem keptLists_any (w : World) (v v2 : Value) (hs : List (List UInt8)) (es : List (Nat × List UInt8)) (hr : LentR w v es) (he : es.map (·.2) = hs) (hr2 : RowsB w v2 hs) (h8 : hs.length ≤ 8) : Calls Tryz.prog 25 #[v, v2] w (TherePost w true) := by
  obtain ⟨oa, ca, rfl, -, -⟩ := hr.rd.form
  obtain ⟨ob, cb, rfl, -⟩ := hr2.form
  obtain ⟨n, hn⟩ : ∃ n, hs.length = n := ⟨_, rfl⟩
  have hn2 : es.length = n := by rw [← hn, ← he, List.length_map]
  have HN := Lib.hid hn; have HR := Lib.hid hr; have HRB := Lib.hid hr2; have HE := Lib.hid he; have HN2 := Lib.hid hn2
  rw [hn] at HRB h8 ⊢
  rw [hn2] at HR ⊢
  clear hr hr2 hn he hn2
  go_enter Tryz.func25, Tryz.ntmps25
  go_wp2_with fail
  go_loopw [5] (fun i wr => ∃ k : Nat, k ≤ n ∧ i = .int .i64 k ∧ Hid (Keep noBlk w wr)) (fun i _ => n - (intOf i).toNat)
  case atStart => exact ⟨0, Nat.zero_le _, rfl, Lib.hid (Keep.refl _ _)⟩
  case round =>
  obtain ⟨k, hk, rfl, HK⟩ := hrel
  by_cases hlt : k < n
  · have hki : (k : Int) < (n : Int) := by omega
    have hk0 : (0 : Int) ≤ (k : Int) := by omega
    obtain ⟨⟨lg, L⟩, hL⟩ : ∃ L, es[k]? = some L := ⟨es[k]'(by rw [HN2.out]; exact hlt), List.getElem?_eq_getElem _⟩
    have hL2 : hs[k]? = some L := by rw [← HE.out, List.getElem?_map, hL]; rfl
    obtain ⟨ga, pa, hoa, hca⟩ : ∃ g o, oa = some ⟨g, o, none⟩ ∧ wr.cell? ⟨g, o + k, none⟩ = some (lentV (lg, L)) := by
      obtain ⟨h1, a, cap, h0, h2, h3, h4, h5⟩ := (HR.out.keep HK.out).rd
      obtain ⟨g, o, rfl, hc⟩ := h5 (by rw [List.length_map, HN2.out]; omega)
      cases h0
      exact ⟨g, o, rfl, hc k _ (by rw [List.getElem?_map, hL]; rfl)⟩
    subst hoa
    have hrl := (HRB.out.keep HK.out).at hL2
    rw [HN.out] at hrl
    obtain ⟨gb, pb, capb, lb, cb', hvl, hcb, hrdb⟩ := hrl
    have e1 : ob = some ⟨gb, pb, none⟩ := by cases hvl; rfl
    subst e1
    have hLe := (HR.out.keep HK.out).lent _ (List.mem_of_getElem? hL)
    obtain ⟨hLent, hLm⟩ := hLe
    have hLent : IsLent wr lg L := hLent
    have hLm : L.length ≤ 65536 := hLm
    have hca : wr.cell? ⟨ga, pa + k, none⟩ = some (.slice (some ⟨lg, 0, none⟩) L.length (L.length + 3)) := hca
    clear hvl hL hL2
    have HRDb := Lib.hid hrdb; have HLE := Lib.hid hLent
    obtain ⟨q, hq⟩ : ∃ q, L.length = q := ⟨_, rfl⟩
    rw [hq] at hca hcb HRDb hLm
    have HQ := Lib.hid hq
    clear hrdb hq hLent
    go_wp2_with fail
    obtain ⟨S, hS0⟩ : ∃ S : World → Prop, S = fun w' => Keep noBlk wr w' := ⟨_, rfl⟩
    have HSE := Lib.hid (show ∀ w', S w' → Keep noBlk wr w' from fun w' h => by rw [hS0] at h; exact h)
    have HSI := Lib.hid (show ∀ w', Keep noBlk wr w' → S w' from fun w' h => by rw [hS0]; exact h)
    have hS : S wr.drew := by rw [hS0]; exact (Keep.refl _ _).drew
    clear hS0
    refine wp_region_held (S := S) (by kernel_rfl) ?_
    change wpAnyH _ _ _ _ _ _ _ _ wr.drew
    generalize wr.drew = wv at hS ⊢
    refine tka 0 (.slice (some ⟨ga, pa, none⟩) n ca) rfl hS ?_
    simp only [Act.put, List.setIfInBounds_toArray, List.set_cons_zero, List.set_cons_succ, List.getElem_toArray, List.getElem_cons_zero]
    refine tka 1 (.int .i64 (k : Int)) rfl hS ?_
    simp only [Act.put, List.setIfInBounds_toArray, List.set_cons_zero, List.set_cons_succ, List.getElem_toArray, List.getElem_cons_succ, List.getElem_cons_zero]
    refine tkb 2 (.pointer (some ⟨ga, pa + k, none⟩)) rfl hS ?_
    simp only [Act.put, List.setIfInBounds_toArray, List.set_cons_zero, List.set_cons_succ, List.getElem_toArray, List.getElem_cons_succ, List.getElem_cons_zero]
    refine tkd 3 (.slice (some ⟨lg, 0, none⟩) q (q + 3)) rfl (.inl ⟨by rfl, fun w' hw' => by have c := (HSE.out w' hw').cell hca id; go_simp⟩) hS ?_
    simp only [Act.put, List.setIfInBounds_toArray, List.set_cons_zero, List.set_cons_succ, List.getElem_toArray, List.getElem_cons_succ, List.getElem_cons_zero]
    refine tka 4 (.slice (some ⟨gb, pb, none⟩) n cb) rfl hS ?_
    simp only [Act.put, List.setIfInBounds_toArray, List.set_cons_zero, List.set_cons_succ, List.getElem_toArray, List.getElem_cons_succ, List.getElem_cons_zero]
    refine tka 5 (.int .i64 (k : Int)) rfl hS ?_
    simp only [Act.put, List.setIfInBounds_toArray, List.set_cons_zero, List.set_cons_succ, List.getElem_toArray, List.getElem_cons_succ, List.getElem_cons_zero]
    refine tkb 6 (.pointer (some ⟨gb, pb + k, none⟩)) rfl hS ?_
    simp only [Act.put, List.setIfInBounds_toArray, List.set_cons_zero, List.set_cons_succ, List.getElem_toArray, List.getElem_cons_succ, List.getElem_cons_zero]
    refine tkd 7 (.slice lb q cb') rfl (.inl ⟨by rfl, fun w' hw' => by have c := (HSE.out w' hw').cell hcb id; go_simp⟩) hS ?_
    simp only [Act.put, List.setIfInBounds_toArray, List.set_cons_zero, List.set_cons_succ, List.getElem_toArray, List.getElem_cons_succ, List.getElem_cons_zero]
    refine wpAnyH_one (k := 8) rfl (by kernel_rfl) ?_
    have C := kept_any wv _ L (by rw [HQ.out]; exact HRDb.out.keep (HSE.out _ hS) fun _ _ => id) (by rw [HQ.out]; exact hLm) lg (HLE.out.keep (HSE.out _ hS) id)
    rw [HQ.out] at C
    go_wp2_with fail
    refine C.mono ?_
    clear C
    rintro e ww ⟨rfl, hk⟩
    have hS1 := HSI.out _ ((HSE.out _ hS).trans hk)
    clear hS hk
    go_wp2_with fail
    refine ⟨hS1, ?_⟩
    refine tkb 9 (.bool false) rfl hS1 ?_
    simp only [Act.put, List.setIfInBounds_toArray, List.set_cons_zero, List.set_cons_succ, List.getElem_toArray, List.getElem_cons_succ, List.getElem_cons_zero]
    refine wpAnyH_done (by kernel_rfl) ?_ _
    have HKR := Lib.hid (HSE.out _ hS1)
    clear hS1 HSE HSI
    have HK := Lib.hid (HK.out.trans HKR.out)
    have HRDb := Lib.hid (HRDb.out.keep HKR.out fun _ _ => id)
    have HLE := Lib.hid (HLE.out.keep HKR.out id)
    clear HKR hca hcb
    go_wp2_with fail
    go_roundw
    case rel => exact ⟨k + 1, by omega, by go_num, HK⟩
    case measure => simp [intOf]; omega
  · obtain rfl : k = n := by omega
    go_wp2_with fail
    go_ret
    exact ⟨rfl, HK.out⟩

theorem eqB_reflR (u : Ub) : u.eqB u = true := by unfold Ub.eqB Pt.eqB; simp
set_option maxHeartbeats 16000000 in
theorem sameUbs_any (w : World) (v v2 : Value) (ps qs : List (Value × Ub)) (hr : Rd w 69 v ps.length (ubRow ps)) (hr2 : Rd w 69 v2 qs.length (ubRow qs)) (hV : UbsV w ps) (hV2 : UbsV w qs) (he : ps.map (·.2) = qs.map (·.2)) (hl : ps.length ≤ 4096) : Calls Tryz.prog 14 #[v, v2] w (TherePost w true) := by
  obtain ⟨oa, ca, rfl, -, -⟩ := hr.form
  obtain ⟨ob, cb, rfl, -, -⟩ := hr2.form
  obtain ⟨n, hn⟩ : ∃ n, ps.length = n := ⟨_, rfl⟩
  have hn2 : qs.length = n := by have := congrArg List.length he; simp only [List.length_map] at this; omega
  have HN := Lib.hid hn; have HN2 := Lib.hid hn2; have HR := Lib.hid hr; have HRB := Lib.hid hr2; have HV := Lib.hid hV; have HV2 := Lib.hid hV2; have HE := Lib.hid he
  have HL := Lib.hid hV.lens; have HL2 := Lib.hid hV2.lens
  rw [hn] at hl ⊢
  rw [hn2]
  clear hr hr2 hn hn2 hV hV2 he
  go_enter Tryz.func14, Tryz.ntmps14
  go_wp2_with fail
  go_loopw [5] (fun i wr => ∃ k : Nat, k ≤ n ∧ i = .int .i64 k ∧ Hid (Keep noBlk w wr)) (fun i _ => n - (intOf i).toNat)
  case atStart => exact ⟨0, Nat.zero_le _, rfl, Lib.hid (Keep.refl _ _)⟩
  case round =>
  obtain ⟨k, hk, rfl, HK⟩ := hrel
  by_cases hlt : k < n
  · have hki : (k : Int) < (n : Int) := by omega
    have hk0 : (0 : Int) ≤ (k : Int) := by omega
    obtain ⟨⟨pv, pu⟩, hp⟩ : ∃ p, ps[k]? = some p := ⟨ps[k]'(by rw [HN.out]; exact hlt), List.getElem?_eq_getElem _⟩
    obtain ⟨⟨qv, qu⟩, hq⟩ : ∃ p, qs[k]? = some p := ⟨qs[k]'(by rw [HN2.out]; exact hlt), List.getElem?_eq_getElem _⟩
    obtain rfl : pu = qu := by
      have h1 : (ps.map (·.2))[k]? = some pu := by rw [List.getElem?_map, hp]; rfl
      have h2 : (qs.map (·.2))[k]? = some qu := by rw [List.getElem?_map, hq]; rfl
      rw [HE.out, h2] at h1
      exact (Option.some.inj h1).symm
    obtain ⟨ga, pa, capa, hva, hata⟩ := rd_ub HL.out (HR.out.keep HK.out fun _ _ => id) hp
    have e1 : oa = some ⟨ga, pa, none⟩ := by cases hva; rfl
    subst e1
    obtain ⟨gb, pb, capb, hvb, hatb⟩ := rd_ub HL2.out (HRB.out.keep HK.out fun _ _ => id) hq
    have e1 : ob = some ⟨gb, pb, none⟩ := by cases hvb; rfl
    subst e1
    have hpv := (HV.out.keep HK.out) _ (List.mem_of_getElem? hp)
    have hqv := (HV2.out.keep HK.out) _ (List.mem_of_getElem? hq)
    have hlx := ubCs_len (v := pv) hpv.root.sum hpv.pool
    have hly := ubCs_len (v := qv) hpv.root.sum hpv.pool
    have hpv : UbV wr pv pu := hpv
    have hqv : UbV wr qv pu := hqv
    clear hva hvb hp hq
    obtain ⟨lx, hlx_⟩ : ∃ x, ubCs pv pu = x := ⟨_, rfl⟩
    obtain ⟨ly, hly_⟩ : ∃ x, ubCs qv pu = x := ⟨_, rfl⟩
    have hata : wr.rangeAt ga (pa + k * 69) lx := by rw [← hlx_]; exact hata
    have hatb : wr.rangeAt gb (pb + k * 69) ly := by rw [← hly_]; exact hatb
    rw [hlx_] at hlx; rw [hly_] at hly
    have HATA := Lib.hid hata; have HATB := Lib.hid hatb
    have HPV := Lib.hid hpv; have HQV := Lib.hid hqv; have HX := Lib.hid hlx_; have HY := Lib.hid hly_
    clear hata hatb hpv hqv hlx_ hly_
    go_wp2_with fail
    obtain ⟨S, hS0⟩ : ∃ S : World → Prop, S = fun w' => Keep noBlk wr w' := ⟨_, rfl⟩
    have HSE := Lib.hid (show ∀ w', S w' → Keep noBlk wr w' from fun w' h => by rw [hS0] at h; exact h)
    have HSI := Lib.hid (show ∀ w', Keep noBlk wr w' → S w' from fun w' h => by rw [hS0]; exact h)
    have hS : S wr.drew := by rw [hS0]; exact (Keep.refl _ _).drew
    clear hS0
    refine wp_region_held (S := S) (by kernel_rfl) ?_
    change wpAnyH _ _ _ _ _ _ _ _ wr.drew
    generalize wr.drew = wv at hS ⊢
    refine tka 0 (.slice (some ⟨ga, pa, none⟩) n ca) rfl hS ?_
    simp only [Act.put, List.setIfInBounds_toArray, List.set_cons_zero, List.set_cons_succ, List.getElem_toArray, List.getElem_cons_zero]
    refine tka 1 (.int .i64 (k : Int)) rfl hS ?_
    simp only [Act.put, List.setIfInBounds_toArray, List.set_cons_zero, List.set_cons_succ, List.getElem_toArray, List.getElem_cons_succ, List.getElem_cons_zero]
    refine tkb 2 (.pointer (some ⟨ga, pa + k * 69, none⟩)) rfl hS ?_
    simp only [Act.put, List.setIfInBounds_toArray, List.set_cons_zero, List.set_cons_succ, List.getElem_toArray, List.getElem_cons_succ, List.getElem_cons_zero]
    refine tkd 3 (.agg (lx).toArray) rfl (yieldsIf_load_mid (by rfl) 36 (.tmp 19) rfl (ga) (pa + k * 69) rfl (lx) _ (fun w' h => (HSE.out w' h).rangeAt HATA.out) ubUnder rfl (by first | exact sizeUbL hlu | exact sizeUbL hlv | exact sizeUbL hlx | exact sizeUbL hly)) hS ?_
    simp only [Act.put, List.setIfInBounds_toArray, List.set_cons_zero, List.set_cons_succ, List.getElem_toArray, List.getElem_cons_succ, List.getElem_cons_zero]
    refine tka 4 (.slice (some ⟨gb, pb, none⟩) n cb) rfl hS ?_
    simp only [Act.put, List.setIfInBounds_toArray, List.set_cons_zero, List.set_cons_succ, List.getElem_toArray, List.getElem_cons_succ, List.getElem_cons_zero]
    refine tka 5 (.int .i64 (k : Int)) rfl hS ?_
    simp only [Act.put, List.setIfInBounds_toArray, List.set_cons_zero, List.set_cons_succ, List.getElem_toArray, List.getElem_cons_succ, List.getElem_cons_zero]
    refine tkb 6 (.pointer (some ⟨gb, pb + k * 69, none⟩)) rfl hS ?_
    simp only [Act.put, List.setIfInBounds_toArray, List.set_cons_zero, List.set_cons_succ, List.getElem_toArray, List.getElem_cons_succ, List.getElem_cons_zero]
    refine tkd 7 (.agg (ly).toArray) rfl (yieldsIf_load_mid (by rfl) 36 (.tmp 23) rfl (gb) (pb + k * 69) rfl (ly) _ (fun w' h => (HSE.out w' h).rangeAt HATB.out) ubUnder rfl (by first | exact sizeUbL hlu | exact sizeUbL hlv | exact sizeUbL hlx | exact sizeUbL hly)) hS ?_
    simp only [Act.put, List.setIfInBounds_toArray, List.set_cons_zero, List.set_cons_succ, List.getElem_toArray, List.getElem_cons_succ, List.getElem_cons_zero]
    refine wpAnyH_one (k := 8) rfl (by kernel_rfl) ?_
    have C := kitU_any wv pv qv pu pu (HPV.out.keep (HSE.out _ hS) fun _ _ => id) (HQV.out.keep (HSE.out _ hS) fun _ _ => id)
    rw [eqB_reflR, HX.out, HY.out] at C
    go_wp2_with fail
    refine C.mono ?_
    clear C
    rintro e ww ⟨rfl, hk⟩
    have hS1 := HSI.out _ ((HSE.out _ hS).trans hk)
    clear hS hk
    go_wp2_with fail
    refine ⟨hS1, ?_⟩
    refine tkb 9 (.bool false) rfl hS1 ?_
    simp only [Act.put, List.setIfInBounds_toArray, List.set_cons_zero, List.set_cons_succ, List.getElem_toArray, List.getElem_cons_succ, List.getElem_cons_zero]
    refine wpAnyH_done (by kernel_rfl) ?_ _
    have HKR := Lib.hid (HSE.out _ hS1)
    clear hS1 HSE HSI
    have HK := Lib.hid (HK.out.trans HKR.out)
    have HPV := Lib.hid (HPV.out.keep HKR.out fun _ _ => id)
    have HQV := Lib.hid (HQV.out.keep HKR.out fun _ _ => id)
    clear HKR
    go_wp2_with fail
    go_roundw
    case rel => exact ⟨k + 1, by omega, by go_num, HK⟩
    case measure => simp [intOf]; omega
  · obtain rfl : k = n := by omega
    go_wp2_with fail
    go_ret
    exact ⟨rfl, HK.out⟩

end Go.Proofs.YtaiicjhnhbkgmaaGreatDoor

/-
  How many slots are in use.
  Conditions: lists of at most 600 bytes.
-/
namespace Go.Proofs.YtaiicjhnhbkgmaaGreatDoor
open Go.RowKit Go.Maps Go.ChangeMaps
set_option maxRecDepth 100000
set_option linter.unusedVariables false

/-! ### In use -/
def usedB (b : List UInt8) : Bool := b.any fun x => x != 0
def usedN (l : List (List UInt8)) : Nat := (l.filter usedB).length
theorem usedN_snoc (l : List (List UInt8)) (b : List UInt8) : usedN (l ++ [b]) = usedN l + if usedB b = true then 1 else 0 := by
  unfold usedN
  rw [List.filter_append, List.length_append]
  by_cases h : usedB b = true
  · rw [if_pos h, List.filter_cons_of_pos h]; rfl
  · rw [if_neg h, List.filter_cons_of_neg h]; rfl
theorem usedN_le (l : List (List UInt8)) : usedN l ≤ l.length := List.length_filter_le _ _
theorem usedB_snoc (l : List UInt8) (x : UInt8) : usedB (l ++ [x]) = (usedB l || (x != 0)) := by unfold usedB; rw [List.any_append]; simp
theorem byte_ne (x : UInt8) : ((x.toNat : Int) == 0) = !(x != 0) := by
  by_cases h : x = 0
  · subst h; rfl
  · have h1 : x.toNat ≠ 0 := fun e => h (UInt8.toNat_inj.1 (by simpa using e))
    have h2 : (x != 0) = true := by simpa using h
    rw [h2]
    simp
    omega
theorem used1_any (w : World) (n : Int) (b : Bool) (hb : (n == 0) = !b) : Calls Tryz.prog 47 #[.int .u8 n] w (TherePost w b) := by
  cases b
  · have h0 : n = 0 := by simpa using hb
    subst h0
    go_enter Tryz.func47, Tryz.ntmps47
    go_wp2_with fail
    go_ret
    exact ⟨rfl, Keep.refl _ _⟩
  · have hb : (n == 0) = false := hb
    go_enter Tryz.func47, Tryz.ntmps47
    go_wp2_with fail
    go_ret
    exact ⟨by show Ending.returned (Value.bool (!(n == 0))) = _; rw [hb]; rfl, Keep.refl _ _⟩
def IndexPost (w : World) (b : List UInt8) (e : Ending) (w' : World) : Prop := ∃ j : Int, e = .returned (.int .i64 j) ∧ (if usedB b = true then 0 ≤ j else j = -1) ∧ -1 ≤ j ∧ j ≤ 65536 ∧ Keep noBlk w w'
set_option maxHeartbeats 4000000 in
theorem index_any (w : World) (v : Value) (b : List UInt8) (hr : Rd w 1 v b.length (b.map vb)) (hl : b.length ≤ 65536) : Calls Tryz.prog 80 #[v, .func (.func 47) #[] #[]] w (IndexPost w b) := by
  obtain ⟨oa, ca, rfl, -, -⟩ := hr.form
  obtain ⟨n, hn⟩ : ∃ n, b.length = n := ⟨_, rfl⟩
  have HN := Lib.hid hn; have HR := Lib.hid hr
  rw [hn] at HR hl ⊢
  clear hr hn
  go_enter Tryz.func80, Tryz.ntmps80
  go_wp2_with fail
  go_loopw [8] (fun i wr => ∃ k : Nat, k ≤ n ∧ i = .int .i64 k ∧ Hid (usedB (b.take k) = false) ∧ Hid (Keep noBlk w wr)) (fun i _ => n - (intOf i).toNat)
  case atStart => exact ⟨0, Nat.zero_le _, rfl, Lib.hid rfl, Lib.hid (Keep.refl _ _)⟩
  case round =>
  obtain ⟨k, hk, rfl, HZ, HK⟩ := hrel
  by_cases hlt : k < n
  · have hki : (k : Int) < (n : Int) := by omega
    have hk0 : (0 : Int) ≤ (k : Int) := by omega
    obtain ⟨x, hx⟩ : ∃ x, b[k]? = some x := ⟨b[k]'(by rw [HN.out]; exact hlt), List.getElem?_eq_getElem _⟩
    obtain ⟨g, o, cap, hv, hc⟩ := rd_byte (HR.out.keep HK.out fun _ _ => id) HN.out hx
    have e1 : oa = some ⟨g, o, none⟩ := by cases hv; rfl
    subst e1
    have HTK : Hid (b.take (k + 1) = b.take k ++ [x]) := Lib.hid (by rw [List.take_add_one, hx]; rfl)
    have HX := Lib.hid hx
    clear hv hx
    go_wp2_with fail
    refine (used1_any _ _ (x != 0) (byte_ne x)).mono ?_
    rintro e w2 ⟨rfl, hk2⟩
    have HK2 := Lib.hid (HK.out.trans hk2)
    clear hk2 hc
    by_cases h0 : x = 0
    · subst h0
      go_wp2_with fail
      go_roundw
      case rel => exact ⟨k + 1, by omega, by go_num, Lib.hid (by rw [HTK.out, usedB_snoc, HZ.out]; rfl), HK2⟩
      case measure => simp [intOf]; omega
    · have h1 : (x != 0) = true := by simpa using h0
      have hu : usedB b = true := by
        unfold usedB
        rw [List.any_eq_true]
        exact ⟨x, List.mem_of_getElem? HX.out, h1⟩
      have HP : Hid (IndexPost w b (.returned (.int .i64 (k : Int))) w2) := Lib.hid ⟨_, rfl, by rw [if_pos hu]; omega, by omega, by omega, HK2.out⟩
      rw [h1]
      clear hu
      go_wp2_with fail
      go_ret
      exact HP.out
  · obtain rfl : k = n := by omega
    have hu : usedB b = false := by
      have h := HZ.out
      rw [List.take_of_length_le (by rw [HN.out]; exact Nat.le_refl _)] at h
      exact h
    have HP : Hid (IndexPost w b (.returned (.int .i64 (-1))) wr) := Lib.hid ⟨_, rfl, by rw [if_neg (by rw [hu]; decide)], by omega, by omega, HK.out⟩
    clear hu
    go_wp2_with fail
    go_ret
    exact HP.out
theorem contains_any (w : World) (v : Value) (b : List UInt8) (hr : Rd w 1 v b.length (b.map vb)) (hl : b.length ≤ 65536) : Calls Tryz.prog 46 #[v, .func (.func 47) #[] #[]] w (TherePost w (usedB b)) := by
  have HC := Lib.hid (index_any w v b hr hl)
  obtain ⟨oa, ca, rfl, -, -⟩ := hr.form
  clear hr
  obtain ⟨n, hn⟩ : ∃ n, b.length = n := ⟨_, rfl⟩
  rw [hn] at HC ⊢
  clear hn hl
  go_enter Tryz.func46, Tryz.ntmps46
  go_wp2_with fail
  refine HC.out.mono ?_
  rintro e w2 ⟨j, rfl, hj, hj1, hj2, hk⟩
  have HK := Lib.hid hk
  clear hk
  cases hu : usedB b
  · rw [hu] at hj
    rw [if_neg Bool.false_ne_true] at hj
    subst hj
    go_wp2_with fail
    go_ret
    exact ⟨by rw [hu]; rfl, HK.out⟩
  · rw [hu, if_pos rfl] at hj
    go_wp2_with fail
    go_ret
    exact ⟨by rw [hu]; rfl, HK.out⟩
def UsedPost (w : World) (hs : List (List UInt8)) (e : Ending) (w' : World) : Prop := e = .returned (.tuple #[.int .i64 (if hs.length = 4 then (usedN hs : Int) else 0), .int .i64 (if hs.length = 4 then 0 else 2)]) ∧ Keep noBlk w w'
set_option maxHeartbeats 16000000 in
theorem used_any (w : World) (v : Value) (hs : List (List UInt8)) (hr : RowsB w v hs) (h600 : ∀ L ∈ hs, L.length ≤ 600) : Calls Tryz.prog 21 #[v] w (UsedPost w hs) := by
  obtain ⟨oa, ca, rfl, hlm⟩ := hr.form
  obtain ⟨n, hn⟩ : ∃ n, hs.length = n := ⟨_, rfl⟩
  have HN := Lib.hid hn; have HR := Lib.hid hr; have H6 := Lib.hid h600
  unfold maxLen at hlm
  rw [hn] at HR hlm ⊢
  clear hr hn h600
  by_cases h4 : n = 4
  · subst h4
    have HP : Hid (∀ w', Keep noBlk w w' → UsedPost w hs (.returned (.tuple #[.int .i64 (usedN hs : Int), .int .i64 0])) w') := Lib.hid (fun w' k => ⟨by rw [if_pos HN.out, if_pos HN.out], k⟩)
    go_enter Tryz.func21, Tryz.ntmps21
    go_wp2_with fail
    go_loopw [4, 12] (fun m i wr => ∃ k j : Nat, k ≤ 4 ∧ m = .int .i64 j ∧ i = .int .i64 k ∧ j ≤ k ∧ Hid (usedN (hs.take k) = j) ∧ Hid (Keep noBlk w wr)) (fun _ i _ => 4 - (intOf i).toNat)
    case atStart => exact ⟨0, 0, Nat.zero_le _, rfl, rfl, Nat.le_refl _, Lib.hid rfl, Lib.hid (Keep.refl _ _)⟩
    case round =>
    obtain ⟨k, j, hk, rfl, rfl, hjk, HJ, HK⟩ := hrel
    by_cases hlt : k < 4
    · have hki : (k : Int) < 4 := by omega
      have hk0 : (0 : Int) ≤ (k : Int) := by omega
      obtain ⟨L, hL⟩ : ∃ L, hs[k]? = some L := ⟨hs[k]'(by rw [HN.out]; exact hlt), List.getElem?_eq_getElem _⟩
      have HTK : Hid (hs.take (k + 1) = hs.take k ++ [L]) := Lib.hid (by rw [List.take_add_one, hL]; rfl)
      have hl6 := H6.out L (List.mem_of_getElem? hL)
      have hrl := (HR.out.keep HK.out).at hL
      rw [HN.out] at hrl
      obtain ⟨gl, ol, capl, al, cl, hvl, hcl, hrdl⟩ := hrl
      have e1 : oa = some ⟨gl, ol, none⟩ := by cases hvl; rfl
      subst e1
      have HRD := Lib.hid hrdl
      obtain ⟨q, hq⟩ : ∃ q, L.length = q := ⟨_, rfl⟩
      rw [hq] at hcl HRD hl6
      have HQ := Lib.hid hq
      clear hvl hL hrdl hq
      go_wp2_with fail
      have C : Calls Tryz.prog 46 #[.slice al q cl, .func (.func 47) #[] #[]] wr (TherePost wr (usedB L)) := contains_any wr _ L (by rw [HQ.out]; exact HRD.out) (by rw [HQ.out]; omega)
      refine C.mono ?_
      clear C
      rintro e w2 ⟨rfl, hk2⟩
      have HK2 := Lib.hid (HK.out.trans hk2)
      clear hk2 hcl
      cases hu : usedB L
      · go_wp2_with fail
        go_roundw
        case rel => exact ⟨k + 1, j, by omega, rfl, by go_num, by omega, Lib.hid (by rw [HTK.out, usedN_snoc, HJ.out, hu]; rfl), HK2⟩
        case measure => simp [intOf]; omega
      · go_wp2_with fail
        go_roundw
        case rel => exact ⟨k + 1, j + 1, by omega, by go_num, by go_num, by omega, Lib.hid (by rw [HTK.out, usedN_snoc, HJ.out, hu]; rfl), HK2⟩
        case measure => simp [intOf]; omega
    · obtain rfl : k = 4 := by omega
      have hj : usedN hs = j := by
        have h := HJ.out
        rw [List.take_of_length_le (by rw [HN.out]; exact Nat.le_refl _)] at h
        exact h
      have HP := Lib.hid (HP.out wr HK.out)
      rw [hj] at HP
      clear hj
      go_wp2_with fail
      go_ret2
      exact HP.out
  · have HP : Hid (∀ w', Keep noBlk w w' → UsedPost w hs (.returned (.tuple #[.int .i64 0, .int .i64 2])) w') := Lib.hid (fun w' k => ⟨by rw [if_neg (by rw [HN.out]; exact h4), if_neg (by rw [HN.out]; exact h4)], k⟩)
    have hb : ((n : Int) == 4) = false := by simp; omega
    go_enter Tryz.func21, Tryz.ntmps21
    go_wp2_with fail
    go_ret2
    exact HP.out _ (Keep.refl _ _)
set_option maxHeartbeats 16000000 in
theorem rused_any (w : World) (v : Value) (hs : List (List UInt8)) (hr : RowsB w v hs) (h600 : ∀ L ∈ hs, L.length ≤ 600) : Calls Tryz.prog 22 #[v] w (UsedPost w hs) := by
  obtain ⟨oa, ca, rfl, hlm⟩ := hr.form
  obtain ⟨n, hn⟩ : ∃ n, hs.length = n := ⟨_, rfl⟩
  have HN := Lib.hid hn; have HR := Lib.hid hr; have H6 := Lib.hid h600
  unfold maxLen at hlm
  rw [hn] at HR hlm ⊢
  clear hr hn h600
  by_cases h4 : n = 4
  · subst h4
    have HP : Hid (∀ w', Keep noBlk w w' → UsedPost w hs (.returned (.tuple #[.int .i64 (usedN hs : Int), .int .i64 0])) w') := Lib.hid (fun w' k => ⟨by rw [if_pos HN.out, if_pos HN.out], k⟩)
    go_enter Tryz.func22, Tryz.ntmps22
    go_wp2_with fail
    go_loopw [4, 5] (fun m i wr => ∃ k j : Nat, k ≤ 4 ∧ m = .int .i64 j ∧ i = .int .i64 k ∧ j ≤ k ∧ Hid (usedN (hs.take k) = j) ∧ Hid (Keep noBlk w wr)) (fun _ i _ => 4 - (intOf i).toNat)
    case atStart => exact ⟨0, 0, Nat.zero_le _, rfl, rfl, Nat.le_refl _, Lib.hid rfl, Lib.hid (Keep.refl _ _)⟩
    case round =>
    obtain ⟨k, j, hk, rfl, rfl, hjk, HJ, HK⟩ := hrel
    by_cases hlt : k < 4
    · have hki : (k : Int) < 4 := by omega
      have hk0 : (0 : Int) ≤ (k : Int) := by omega
      obtain ⟨L, hL⟩ : ∃ L, hs[k]? = some L := ⟨hs[k]'(by rw [HN.out]; exact hlt), List.getElem?_eq_getElem _⟩
      have HTK : Hid (hs.take (k + 1) = hs.take k ++ [L]) := Lib.hid (by rw [List.take_add_one, hL]; rfl)
      have hl6 := H6.out L (List.mem_of_getElem? hL)
      have hrl := (HR.out.keep HK.out).at hL
      rw [HN.out] at hrl
      obtain ⟨gl, ol, capl, al, cl, hvl, hcl, hrdl⟩ := hrl
      have e1 : oa = some ⟨gl, ol, none⟩ := by cases hvl; rfl
      subst e1
      have HRD := Lib.hid hrdl
      obtain ⟨q, hq⟩ : ∃ q, L.length = q := ⟨_, rfl⟩
      rw [hq] at hcl HRD hl6
      have HQ := Lib.hid hq
      clear hvl hL hrdl hq
      go_wp2_with fail
      have HCL := Lib.hid hcl
      go_loopw [6, 7] (fun u i w2 => ∃ (k2 : Nat) (ub : Bool), k2 ≤ q ∧ u = .bool ub ∧ i = .int .i64 k2 ∧ Hid (usedB (L.take k2) = ub) ∧ Hid (Keep noBlk wr w2)) (fun _ i _ => q - (intOf i).toNat)
      case atStart => exact ⟨0, false, Nat.zero_le _, rfl, rfl, Lib.hid rfl, Lib.hid (Keep.refl _ _)⟩
      case round =>
      obtain ⟨k2, ub, hk2, rfl, rfl, HB, HK2⟩ := hrel
      have hcl := HK2.out.cell HCL.out id
      by_cases hlt2 : k2 < q
      · have hki2 : (k2 : Int) < (q : Int) := by omega
        have hk02 : (0 : Int) ≤ (k2 : Int) := by omega
        obtain ⟨x, hx⟩ : ∃ x, L[k2]? = some x := ⟨L[k2]'(by rw [HQ.out]; exact hlt2), List.getElem?_eq_getElem _⟩
        obtain ⟨g, o, cap, hv, hc⟩ := rd_byte (HRD.out.keep HK2.out fun _ _ => id) HQ.out hx
        have e1 : al = some ⟨g, o, none⟩ := by cases hv; rfl
        subst e1
        have HTL : Hid (L.take (k2 + 1) = L.take k2 ++ [x]) := Lib.hid (by rw [List.take_add_one, hx]; rfl)
        have hbx := byte_ne x
        clear hv hx
        cases ub
        · cases hxb : (x != 0)
          · rw [hxb] at hbx
            have hbx : ((x.toNat : Int) == 0) = true := hbx
            go_wp2_with fail
            go_roundw
            case rel => exact ⟨k2 + 1, false, by omega, (by show Value.bool (!((x.toNat : Int) == 0)) = _; rw [hbx]; rfl), by go_num, Lib.hid (by rw [HTL.out, usedB_snoc, HB.out, hxb]; rfl), HK2⟩
            case measure => simp [intOf]; omega
          · rw [hxb] at hbx
            have hbx : ((x.toNat : Int) == 0) = false := hbx
            go_wp2_with fail
            go_roundw
            case rel => exact ⟨k2 + 1, true, by omega, (by show Value.bool (!((x.toNat : Int) == 0)) = _; rw [hbx]; rfl), by go_num, Lib.hid (by rw [HTL.out, usedB_snoc, HB.out, hxb]; rfl), HK2⟩
            case measure => simp [intOf]; omega
        · clear hbx
          go_wp2_with fail
          go_roundw
          case rel => exact ⟨k2 + 1, true, by omega, rfl, by go_num, Lib.hid (by rw [HTL.out, usedB_snoc, HB.out]; rfl), HK2⟩
          case measure => simp [intOf]; omega
      · obtain rfl : k2 = q := by omega
        have hu0 : usedB L = ub := by
          have h := HB.out
          rw [List.take_of_length_le (by rw [HQ.out]; exact Nat.le_refl _)] at h
          exact h
        have HK3 := Lib.hid (HK.out.trans HK2.out)
        subst hu0
        clear HB hlt2
        cases hu : usedB L
        · go_wp2_with fail
          go_roundw
          case rel => exact ⟨k + 1, j, by omega, rfl, by go_num, by omega, Lib.hid (by rw [HTK.out, usedN_snoc, HJ.out, hu]; rfl), HK3⟩
          case measure => simp [intOf]; omega
        · go_wp2_with fail
          go_roundw
          case rel => exact ⟨k + 1, j + 1, by omega, by go_num, by go_num, by omega, Lib.hid (by rw [HTK.out, usedN_snoc, HJ.out, hu]; rfl), HK3⟩
          case measure => simp [intOf]; omega
    · obtain rfl : k = 4 := by omega
      have hj : usedN hs = j := by
        have h := HJ.out
        rw [List.take_of_length_le (by rw [HN.out]; exact Nat.le_refl _)] at h
        exact h
      have HP := Lib.hid (HP.out wr HK.out)
      rw [hj] at HP
      clear hj
      go_wp2_with fail
      go_ret2
      exact HP.out
  · have HP : Hid (∀ w', Keep noBlk w w' → UsedPost w hs (.returned (.tuple #[.int .i64 0, .int .i64 2])) w') := Lib.hid (fun w' k => ⟨by rw [if_neg (by rw [HN.out]; exact h4), if_neg (by rw [HN.out]; exact h4)], k⟩)
    have hb : ((n : Int) == 4) = false := by simp; omega
    go_enter Tryz.func22, Tryz.ntmps22
    go_wp2_with fail
    go_ret2
    exact HP.out _ (Keep.refl _ _)

end Go.Proofs.YtaiicjhnhbkgmaaGreatDoor
