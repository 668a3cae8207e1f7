/-
  The program's label.Pack.
  Conditions: the bounds on sizes that each theorem names.
-/
import Derived.Test.YtdlegbcdmlmbpaaPack1
import Derived.Test.YtdlegbcdmlmbpaaBase
import Derived.Test.YtdlegbcdmlmbpaaFit
import Derived.Outline
namespace Go.Proofs.Ytdlegbcdmlmbpaa
open Go.RowKit
set_option maxRecDepth 100000

/-- A label's sector, if it may be. -/
def packB (L : Lab) : List UInt8 := if L.may then labBody L ++ digest (labBody L) else []
def PackPost (w : World) (L : Lab) (e : Ending) (w' : World) : Prop :=
  ∃ v, e = .returned (.tuple #[v, .int .i64 (if L.may then 0 else 2)]) ∧ w'.ownsRow w.heap.size 5 1 v (packB L).length ((packB L).map vb) ∧ Keep noBlk w w'
def PackPostF (w : World) (L : Lab) (e : Ending) (w' : World) : Prop :=
  ∃ v, e = .returned (.tuple #[v, .int .i64 (if L.may then 0 else 2)]) ∧ w'.ownsRow w.heap.size 5 1 v (packB L).length ((packB L).map vb) ∧ Keep noBlk w w' ∧ Fit IsB w' v
theorem sizeLab : (Try.prog.info? 25).map (·.size) = some 37 := by kernel_rfl

/-- The eight closures. -/
def pkFs (b1 b5 : Nat) : Array Value := #[.func (.func 29) #[] #[.pointer (some ⟨b5, 0, none⟩)],
  .func (.func 31) #[] #[.pointer (some ⟨b5, 0, none⟩), .pointer (some ⟨b1, 0, none⟩)], .func (.func 32) #[] #[.pointer (some ⟨b5, 0, none⟩), .pointer (some ⟨b1, 0, none⟩)],
  .func (.func 34) #[] #[.pointer (some ⟨b5, 0, none⟩), .pointer (some ⟨b1, 0, none⟩)], .func (.func 35) #[] #[.pointer (some ⟨b5, 0, none⟩), .pointer (some ⟨b1, 0, none⟩)],
  .func (.func 36) #[] #[.pointer (some ⟨b5, 0, none⟩), .pointer (some ⟨b1, 0, none⟩)], .func (.func 37) #[] #[.pointer (some ⟨b5, 0, none⟩), .pointer (some ⟨b1, 0, none⟩)],
  .func (.func 38) #[] #[.pointer (some ⟨b5, 0, none⟩)]]
theorem pkFs_get (b1 b5 k : Nat) (hk : k < 8) : (pkFs b1 b5)[k]? = some (.func (.func (pkFn k)) #[] (pkCap b1 b5 k)) := by
  have h : k = 0 ∨ k = 1 ∨ k = 2 ∨ k = 3 ∨ k = 4 ∨ k = 5 ∨ k = 6 ∨ k = 7 := by omega
  rcases h with rfl | rfl | rfl | rfl | rfl | rfl | rfl | rfl <;> rfl

/-- What the rounds over the closures keep up. -/
structure PkR (w wr : World) (L : Lab) (b1 b5 b6 base p k : Nat) : Prop where
  pk : ∃ v, PkW wr L b1 b5 base p v (labS L k).1 (labS L k).2
  fs : wr.heap[b6]? = some (.cells (pkFs b1 b5) 1 (0, 0))
  keep : Keep noBlk w wr
  le : w.heap.size ≤ base

theorem PkR.next {w wr w2 : World} {L : Lab} {b1 b5 b6 base p k : Nat} {v : Value} (h : PkR w wr L b1 b5 b6 base p k) (hv : PkW wr L b1 b5 base p v (labS L k).1 (labS L k).2) {e : Ending}
    (hp : WPost wr base p v (labS L (k + 1)) e w2) : PkR w w2 L b1 b5 b6 base p (k + 1) := by
  obtain ⟨-, v', hw', hk, -⟩ := hp
  have hne : ∀ i cs t fr, wr.heap[i]? = some (.cells cs t fr) → t ≠ 5 → t ≠ 86 → ¬ (i = p ∨ v.ownBlock = some i) := by
    intro i cs t fr hi h1 h2 h3
    rcases h3 with rfl | h3
    · rw [hv.wr.blk] at hi; cases hi; exact h2 rfl
    · obtain ⟨cur, hc⟩ := owns_block hv.wr.own h3
      rw [hc] at hi; cases hi; exact h1 rfl
  refine ⟨⟨v', hv.pool, hk.blk hv.lab (hne _ _ _ _ hv.lab (by decide) (by decide)), hk.blk hv.q (hne _ _ _ _ hv.q (by decide) (by decide)), hw', labS_len L (k + 1)⟩,
    hk.blk h.fs (hne _ _ _ _ h.fs (by decide) (by decide)), ?_, h.le⟩
  refine h.keep.trans' hk (fun _ _ h => h) (fun i hi h3 => ?_)
  have := h.le
  rcases h3 with rfl | h3
  · have := hv.wr.le; omega
  · rcases hv.wr.own.2 with ⟨h1, -⟩ | ⟨g, cap, cur, h1, hb, -⟩
    · rw [h1] at h3; cases h3
    · rw [h1] at h3
      have : g = i := by simpa [Value.ownBlock] using h3
      omega

/-- Ahead of an append of a digest that lies in a variable. -/
theorem dig_app {w3 w4 w5 : World} {base n : Nat} {v3 : Value} {l ds : List Value} {o : Obj} (ho : w3.ownsRow base 5 1 v3 n l) (hk4 : Keep noBlk w3 w4)
    (hb5 : w5.heap[w4.heap.size]? = some (.cells (spl (Array.replicate 32 (.int .u8 0)) 0 ds) 23 (0, 0))) (hk5 : Keep (fun k => k = w4.heap.size) (w4.alloc o) w5) (hdl : ds.length = 32) :
    w5.ownsRow base 5 1 v3 n l ∧ Rd w5 1 (.slice (some ⟨w4.heap.size, 0, none⟩) 32 32) 32 ds ∧ Keep noBlk w3 w5 := by
  refine ⟨?_, ?_, (hk4.alloc o).trans' hk5 (fun _ _ h => h) (fun i hi e => by have := hk4.size; omega)⟩
  · refine hk5.owns ((hk4.alloc o).owns ho fun _ _ => id) (fun k hk e => ?_)
    obtain ⟨cur, hc⟩ := owns_block (hk4.owns ho fun _ _ => id) hk
    have := lt_of_block hc
    omega
  · refine ⟨by simpa using hdl, _, 32, rfl, Nat.le_refl _, by unfold maxLen; omega, (by intro h; cases h), fun _ => ⟨_, 0, rfl, fun i u hu => ?_⟩⟩
    rw [Nat.zero_add]
    refine blk_cell hb5 ?_
    rw [spl_whole _ _ (by simpa using hdl)]
    simpa using hu

set_option maxHeartbeats 1000000 in
theorem pack_no (L : Lab) (hl : L.pool.length = 32) (hm : L.may = false) (w : World) :
    Calls Try.prog 10 #[.agg L.cells.toArray] w (PackPostF w L) := by
  have C := Lib.hid (check_any L hl (w.alloc (.cells L.cells.toArray 25)))
  have HM := Lib.hid hm; clear hm
  obtain ⟨cs, hcs⟩ : ∃ cs, L.cells = cs := ⟨_, rfl⟩
  have hlen : cs.length = 37 := by rw [← hcs]; exact L.cells_length hl
  rw [hcs] at C ⊢
  have HCS := Lib.hid hcs; clear hcs
  go_enter Try.func10, Try.ntmps10
  go_wp2_with (first
    | ((with_reducible show wpList _ _ _ (⟨some 11, .load 25 (.tmp 1), _, _, _, _⟩ :: _) _ _); refine wpList_load_mid rfl 25 (.tmp 1) rfl w.heap.size 0 rfl cs _ (rangeAt_whole (heap_alloc_new _ _)) Try.underlying25 rfl (by rw [hlen]; exact sizeLab) ?_))
  refine C.out.mono ?_
  rintro e w1 ⟨rfl, rfl⟩
  rw [HM.out]
  go_wp2_with fail
  go_ret2
  refine ⟨_, by rw [HM.out]; rfl, ?_, (((Keep.refl _ _).alloc _).alloc _), Fit.nil _ _⟩
  rw [show packB L = [] by unfold packB; rw [HM.out]; rfl]
  exact World.ownsRow_nil _ _ _ _

set_option maxHeartbeats 4000000 in
theorem pack_yes (L : Lab) (hl : L.pool.length = 32) (hm : L.may = true) (w : World) :
    Calls Try.prog 10 #[.agg L.cells.toArray] w (PackPostF w L) := by
  have C := Lib.hid (check_any L hl (w.alloc (.cells L.cells.toArray 25)))
  have HM := Lib.hid hm; clear hm
  have hmf : ∀ (fn : Fn) (first cap : Array Value) (w : World), (Instr.makeFunc fn first cap).run Try.prog w = .ok (.func fn first cap) w := fun _ _ _ _ => rfl
  obtain ⟨cs, hcs⟩ : ∃ cs, L.cells = cs := ⟨_, rfl⟩
  have hlen : cs.length = 37 := by rw [← hcs]; exact L.cells_length hl
  rw [hcs] at C ⊢
  have HCS := Lib.hid hcs; clear hcs
  go_enter Try.func10, Try.ntmps10
  go_wp2_with (first
    | ((with_reducible show wpList _ _ _ (⟨some 11, .load 25 (.tmp 1), _, _, _, _⟩ :: _) _ _); refine wpList_load_mid rfl 25 (.tmp 1) rfl w.heap.size 0 rfl cs _ (rangeAt_whole (heap_alloc_new _ _)) Try.underlying25 rfl (by rw [hlen]; exact sizeLab) ?_))
  refine C.out.mono ?_
  rintro e w1 ⟨rfl, rfl⟩
  rw [HM.out]
  go_wp2_with fail
  refine (new_any _).mono ?_
  rintro e w1 ⟨p, rfl, hwr, hk1, hp⟩
  have hlab : w1.heap[w.heap.size]? = some (.cells cs.toArray 25 (0, 0)) := hk1.blk (heap_alloc2_old _ _ _) id
  have hkw : Keep noBlk w w1 := ((((Keep.refl noBlk w).alloc _).alloc _)).trans hk1
  have hbase : w.heap.size + 2 = ((w.alloc (.cells cs.toArray 25)).alloc (.cells cs.toArray 25)).heap.size := by simp
  rw [← hbase] at hwr hp
  have HWR := Lib.hid hwr; have HK1 := Lib.hid hk1; have HLAB := Lib.hid hlab; have HKW := Lib.hid hkw
  clear hwr hk1 hlab hbase hkw
  go_wp2_with fail
  have R0 : Hid (PkR w ((w1.alloc (.cells #[.pointer (some ⟨p, 0, none⟩)] 51)).alloc (.cells (pkFs w.heap.size w1.heap.size) 1)) L w.heap.size w1.heap.size (w1.heap.size + 1) (w.heap.size + 2) p 0) := by
    have K : Keep noBlk w1 ((w1.alloc (.cells #[.pointer (some ⟨p, 0, none⟩)] 51)).alloc (.cells (pkFs w.heap.size w1.heap.size) 1)) := ((Keep.refl _ _).alloc _).alloc _
    refine Lib.hid ⟨⟨.slice none 0 0, hl, ?_, heap_alloc2_old _ _ _, HWR.out.keep K id (fun _ _ => id), by simp [labS]⟩, heap_alloc2_new _ _ _, HKW.out.trans K, by omega⟩
    rw [HCS.out]
    exact K.blk HLAB.out id
  go_loopw [27] (fun i wr => ∃ k : Nat, k ≤ 8 ∧ i = .int .i64 k ∧ Hid (PkR w wr L w.heap.size w1.heap.size (w1.heap.size + 1) (w.heap.size + 2) p k)) (fun i _ => 8 - (intOf i).toNat)
  case atStart => exact ⟨0, by omega, rfl, R0⟩
  case round =>
    clear R0 HWR HK1 HLAB HKW C
    obtain ⟨k, hk, rfl, hR⟩ := hrel
    by_cases hk8 : k < 8
    · obtain ⟨v, hv⟩ := hR.out.pk
      have HV := Lib.hid hv; clear hv
      have hc0 := blk_cell hR.out.fs (pkFs_get w.heap.size w1.heap.size k hk8)
      have hcall := pkCall w.heap.size w1.heap.size k hk8
      have hk0 : (0 : Int) ≤ (k : Int) := by omega
      have hk1 : (k : Int) < 8 := by omega
      go_wp2_with fail
      refine (pk_any k hk8 wr L _ _ _ p v HV.out).mono ?_
      rintro e w2 h1
      have hR2 := Lib.hid (hR.out.next HV.out h1)
      obtain ⟨rfl, -⟩ := h1.end
      clear hcall hc0
      go_wp2_with fail
      go_roundw
      case rel => exact ⟨k + 1, by omega, by go_num, hR2⟩
      case measure => simp [intOf]; omega
    · obtain rfl : k = 8 := by omega
      obtain ⟨v, hv⟩ := hR.out.pk
      rw [labS_ok L hl HM.out] at hv
      have hcq := blk_cell (i := 0) (v := .pointer (some ⟨p, 0, none⟩)) hv.q rfl
      have HKW := Lib.hid hR.out.keep
      have HV := Lib.hid hv; clear hv hR
      have hbl := labBody_length L hl
      have HBL := Lib.hid hbl; clear hbl
      go_wp2_with fail
      refine (out_fit p wr _ v _ 0 HV.out.wr HV.out.len).mono ?_
      rintro e w3 ⟨v3, rfl, hown, hk3, hft3⟩
      rw [if_pos rfl] at hown
      have hrd := Rd.of_owns hown
      obtain ⟨a3, c3, rfl, -, -⟩ := hrd.form
      have HO := Lib.hid hown; have HR := Lib.hid hrd; have HF3 := Lib.hid hft3
      have HK3 := Lib.hid (HKW.out.trans hk3)
      have hk3s := hk3.size
      have hle : w.heap.size ≤ wr.heap.size := HKW.out.size
      clear hown hrd hk3 hft3 HV hcq
      go_wp2_with fail
      refine (sum_any _ (labBody L) w3 HR.out (by rw [HBL.out]; omega)).mono ?_
      rintro e w4 ⟨rfl, hk4⟩
      obtain ⟨ds, hds⟩ : ∃ ds, (digest (labBody L)).map vb = ds := ⟨_, rfl⟩
      have hdl : ds.length = 32 := by rw [← hds]; simp [digest_length]
      have hdo : ∀ u ∈ ds, u.oneCell' = true := by rw [← hds]; exact oneCell_vb _
      rw [hds]
      have HDS := Lib.hid hds; have HK4 := Lib.hid hk4
      clear hds hk4
      go_wp2_with (first
        | (refine wpList_alloc_at rfl 23 rfl zero32 zeroID (Array.replicate 32 (.int .u8 0)) rfl ?_)
        | ((with_reducible show wpList _ _ _ (⟨none, .store 23 (.tmp 10) (.tmp 43), _, _, _, _⟩ :: _) _ _); refine wpList_store_agg rfl 23 (.tmp 10) (.tmp 43) rfl w4.heap.size 0 ds rfl rfl _ _ (heap_alloc_new _ _) (by rw [hdl]; simp) (by rw [hdl]; exact sizeID) hdo ?_; intro w5 hb5 hk5; have HAP := Lib.hid (dig_app HO.out HK4.out hb5 hk5 hdl); have hsz : wr.heap.size ≤ w5.heap.size := Nat.le_trans hk3s HAP.out.2.2.size; clear hb5 hk5)
        | (at_builtin; refine wpList_append_rdf rfl (.tmp 44) (.tmp 45) 26 rfl wr.heap.size 5 _ 1 1 Try.underlying26 infoU8 rfl (by omega) (.slice a3 (labBody L).length c3) (labBody L).length _ rfl HAP.out.1 (.slice (some ⟨w4.heap.size, 0, none⟩) 32 32) 32 ds rfl HAP.out.2.1 hdo (by unfold maxLen; have := HBL.out; omega) (by have := HBL.out; omega) hsz IsB isB_zero (by rw [← HDS.out]; exact isB_map _) (HF3.out.keep HAP.out.2.2 (fun g hg => ⟨by obtain ⟨cur, hc⟩ := owns_block HO.out hg; exact lt_of_block hc, id⟩)) ?_; intro v6 w6 hown6 hk6 hnil hat hft; obtain ⟨a6, c6, rfl, -, -⟩ := (Rd.of_owns hown6).form; have HO6 := Lib.hid hown6; have HK6 := Lib.hid hk6; have HF6 := Lib.hid hft; clear hown6 hk6 hnil hat hft))
      go_ret2
      refine ⟨_, by rw [HM.out]; rfl, ?_, ?_, by simpa using HF6.out⟩
      · have h1 : (packB L).length = (labBody L).length + 32 := by unfold packB; rw [HM.out]; simp [digest_length]
        have h2 : (packB L).map vb = (labBody L).map vb ++ ds := by unfold packB; rw [HM.out, ← HDS.out]; simp
        rw [h1, h2]
        exact ownsRow_mono HO6.out hle
      · exact (HK3.out.trans HAP.out.2.2).trans' HK6.out (fun _ _ h => h) (fun i hi e => by have := owns_ge HO.out e; omega)
theorem pack_fit (L : Lab) (hl : L.pool.length = 32) (w : World) : Calls Try.prog 10 #[.agg L.cells.toArray] w (PackPostF w L) := by
  rcases hm : L.may with _ | _
  · exact pack_no L hl hm w
  · exact pack_yes L hl hm w
theorem pack_any (L : Lab) (hl : L.pool.length = 32) (w : World) : Calls Try.prog 10 #[.agg L.cells.toArray] w (PackPost w L) :=
  (pack_fit L hl w).mono fun _ _ ⟨v, h1, h2, h3, _⟩ => ⟨v, h1, h2, h3⟩
end Go.Proofs.Ytdlegbcdmlmbpaa
