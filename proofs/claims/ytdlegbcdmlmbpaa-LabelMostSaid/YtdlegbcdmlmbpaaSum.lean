/-
  The digest: the program's Sum.
  Conditions: the bounds on sizes that each theorem names.
-/
import Derived.Test.YtdlegbcdmlmbpaaFill
namespace Go.Proofs.Ytdlegbcdmlmbpaa
open Go.RowKit
set_option maxRecDepth 100000

def startS : St := ⟨1779033703, 3144134277, 1013904242, 2773480762, 1359893119, 2600822924, 528734635, 1541459225⟩
theorem startS_l : startS.l = startL := rfl
/-- The state behind so many pieces. -/
def sumS (bs : List UInt8) : Nat → St
  | 0 => startS
  | k + 1 => turn (byt (piece bs k)) (sumS bs k)
/-- The j-th byte of a state. -/
def dgB (s : St) (j : Nat) : UInt8 := UInt8.ofNat (s.at (j / 4) / 2 ^ (24 - 8 * (j % 4)) % 256).toNat
theorem vb_dgB (s : St) (j : Nat) : vb (dgB s j) = .int .u8 (s.at (j / 4) / 2 ^ (24 - 8 * (j % 4)) % 256) := by
  unfold vb dgB
  have h1 := Int.emod_nonneg (s.at (j / 4) / 2 ^ (24 - 8 * (j % 4))) (show (256 : Int) ≠ 0 by omega)
  have h2 := Int.emod_lt_of_pos (s.at (j / 4) / 2 ^ (24 - 8 * (j % 4))) (show (0 : Int) < 256 by omega)
  generalize s.at (j / 4) / 2 ^ (24 - 8 * (j % 4)) % 256 = y at *
  obtain ⟨n, rfl⟩ := Int.eq_ofNat_of_zero_le h1
  have : n < 256 := by omega
  simp
  omega
/-- The digest. -/
def digest (bs : List UInt8) : List UInt8 := (List.range 32).map (dgB (sumS bs (many bs.length)))
theorem digest_length (bs : List UInt8) : (digest bs).length = 32 := by simp [digest]
def dgCells (s : St) (n : Nat) : List Value := (List.range 32).map fun j => if j < n then vb (dgB s j) else .int .u8 0
theorem dgCells_length (s : St) (n : Nat) : (dgCells s n).length = 32 := by simp [dgCells]
theorem dgCells_step (s : St) (n : Nat) : (dgCells s n).set n (vb (dgB s n)) = dgCells s (n + 1) := by
  apply List.ext_getElem
  · simp [dgCells]
  · intro i h1 h2
    simp only [List.getElem_set, dgCells, List.getElem_map, List.getElem_range]
    by_cases e : n = i
    · subst e; simp
    · rw [if_neg e]
      by_cases h : i < n
      · rw [if_pos h, if_pos (by omega)]
      · rw [if_neg h, if_neg (by omega)]
theorem dgCells_zero (s : St) : dgCells s 0 = List.replicate 32 (.int .u8 0) := rfl
theorem dgCells_all (bs : List UInt8) : dgCells (sumS bs (many bs.length)) 32 = (digest bs).map vb := by
  apply List.ext_getElem
  · simp [dgCells, digest]
  · intro i h1 h2
    have : i < 32 := by simpa [dgCells] using h1
    simp [dgCells, digest, this]
theorem oneCell_dg (s : St) (n : Nat) : ∀ u ∈ dgCells s n, u.oneCell' = true := by
  intro u hu
  obtain ⟨j, _, rfl⟩ := List.mem_map.1 hu
  split <;> rfl
theorem dgCells_get (s : St) (n : Nat) {j : Nat} (hj : j < 32) : ∃ u, (dgCells s n)[j]? = some u := ⟨_, by simp [dgCells, hj]; rfl⟩

def SumPost (w : World) (bs : List UInt8) (e : Ending) (w' : World) : Prop := e = .returned (.agg ((digest bs).map vb).toArray) ∧ Keep noBlk w w'

def zero32 : Value := .agg (Array.replicate 32 (.int .u8 0))
theorem zeroID (w : World) : (zeroValue 23).run Try.prog w = .ok zero32 w := by kernel_rfl
theorem sizeID : (Try.prog.info? 23).map (·.size) = some 32 := by kernel_rfl

/-- What the rounds over the pieces keep up. -/
structure SR (T : TypeId) (w wr : World) (bs : List UInt8) (v : Value) (ps : List Value) (base b3 k : Nat) : Prop where
  st : wr.heap[b3]? = some (.cells ((sumS bs k).l.map vW).toArray T (0, 0))
  res : wr.heap[w.heap.size]? = some (.cells (Array.replicate 32 (.int .u8 0)) 23 (0, 0))
  own : wr.ownsRow base 26 1 v (many bs.length) ps
  pcs : PcsAre wr base bs (List.range (many bs.length)) ps
  keep : Keep noBlk w wr
  lt : w.heap.size < b3
  typ : T ≠ 5 ∧ T ≠ 26 ∧ T ≠ 23

theorem SR.same {T : TypeId} {w wr w2 : World} {bs : List UInt8} {v : Value} {ps : List Value} {base b3 k : Nat} (h : SR T w wr bs v ps base b3 k) (hk : Keep noBlk wr w2) : SR T w w2 bs v ps base b3 k :=
  ⟨hk.blk h.st id, hk.blk h.res id, hk.owns h.own fun _ _ => id, h.pcs.keep hk fun _ _ _ => id, h.keep.trans hk, h.lt, h.typ⟩
theorem SR.turn {T : TypeId} {w wr w2 w3 : World} {bs : List UInt8} {v : Value} {ps : List Value} {base b3 k : Nat} (h : SR T w wr bs v ps base b3 k) (hk : Keep noBlk wr w2)
    (hst : w3.heap[b3]? = some (.cells (spl ((sumS bs k).l.map vW).toArray 0 ((turn (byt (piece bs k)) (sumS bs k)).l.map vW)) T (0, 0))) (hk3 : Keep (fun i => i = b3) w2 w3) : Hid (SR T w w3 bs v ps base b3 (k + 1)) := by
  have h2 := h.same hk
  have lt := h.lt
  refine Lib.hid ⟨?_, hk3.blk h2.res (by omega), hk3.owns h2.own (fun i hi e => ?_), h2.pcs.keep hk3 (fun i cur hc e => ?_), h2.keep.trans' hk3 (fun _ _ h => h) (fun i hi e => by omega), h.lt, h.typ⟩
  · rw [spl_whole _ _ (by simp [St.l])] at hst; exact hst
  · subst e
    obtain ⟨cur, hc⟩ := owns_block h2.own hi
    rw [h2.st] at hc
    cases hc
    exact h.typ.2.1 rfl
  · subst e
    rw [h2.st] at hc
    cases hc
    exact h.typ.1 rfl

/-- The k-th piece. -/
theorem SR.piece {T : TypeId} {w wr : World} {bs : List UInt8} {v : Value} {ps : List Value} {base b3 k : Nat} (h : SR T w wr bs v ps base b3 k) (hk : k < many bs.length) :
    ∃ ap cp g cap, v = .slice (some ⟨g, 0, none⟩) (many bs.length) cap ∧ wr.cell? ⟨g, k, none⟩ = some (.slice ap 64 cp) ∧ Rd wr 1 (.slice ap 64 cp) 64 ((piece bs k).map vb) := by
  have hl : ps.length = many bs.length := by rw [h.pcs.1]; simp
  obtain ⟨p, hp⟩ : ∃ p, ps[k]? = some p := ⟨ps[k], by simp [hl, hk]⟩
  obtain ⟨x, hx, ho⟩ := h.pcs.2 k p hp
  have : x = k := by rw [List.getElem?_range hk] at hx; exact (Option.some.inj hx).symm
  subst this
  rw [Nat.mod_eq_of_lt hk] at ho
  obtain ⟨ap, cp, rfl, -, -⟩ := (Rd.of_owns ho).form
  rcases h.own.2 with ⟨-, h0⟩ | ⟨g, cap, cur, rfl, -⟩
  · omega
  · refine ⟨ap, cp, g, cap, rfl, ?_, Rd.of_owns ho⟩
    have := h.own.cells (g := g) rfl x _ hp
    rwa [add_lit, Nat.zero_add] at this

/-- The bytes of the digest, as they come. -/
structure DR (T : TypeId) (w wr : World) (s : St) (b3 b6 n : Nat) : Prop where
  st : wr.heap[b3]? = some (.cells (s.l.map vW).toArray T (0, 0))
  res : wr.heap[w.heap.size]? = some (.cells (Array.replicate 32 (.int .u8 0)) 23 (0, 0))
  out : wr.heap[b6]? = some (.cells (dgCells s n).toArray 23 (0, 0))
  keep : Keep noBlk w wr
  l3 : w.heap.size < b3
  l6 : b3 < b6
theorem DR.step {T : TypeId} {w wr : World} {s : St} {b3 b6 n : Nat} (h : DR T w wr s b3 b6 n) {x : Value} (hx : x = vb (dgB s n)) : Hid (DR T w (wr.setCell ⟨b6, n, none⟩ x) s b3 b6 (n + 1)) := by
  subst hx
  have l3 := h.l3
  have l6 := h.l6
  have K : Keep (fun k => k = b6) wr (wr.setCell ⟨b6, n, none⟩ (vb (dgB s n))) := Keep.setCell (S := fun k => k = b6) (p := ⟨b6, n, none⟩) (Keep.refl _ _) (fun _ => rfl) _
  refine Lib.hid ⟨K.blk h.st (by omega), K.blk h.res (by omega), ?_, h.keep.trans' K (fun _ _ h => h) (fun i hi e => by omega), l3, l6⟩
  have := set_blk h.out n (vb (dgB s n))
  rw [List.setIfInBounds_toArray, dgCells_step] at this
  exact this

theorem idx8 (S : St) (j : Nat) (hj : j < 8) : ∀ w : World, Sem.run Try.prog (Instr.index 88 (.agg (S.l.map vW).toArray) (.int .i64 (j : Int))) w = .ok (vW (S.at j)) w := by
  intro w
  have h : j = 0 ∨ j = 1 ∨ j = 2 ∨ j = 3 ∨ j = 4 ∨ j = 5 ∨ j = 6 ∨ j = 7 := by omega
  rcases h with rfl | rfl | rfl | rfl | rfl | rfl | rfl | rfl <;> (show _ = _; kernel_rfl)
theorem DR.free {T : TypeId} {w wr : World} {s : St} {b3 b6 n : Nat} (h : DR T w wr s b3 b6 n) (hn : n < 32) : (∃ u, wr.cell? ⟨b6, n, none⟩ = some u) ∧ wr.frozen? ⟨b6, n, none⟩ = false := by
  obtain ⟨u, hu⟩ := dgCells_get s n hn
  exact ⟨⟨u, blk_cell h.out (by simpa using hu)⟩, blk_free h.out n⟩

set_option maxHeartbeats 4000000 in
theorem sum_any (bv : Value) (bs : List UInt8) (w : World) (hr : Rd w 1 bv bs.length (bs.map vb)) (hb : bs.length ≤ 140737488350208) :
    Calls Try.prog 41 #[bv] w (SumPost w bs) := by
  obtain ⟨a, c, rfl, -, -⟩ := hr.form
  have HR := Lib.hid hr; clear hr
  go_enter Try.func41, Try.ntmps41
  go_wp2_with (first
    | (refine wpList_alloc_at rfl 23 rfl zero32 zeroID (Array.replicate 32 (.int .u8 0)) rfl ?_))
  refine (start_any _).mono ?_
  rintro e w1 ⟨rfl, hk1⟩
  have hvs : ∃ vs, startL.map vW = vs ∧ vs.length = 8 := ⟨_, rfl, rfl⟩
  obtain ⟨vs, hvs, hlen⟩ := hvs
  rw [hvs]
  have hone : ∀ u ∈ vs, u.oneCell' = true := by rw [← hvs]; exact oneCell_vW _
  have HVS := Lib.hid hvs; have HK1 := Lib.hid hk1
  clear hvs hk1
  have hlt : w.heap.size < w1.heap.size := by have := HK1.out.size; simp at this; omega
  go_wp2_with (first
    | (refine wpList_alloc_at rfl 88 rfl zero8 zeroState (Array.replicate 8 (.int .u32 0)) rfl ?_)
    | (with_reducible show wpList _ _ _ (⟨none, .store 88 (.tmp 3) (.tmp 10), _, _, _, _⟩ :: _) _ _; refine wpList_store_agg rfl 88 (.tmp 3) (.tmp 10) rfl w1.heap.size 0 vs rfl rfl _ _ (heap_alloc_new _ _) (by rw [hlen]; decide) (by rw [hlen]; exact sizeState) hone ?_; intro w2 hb2 hk2; have HB2 := Lib.hid hb2; have HK2 := Lib.hid hk2; clear hb2 hk2))
  have hkw : Keep noBlk w w2 := (((Keep.refl noBlk w).alloc _).trans HK1.out |>.alloc _).trans' HK2.out (fun _ _ h => h) (fun i hi e => by omega)
  have HKW := Lib.hid hkw; clear hkw
  refine (fill_any _ bs w2 (HR.out.keep HKW.out fun _ _ => id) hb).mono ?_
  rintro e w3 ⟨v, ps, rfl, hown, hpcs, hk3⟩
  have R0 : Hid (SR 88 w w3 bs v ps w2.heap.size w1.heap.size 0) := by
    refine Lib.hid ⟨?_, hk3.blk (HK2.out.blk (((HK1.out.alloc _).blk (heap_alloc_new _ _) id)) (by omega)) id, hown, hpcs, HKW.out.trans hk3, hlt, by decide⟩
    have := HB2.out
    rw [spl_whole _ _ (by rw [hlen]; rfl), ← HVS.out] at this
    exact hk3.blk this id
  obtain ⟨av, cv, rfl, -, -⟩ := (Rd.of_owns hown).form
  clear hown hpcs hk3 HB2 HK2 HKW HK1 HVS
  have hm := many_eq bs.length
  have hp := padN_lt bs.length
  obtain ⟨M, hM⟩ : ∃ M, M = many bs.length := ⟨_, rfl⟩
  rw [← hM] at hm R0 ⊢
  have HM := Lib.hid hM; clear hM
  go_wp2_with fail
  go_loopw [14] (fun i wr => ∃ k : Nat, k ≤ M ∧ i = .int .i64 k ∧ Hid (SR 88 w wr bs (.slice av M cv) ps w2.heap.size w1.heap.size k)) (fun i _ => M - (intOf i).toNat)
  case atStart => exact ⟨0, by omega, rfl, R0⟩
  case round =>
    clear R0
    obtain ⟨k, hk, rfl, hR⟩ := hrel
    by_cases hk2 : k < M
    · obtain ⟨ap, cp, g, cap, hv, c0, hrd⟩ := hR.out.piece (by rw [← HM.out]; exact hk2)
      rw [← HM.out] at hv
      cases hv
      have hb0 : (0 : Int) ≤ (k : Int) := by omega
      have hb1 : (k : Int) < (M : Int) := by omega
      have HP := Lib.hid hrd; clear hrd
      obtain ⟨us, hus⟩ : ∃ us, (sumS bs k).l.map vW = us := ⟨_, rfl⟩
      have hul : us.length = 8 := by rw [← hus]; rfl
      have HUS := Lib.hid hus; clear hus
      go_wp2_with (first
        | (with_reducible show wpList _ _ _ (⟨some 18, .load 88 (.tmp 3), _, _, _, _⟩ :: _) _ _; refine wpList_load_mid rfl 88 (.tmp 3) rfl w1.heap.size 0 rfl us _ (rangeAt_whole (by rw [← HUS.out]; exact hR.out.st)) Try.underlying88 rfl (by rw [hul]; exact sizeState) ?_))
      rw [← HUS.out]
      refine (turned_any (sumS bs k) _ (piece bs k) _ (piece_length bs k (by rw [← HM.out]; exact hk2)) HP.out).mono ?_
      rintro e w4 ⟨rfl, hk4⟩
      obtain ⟨ts, hts⟩ : ∃ ts, (turn (byt (piece bs k)) (sumS bs k)).l.map vW = ts := ⟨_, rfl⟩
      have htl : ts.length = 8 := by rw [← hts]; rfl
      have hto : ∀ u ∈ ts, u.oneCell' = true := by rw [← hts]; exact oneCell_vW _
      rw [hts]
      have HTS := Lib.hid hts; have HK4 := Lib.hid hk4
      clear hts hk4
      go_wp2_with (first
        | (with_reducible show wpList _ _ _ (⟨none, .store 88 (.tmp 3) (.tmp 20), _, _, _, _⟩ :: _) _ _; refine wpList_store_agg rfl 88 (.tmp 3) (.tmp 20) rfl w1.heap.size 0 ts rfl rfl _ _ (HK4.out.blk hR.out.st id) (by rw [htl]; simp [St.l]) (by rw [htl]; exact sizeState) hto ?_; intro w5 hb5 hk5; rw [← HTS.out] at hb5; have hR2 := hR.out.turn HK4.out hb5 hk5; clear hb5 hk5))
      go_roundw
      case rel => exact ⟨k + 1, by omega, by go_num, hR2⟩
      case measure => simp [intOf]; omega
    · obtain rfl : k = M := by omega
      obtain ⟨S, hS⟩ : ∃ S, sumS bs k = S := ⟨_, rfl⟩
      have D0 : Hid (DR 88 w (wr.alloc (.cells (Array.replicate 32 (.int .u8 0)) 23)) S w1.heap.size wr.heap.size 0) := by
        have h := hR.out
        have K : Keep noBlk wr (wr.alloc (.cells (Array.replicate 32 (.int .u8 0)) 23)) := (Keep.refl _ _).alloc _
        exact Lib.hid ⟨by rw [← hS]; exact K.blk h.st id, K.blk h.res id, heap_alloc_new _ _, h.keep.trans K, h.lt, lt_of_block h.st⟩
      have HSd := Lib.hid hS
      clear hS hR
      have hul : (S.l.map vW).length = 8 := rfl
      go_wp2_with (first
        | (refine wpList_alloc_at rfl 23 rfl zero32 zeroID (Array.replicate 32 (.int .u8 0)) rfl ?_)
        | (with_reducible show wpList _ _ _ (⟨some 22, .load 88 (.tmp 3), _, _, _, _⟩ :: _) _ _; refine wpList_load_mid rfl 88 (.tmp 3) rfl w1.heap.size 0 rfl (S.l.map vW) _ (rangeAt_whole D0.out.st) Try.underlying88 rfl (by rw [hul]; exact sizeState) ?_))
      generalize wr.alloc (.cells (Array.replicate 32 (.int .u8 0)) 23) = w0 at *
      generalize wr.heap.size = b6 at *
      go_loopw [23] (fun i wr => ∃ j : Nat, j ≤ 8 ∧ i = .int .i64 j ∧ Hid (DR 88 w wr S w1.heap.size b6 (4 * j))) (fun i _ => 8 - (intOf i).toNat)
      case atStart => exact ⟨0, by omega, rfl, D0⟩
      case round =>
        clear D0
        obtain ⟨j, hj, rfl, hD⟩ := hrel
        by_cases hj8 : j < 8
        · have hx : (S.l.map vW).toArray[j]? = some (vW (S.at j)) := by simp [S.at_get j hj8]
          have hj0 : (0 : Int) ≤ (j : Int) := by omega
          have hj1 : (j : Int) < 8 := by omega
          have hix := idx8 S j hj8
          obtain ⟨x, hx⟩ : ∃ x, S.at j = x := ⟨_, rfl⟩
          simp only [hx, show vW x = .int .u32 x from rfl] at hix
          have HX := Lib.hid hx; clear hx
          go_wp2_with fail
          obtain ⟨wo, rfl⟩ : ∃ wo : World, wo = wr := ⟨_, rfl⟩
          go_loopw [27] (fun i wr => ∃ k : Nat, k ≤ 4 ∧ i = .int .i64 k ∧ Hid (DR 88 w wr S w1.heap.size b6 (4 * j + k))) (fun i _ => 4 - (intOf i).toNat)
          case atStart => exact ⟨0, by omega, rfl, hD⟩
          case round =>
            clear hD
            obtain ⟨q, hq, rfl, hD⟩ := hrel
            by_cases hq4 : q < 4
            · obtain ⟨⟨u, hcu⟩, hfu⟩ := hD.out.free (show 4 * j + q < 32 by omega)
              have hq0 : (0 : Int) ≤ (q : Int) := by omega
              have hq1 : (q : Int) < 4 := by omega
              have HV := Lib.hid (show (Value.int .u8 (x / 2 ^ (24 - 8 * q) % 256)) = vb (dgB S (4 * j + q)) by rw [vb_dgB, ← HX.out, show (4 * j + q) / 4 = j by omega, show (4 * j + q) % 4 = q by omega])
              have hD2 := hD.out.step HV.out
              go_wp2_with fail
              refine ⟨⟨q + 1, by omega, by go_num, hD2⟩, ?_⟩
              simp [intOf]; omega
            · obtain rfl : q = 4 := by omega
              go_wp2_with fail
              go_roundw
              case rel => exact ⟨j + 1, by omega, by go_num, by rw [show 4 * (j + 1) = 4 * j + 4 by omega]; exact hD⟩
              case measure => simp [intOf]; omega
        · obtain rfl : j = 8 := by omega
          obtain ⟨ds, hds⟩ : ∃ ds, (digest bs).map vb = ds := ⟨_, rfl⟩
          have hdl : ds.length = 32 := by rw [← hds]; simp [digest_length]
          have hdo : ∀ u ∈ ds, u.oneCell' = true := by rw [← hds]; exact oneCell_vb _
          have hout : wr.heap[b6]? = some (.cells ds.toArray 23 (0, 0)) := by
            have := hD.out.out
            rw [← hds, ← dgCells_all, ← HM.out, HSd.out]
            exact this
          have HDS := Lib.hid hds; have HOUT := Lib.hid hout
          clear hds hout
          go_wp2_with (first
            | (with_reducible show wpList _ _ _ (⟨some 43, .load 23 (.tmp 6), _, _, _, _⟩ :: _) _ _; refine wpList_load_mid rfl 23 (.tmp 6) rfl b6 0 rfl ds _ (rangeAt_whole HOUT.out) Try.underlying23 rfl (by rw [hdl]; exact sizeID) ?_)
            | (with_reducible show wpList _ _ _ (⟨none, .store 23 (.tmp 2) (.tmp 43), _, _, _, _⟩ :: _) _ _; refine wpList_store_agg rfl 23 (.tmp 2) (.tmp 43) rfl w.heap.size 0 ds rfl rfl _ _ hD.out.res (by rw [hdl]; simp) (by rw [hdl]; exact sizeID) hdo ?_; intro w5 hb5 hk5; have HB5 := Lib.hid hb5; have HK5 := Lib.hid hk5; clear hb5 hk5))
          refine bodyPost_ret (results_cell_row rfl _ _ w.heap.size _ _ _ _ rfl HB5.out Try.underlying23 rfl (by rw [spl_size]; simp [sizeID])) rfl ⟨?_, ?_⟩
          · rw [spl_whole _ _ (by rw [hdl]; simp), HDS.out]
          · exact hD.out.keep.trans' HK5.out (fun _ _ h => h) (fun i hi e => by omega)
end Go.Proofs.Ytdlegbcdmlmbpaa
