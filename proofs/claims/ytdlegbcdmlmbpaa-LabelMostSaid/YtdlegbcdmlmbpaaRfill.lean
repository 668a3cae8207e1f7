/-
  The filling up of bytes to pieces: the reference's Fill.
  Conditions: the bounds on sizes that each theorem names.
-/
import Derived.Test.YtdlegbcdmlmbpaaFill
namespace Go.Proofs.Ytdlegbcdmlmbpaa
open Go.RowKit
set_option maxRecDepth 100000

/-- What the rounds over the pieces keep up. -/
structure RF (w wr : World) (bs : List UInt8) (all v : Value) (ps : List Value) (k : Nat) : Prop where
  own : wr.ownsRow w.heap.size 26 1 v k ps
  pcs : PcsAre wr w.heap.size bs (List.range k) ps
  all : wr.ownsRow w.heap.size 5 1 all (64 * many bs.length) ((filled bs).map vb)
  keep : Keep noBlk w wr

theorem RF.pc {w wr : World} {bs : List UInt8} {v : Value} {ps : List Value} {k g cap c2 : Nat} (h : RF w wr bs (.slice (some ⟨g, 0, none⟩) (64 * many bs.length) cap) v ps k) (hk : k < many bs.length) (hc2 : c2 = cap - 64 * k) (hcap : 64 * many bs.length ≤ cap) (hm : cap ≤ maxLen) :
    Rd wr 1 (.slice (some ⟨g, 64 * k, none⟩) 64 c2) 64 ((piece bs k).map vb) := by
  subst hc2
  refine ⟨by simp [piece_length bs k hk], _, _, rfl, by omega, by omega, (by intro h; cases h), fun _ => ⟨g, _, rfl, fun i u hu => ?_⟩⟩
  have hi : i < 64 := by
    have := (List.getElem?_eq_some_iff.1 hu).1
    simpa [piece_length bs k hk] using this
  rw [List.getElem?_map, piece_get _ _ _ hi, ← List.getElem?_map] at hu
  have := h.all.cells (g := g) rfl _ _ hu
  rwa [add_lit, Nat.zero_add] at this

theorem RF.step {w wr wp wr2 : World} {bs : List UInt8} {all v v' p : Value} {ps : List Value} {k : Nat} (h : RF w wr bs all v ps k) (hk : k < many bs.length)
    (hp : wp.ownsRow w.heap.size 5 1 p (0 + 64) ([] ++ (piece bs k).map vb)) {o : Obj} {z : Value} (hz : z.ownBlock = some wr.heap.size) (hkp : Keep (fun k => z.ownBlock = some k) (wr.alloc o) wp)
    (hr : wr2.ownsRow w.heap.size 26 1 v' (k + 1) (ps ++ [p])) (hkr : Keep (fun k => v.ownBlock = some k) (wp.alloc (.cells #[p] 26)) wr2) : Hid (RF w wr2 bs all v' (ps ++ [p]) (k + 1)) := by
  have k1 : Keep noBlk wr wp := ((Keep.refl noBlk wr).alloc o).trans' hkp (fun _ _ h => h) (fun i hi e => by rw [hz] at e; cases e; omega)
  have k2 : Keep noBlk wr (wp.alloc (.cells #[p] 26)) := k1.alloc _
  have hv := k2.owns h.own fun _ _ => id
  have no : ∀ i cur, (wp.alloc (.cells #[p] 26)).heap[i]? = some (.cells cur 5 (0, 0)) → ¬ v.ownBlock = some i := fun i cur hc e => by
    obtain ⟨c2, h2⟩ := owns_block hv e
    rw [hc] at h2
    cases h2
  refine Lib.hid ⟨hr, ?_, ?_, (h.keep.trans k2).trans' hkr (fun _ _ h => h) (fun i hi e => by have := (h.own.lt i e).1; omega)⟩
  · rw [List.range_succ]
    refine PcsAre.keep (w := wp.alloc (.cells #[p] 26)) ?_ hkr no
    refine PcsAre.keep (w := wp) (S := noBlk) ?_ ((Keep.refl _ _).alloc _) (fun _ _ _ => id)
    exact (h.pcs.keep k1 fun _ _ _ => id).snoc k p (by rw [Nat.mod_eq_of_lt hk]; simpa using hp)
  · have ha := k2.owns h.all fun _ _ => id
    exact hkr.owns ha fun i hi => by obtain ⟨cur, hc⟩ := owns_block ha hi; exact no i cur hc

set_option maxHeartbeats 4000000 in
theorem rfill_any (bv : Value) (bs : List UInt8) (w : World) (hr : Rd w 1 bv bs.length (bs.map vb)) (hb : bs.length ≤ 140737488350208) :
    Calls Try.prog 57 #[bv] w (FillPost w bs) := by
  obtain ⟨a, c, rfl, -, -⟩ := hr.form
  have K : Keep noBlk w (w.alloc (.cells #[] 5)) := (Keep.refl _ _).alloc _
  have HR := Lib.hid (hr.keep K fun _ _ => id)
  have HK := Lib.hid K
  clear hr K
  have H128 := Lib.hid (show (Value.int .u8 128) = vb 128 from rfl)
  have H0 := Lib.hid (show (Value.int .u8 0) = vb 0 from rfl)
  have hone : ∀ k : Int, ∀ u ∈ [Value.int .u8 k], u.oneCell' = true := by simp [Value.oneCell']
  have HONE := Lib.hid hone; clear hone
  go_enter Try.func57, Try.ntmps57
  go_wp2_with (first
    | (at_builtin; refine wpList_append_rd rfl (.tmp 8) (.tmp 9) 26 rfl w.heap.size 5 _ 1 1 Try.underlying26 infoU8 rfl (by omega) _ 0 [] rfl (World.ownsRow_made w #[] 0 (Nat.le_refl _) (by unfold maxLen; omega) (by simp)) _ bs.length (bs.map vb) rfl HR.out (oneCell_vb _) (by unfold maxLen; omega) (by omega) (by simp) ?_; intro v' w2 hown2 hk2 hnil hat; rw [Nat.zero_add, List.nil_append] at hown2; obtain ⟨a3, c3, rfl, -, -⟩ := (Rd.of_owns hown2).form; have HO := Lib.hid hown2; have HK2 := Lib.hid (show Keep noBlk w w2 from HK.out.trans' hk2 (fun _ _ h => h) (fun i hi h => by have h' : w.heap.size = i := Option.some.inj h; omega)); clear hown2 hk2 hnil hat)
    | (at_builtin; refine wpList_append_rd rfl (.tmp 10) (.tmp 11) 26 rfl w.heap.size 5 _ 1 1 Try.underlying26 infoU8 rfl (by omega) _ bs.length _ rfl (HO.out.alloc _) _ 1 _ rfl (rd_one _ _ _) (HONE.out _) (by unfold maxLen; omega) (by omega) (by have := HK2.out.size; simp; omega) ?_; intro v' w3 hown2 hk2 hnil hat; have R := push_rel H128.out rfl HO.out HK2.out hown2 hk2; obtain ⟨a3, c3, rfl, -, -⟩ := (Rd.of_owns hown2).form; clear hown2 hk2 hnil hat HO HK2))
  obtain ⟨HO, HK⟩ := R
  go_loopw [3] (fun v wr => ∃ k N : Nat, k ≤ padN bs.length ∧ N = bs.length + 1 + k ∧ (∃ a c, v = .slice a N c) ∧ Hid (wr.ownsRow w.heap.size 5 1 v N ((bs ++ [128] ++ List.replicate k 0).map vb)) ∧ Hid (Keep noBlk w wr)) (fun v _ => bs.length + 1 + padN bs.length - vlen v)
  case atStart => exact ⟨0, _, by omega, rfl, ⟨_, _, rfl⟩, by simpa using HO, HK⟩
  case round =>
    clear HO HK
    obtain ⟨k, N, hk, hN, ⟨a4, c4, rfl⟩, HO, HK⟩ := hrel
    have hp := padN_lt bs.length
    have hNb : N ≤ 140737488350400 := by omega
    have HN0 := Lib.hid hN
    by_cases hlt : k < padN bs.length
    · have hmod : ((N : Int) % 64) ≠ 56 := by
        have := padN_step bs.length k hk
        rw [← hN] at this
        omega
      have hsz : w.heap.size ≤ (wr.alloc (.cells #[.int .u8 0] 5)).heap.size := by have := HK.out.size; simp; omega
      have HS := Lib.hid hsz; clear hsz
      have hml : N + 1 ≤ maxLen := by unfold maxLen; omega
      have HML := Lib.hid hml; clear hml
      have HN := Lib.hid (show N = (bs ++ [128] ++ List.replicate k 0).length by simp [hN]; omega)
      clear hN
      go_wp2_with (at_builtin; refine wpList_append_rd rfl (.tmp 17) (.tmp 18) 26 rfl w.heap.size 5 _ 1 1 Try.underlying26 infoU8 rfl (by omega) _ N _ rfl (HO.out.alloc _) _ 1 _ rfl (rd_one _ _ _) (HONE.out _) HML.out (by omega) HS.out ?_; intro v' w2 hown2 hk2 hnil hat; have R := push_rel H0.out HN.out HO.out HK.out hown2 hk2; obtain ⟨a5, c5, rfl, -, -⟩ := (Rd.of_owns hown2).form; clear hown2 hk2 hnil hat HO HK HS HN)
      go_roundw
      case rel => exact ⟨k + 1, N + 1, by omega, by rw [HN0.out]; omega, ⟨_, _, rfl⟩, by rw [List.replicate_succ', ← List.append_assoc]; exact R.1, R.2⟩
      case measure => have := HN0.out; simp [vlen]; omega
    · obtain rfl : k = padN bs.length := by omega
      have hmod : ((N : Int) % 64) = 56 := by
        have := padN_step bs.length _ hk
        rw [← hN] at this
        omega
      clear hN
      go_wp2_with fail
      obtain ⟨L, hL⟩ : ∃ L, L = bs ++ [128] ++ List.replicate (padN bs.length) 0 := ⟨_, rfl⟩
      rw [← hL] at HO
      have hNL : N = L.length := by rw [HN0.out, hL]; simp; omega
      obtain ⟨M, hM⟩ : ∃ M : Nat, M = 8 * bs.length := ⟨_, rfl⟩
      have hMi : 8 * (bs.length : Int) = (M : Int) := by omega
      rw [hMi]
      have hMb : M < 2251799813685248 := by omega
      have HL := Lib.hid hL; have HM := Lib.hid hM; have HNL := Lib.hid hNL
      clear hL hM hMi hNL hlt hk hmod
      obtain ⟨wo, rfl⟩ : ∃ wo : World, wo = wr := ⟨_, rfl⟩
      go_loopw [3, 5] (fun v i wr => ∃ k N1 : Nat, k ≤ 8 ∧ N1 = N + k ∧ i = .int .i64 (7 - (k : Int)) ∧ (∃ a c, v = .slice a N1 c) ∧ Hid (wr.ownsRow w.heap.size 5 1 v N1 ((L ++ (List.range k).map (beAt M 8)).map vb)) ∧ Hid (Keep noBlk w wr)) (fun _ i _ => (intOf i + 1).toNat)
      case atStart => exact ⟨0, N, by omega, rfl, rfl, ⟨_, _, rfl⟩, by simpa using HO, HK⟩
      case round =>
        clear HO HK
        obtain ⟨k, N1, hk, hN1, rfl, ⟨a5, c5, rfl⟩, HO, HK⟩ := hrel
        have hNb1 : N1 ≤ 140737488350500 := by omega
        have HN1 := Lib.hid hN1; clear hN1
        by_cases hlt : k < 8
        · obtain ⟨r, hr⟩ : ∃ r : Nat, r = 7 - k := ⟨_, rfl⟩
          have hri : (7 : Int) - (k : Int) = (r : Int) := by omega
          have hr7 : r ≤ 7 := by omega
          rw [hri]
          have HRR := Lib.hid hr; clear hri hr
          have hml : N1 + 1 ≤ maxLen := by unfold maxLen; omega
          have HML := Lib.hid hml; clear hml
          have HV := Lib.hid (show (Value.int .u8 ((M : Int) / 2 ^ (8 * r) % 256)) = vb (beAt M 8 k) by rw [vb_eq, beAt_toNat, HRR.out, show 8 * (8 - k - 1) = 8 * (7 - k) by omega])
          have HN := Lib.hid (show N1 = (L ++ (List.range k).map (beAt M 8)).length by rw [HN1.out, HNL.out]; simp)
          have hsz : w.heap.size ≤ (wr.alloc (.cells #[.int .u8 ((M : Int) / 2 ^ (8 * r) % 256)] 5)).heap.size := by have := HK.out.size; simp; omega
          have HS := Lib.hid hsz; clear hsz
          go_wp2_with (at_builtin; refine wpList_append_rd rfl (.tmp 27) (.tmp 33) 26 rfl w.heap.size 5 _ 1 1 Try.underlying26 infoU8 rfl (by omega) _ N1 _ rfl (HO.out.alloc _) _ 1 _ rfl (rd_one _ _ _) (HONE.out _) HML.out (by omega) HS.out ?_; intro v' w2 hown2 hk2 hnil hat; have R := push_rel HV.out HN.out HO.out HK.out hown2 hk2; obtain ⟨a6, c6, rfl, -, -⟩ := (Rd.of_owns hown2).form; clear hown2 hk2 hnil hat HO HK HS HN HV)
          go_roundw
          case rel => exact ⟨k + 1, N1 + 1, by omega, by rw [HN1.out]; omega, by have := HRR.out; congr 1; omega, ⟨_, _, rfl⟩, by rw [range_succ_map, ← List.append_assoc]; exact R.1, R.2⟩
          case measure => simp [intOf]
        · obtain rfl : k = 8 := by omega
          rw [show (7 : Int) - ((8 : Nat) : Int) = -1 from rfl]
          have HF : Hid (wr.ownsRow w.heap.size 5 1 (.slice a5 N1 c5) N1 ((filled bs).map vb)) := by
            refine Lib.hid ?_
            have := HO.out
            rw [HL.out, HM.out] at this
            exact this
          have hNF : N1 = 64 * many bs.length := by rw [← many_eq, HN1.out, HN0.out]
          clear HO HL HM HN1 HNL HN0 hlt hk
          have hmp := many_pos bs.length
          obtain ⟨g, cap, cur, hv, hgb, hgh, hgc, hgm, hgs, hgt⟩ : ∃ g cap cur, Value.slice a5 N1 c5 = .slice (some ⟨g, 0, none⟩) N1 cap ∧ w.heap.size ≤ g ∧ wr.heap[g]? = some (.cells cur 5 (0, 0)) ∧ N1 ≤ cap ∧ cap ≤ maxLen ∧ cur.size = cap * 1 ∧ cur.toList.take (N1 * 1) = (filled bs).map vb := by
            rcases HF.out.2 with ⟨h, h0⟩ | h
            · omega
            · exact h
          cases hv
          clear hgb hgh hgs hgt
          have hgm' : c5 ≤ 9223372036854775807 := hgm
          have HGM := Lib.hid hgm; clear hgm
          obtain ⟨m, hm⟩ : ∃ m, m = many bs.length := ⟨_, rfl⟩
          rw [← hm] at hNF hmp
          have R0 : Hid (RF w wr bs (.slice (some ⟨g, 0, none⟩) (64 * many bs.length) c5) (.slice none 0 0) [] 0) := Lib.hid ⟨World.ownsRow_nil _ _ _ _, ⟨rfl, fun i p h => by simp at h⟩, by have := HF.out; rw [hNF, hm] at this; exact this, HK.out⟩
          have HMM := Lib.hid hm; have HNF := Lib.hid hNF
          clear hm HF HK
          go_wp2_with fail
          obtain ⟨wo, rfl⟩ : ∃ wo : World, wo = wr := ⟨_, rfl⟩
          go_loopw [6, 7] (fun v i wr => ∃ k X : Nat, k ≤ m ∧ X = 64 * k ∧ i = .int .i64 (X : Int) ∧ ∃ a c ps, v = .slice a k c ∧ Hid (RF w wr bs (.slice (some ⟨g, 0, none⟩) (64 * many bs.length) c5) v ps k)) (fun _ i _ => 64 * m - (intOf i).toNat)
          case atStart => exact ⟨0, 0, by omega, rfl, rfl, _, _, _, rfl, R0⟩
          case round =>
            clear R0
            obtain ⟨k, X, hk, hX, rfl, av, cv, ps, rfl, hR⟩ := hrel
            have HX := Lib.hid hX
            by_cases hkm : k < m
            · have hX1 : X + 64 ≤ N1 := by omega
              have hX0 : (0 : Int) ≤ (X : Int) := by omega
              have hX2 : (X : Int) < (N1 : Int) := by omega
              have hX3 : (X : Int) + 64 ≤ (c5 : Int) := by omega
              have hX4 : (X : Int) ≤ (X : Int) + 64 := by omega
              have hml : k + 1 ≤ maxLen ∧ (k + 1) * 24 ≤ 140737488355328 := by unfold maxLen; omega
              have HML := Lib.hid hml; clear hml
              clear hX hNF
              have hpc : Rd (wr.alloc (.cells #[] 5)) 1 (.slice (some ⟨g, X, none⟩) 64 (c5 - X)) 64 ((piece bs k).map vb) := by
                have := hR.out.pc (by rw [← HMM.out]; exact hkm) (c2 := c5 - 64 * k) rfl (by rw [← HMM.out, ← HNF.out]; exact hgc) HGM.out
                rw [← HX.out] at this
                exact this.keep ((Keep.refl noBlk wr).alloc _) fun _ _ => id
              have HPC : Hid (Rd (wr.alloc (.cells #[] 5)) 1 (.slice (some ⟨g, X, none⟩) (X + 64 - X) (c5 - X)) 64 ((piece bs k).map vb)) := Lib.hid (by rw [show X + 64 - X = 64 by omega]; exact hpc)
              clear hpc
              have hwr : w.heap.size ≤ wr.heap.size := hR.out.keep.size
              have HWR := Lib.hid hwr; clear hwr
              go_wp2_with (first
                | (at_builtin; refine wpList_append_rd rfl (.tmp 42) (.tmp 47) 26 rfl w.heap.size 5 _ 1 1 Try.underlying26 infoU8 rfl (by omega) _ 0 [] rfl (World.ownsRow_made wr #[] 0 HWR.out (by unfold maxLen; omega) (by simp)) _ 64 _ rfl HPC.out (oneCell_vb _) (by unfold maxLen; omega) (by omega) (by have := HWR.out; simp; omega) ?_; intro v' wp hown2 hk2 hnil hat; rw [Nat.zero_add] at hown2; obtain ⟨a5, c6, rfl, -, -⟩ := (Rd.of_owns hown2).form; have HP := Lib.hid hown2; have HKP := Lib.hid hk2; have HK1 := Lib.hid (show Keep noBlk wr wp from ((Keep.refl noBlk wr).alloc _).trans' hk2 (fun _ _ h => h) (fun i hi h => by have h' : wr.heap.size = i := Option.some.inj h; omega)); clear hown2 hk2 hnil hat; have HOv := Lib.hid ((HK1.out.alloc (.cells #[.slice a5 64 c6] 26)).owns hR.out.own fun _ _ => id))
                | (at_builtin; refine wpList_append_rd rfl (.tmp 41) (.tmp 49) 73 rfl w.heap.size 26 _ 1 24 Try.underlying73 infoS8 rfl (by omega) _ k ps rfl HOv.out _ 1 _ rfl (rd_one _ _ _) (by simp [Value.oneCell']) HML.out.1 HML.out.2 (by have := HWR.out; have := HK1.out.size; simp; omega) ?_; intro v' w5 hown2 hk2 hnil hat; have R2 := hR.out.step (by rw [← HMM.out]; exact hkm) HP.out rfl HKP.out hown2 hk2; obtain ⟨a6, c7, rfl, -, -⟩ := (Rd.of_owns hown2).form; clear hown2 hk2 hnil hat HOv))
              go_roundw
              case rel => exact ⟨k + 1, X + 64, by omega, by rw [HX.out]; omega, by go_num, _, _, _, rfl, R2⟩
              case measure => have := HNF.out; simp [intOf]; omega
            · obtain rfl : k = m := by omega
              have hXN : X = N1 := by rw [hX, ← HNF.out]
              subst hXN
              clear hX
              go_wp2_with fail
              go_ret
              have h := hR.out
              rw [HMM.out] at h ⊢
              exact ⟨_, ps, rfl, h.own, h.pcs, h.keep⟩
end Go.Proofs.Ytdlegbcdmlmbpaa
