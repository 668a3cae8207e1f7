/-
  pointer.cursor's num.
  Conditions: those told.
-/
import Derived.Test.YtaiicjhnhbkgmaaGreatDoorPtrE
import Derived.Test.YtaiicjhnhbkgmaaGreatDoorReader1
import Derived.Test.YtaiicjhnhbkgmaaGreatDoorBytes
namespace Go.Proofs.YtaiicjhnhbkgmaaGreatDoor
open Go.RowKit Go.Maps Go.ChangeMaps
set_option maxRecDepth 100000
set_option linter.unusedVariables false

/-- A cursor, in block cb: what it has still ahead. -/
def CurIs (w : World) (cb g p m c : Nat) : Prop := w.heap[cb]? = some (.cells #[.slice (some ⟨g, p, none⟩) m c] 185 (0, 0))
set_option maxHeartbeats 8000000 in
theorem cnum_any (w : World) (cb g p m c k : Nat) (bs : List UInt8) (hb : CurIs w cb g p m c) (hr : w.rangeAt g p (bs.map vb)) (hl : bs.length = m) (hmc : m ≤ c) (hc : c ≤ 9223372036854775807) (hk1 : 1 ≤ k) (hk4 : k ≤ 4) (hkm : k < m) :
    Calls Tryz.prog 133 #[.pointer (some ⟨cb, 0, none⟩), .int .i64 (k : Int)] w fun e w' => e = .returned (.int .i64 (beN (bs.take k) : Int)) ∧ CurIs w' cb g (p + k) (m - k) (c - k) ∧ Keep (fun i => i = cb) w w' := by
  have c0 : w.cell? ⟨cb, 0, none⟩ = some (.slice (some ⟨g, p, none⟩) m c) := blk_cell hb rfl
  have cf := blk_free hb 0
  have HB := Lib.hid hb; have HR := Lib.hid hr; have HL := Lib.hid hl
  have hkc : (k : Int) ≤ (c : Int) := by omega
  have hkmi : (k : Int) ≤ (m : Int) := by omega
  have hk0 : (0 : Int) ≤ (k : Int) := by omega
  have hkcn : k ≤ c := by omega
  clear hb hr hl
  go_enter Tryz.func133, Tryz.ntmps133
  go_wp2_with fail
  go_loop [5, 15] (fun x i => ∃ j : Nat, j ≤ k ∧ i = .int .i64 j ∧ x = .int .i64 (beN (bs.take j) : Int)) (fun _ i => k - (intOf i).toNat)
  case atStart => exact ⟨0, by omega, rfl, rfl⟩
  case round =>
    obtain ⟨j, hj, rfl, rfl⟩ := hrel
    by_cases hjk : j < k
    · have hjl : j < bs.length := by rw [HL.out]; omega
      have cj : w.cell? ⟨g, p + j, none⟩ = some (.int .u8 (bs[j].toNat : Int)) := HR.out j _ (by simp [hjl, vb])
      have hx := beN_le (bs.take j) (by simp; omega)
      have hs := beN_snoc (bs.take j) bs[j]
      have hc8 := bs[j].toNat_lt
      rw [← List.take_succ_eq_append_getElem hjl] at hs
      obtain ⟨q, hq⟩ : ∃ q, bs[j].toNat = q := ⟨_, rfl⟩
      rw [hq] at cj hs hc8
      obtain ⟨y, hX⟩ : ∃ y, beN (bs.take j) = y := ⟨_, rfl⟩
      rw [hX] at hs hx ⊢
      have HS := Lib.hid hs
      clear hs hX hq
      have hj0 : (0 : Int) ≤ (j : Int) := by omega
      have hj1 : (j : Int) < (k : Int) := by omega
      have hor := or_byte y q hx hc8
      go_wp2_with fail
      go_round
      case rel => exact ⟨j + 1, by omega, by go_num, by rw [HS.out]; simp⟩
      case measure => simp [intOf]; omega
    · obtain rfl : j = k := by omega
      go_wp2_with fail
      go_ret
      refine ⟨rfl, ?_, (Keep.refl (fun i => i = cb) w).setCell (p := ⟨cb, 0, none⟩) (fun _ => rfl) _⟩
      have := set_blk HB.out 0 (.slice (some ⟨g, p + j, none⟩) (m - j) (c - j))
      exact this
end Go.Proofs.YtaiicjhnhbkgmaaGreatDoor

/-
  pointer.read: the pointer of bytes, or a panic.
  Conditions: those told.
-/
namespace Go.Proofs.YtaiicjhnhbkgmaaGreatDoor
open Go.RowKit Go.Maps Go.ChangeMaps
set_option maxRecDepth 100000
set_option linter.unusedVariables false

def zPt : Pt := ⟨[], 0, 0, zeros32⟩
theorem zeroPtV (w : World) : (zeroValue 34).run Tryz.prog w = .ok (.agg (ptCs (.slice none 0 0) zPt).toArray) w := by kernel_rfl
/-- The i-th address that stands in bytes. -/
def adOf (b : List UInt8) (i : Nat) : Ad := ⟨(beN ((b.drop (1 + 3 * i)).take 1) : Int), (beN ((b.drop (1 + 3 * i + 1)).take 2) : Int)⟩
def adsOf (b : List UInt8) (k : Nat) : List Ad := (List.range (min (beN (b.take 1)) k)).map (adOf b)
/-- The pointer that stands in bytes. -/
def ptOf (b : List UInt8) : Pt := ⟨adsOf b 3, (beN ((b.drop 10).take 4) : Int), (beN ((b.drop 14).take 1) : Int), b.drop 15⟩
def readB (b : List UInt8) : Bool := decide (b.length = 47) && (ptOf b).may && decide (ptB (ptOf b) = b)
theorem adsOf_succ (b : List UInt8) (k : Nat) : adsOf b (k + 1) = adsOf b k ++ if k < beN (b.take 1) then [adOf b k] else [] := by
  unfold adsOf
  by_cases h : k < beN (b.take 1)
  · rw [if_pos h, Nat.min_eq_right (by omega), Nat.min_eq_right (by omega), List.range_succ, List.map_append]
    rfl
  · rw [if_neg h, Nat.min_eq_left (by omega), Nat.min_eq_left (by omega), List.append_nil]
theorem adsOf_len (b : List UInt8) (k : Nat) : (adsOf b k).length ≤ k := by
  unfold adsOf
  rw [List.length_map, List.length_range]
  omega
theorem beN_small (l : List UInt8) (k : Nat) (h : l.length ≤ k) : beN l < 256 ^ k := Nat.lt_of_lt_of_le (beN_lt l) (Nat.pow_le_pow_right (by omega) h)
theorem in64_nat {n : Nat} (h : n < 16777216) : In64 (n : Int) := ⟨by omega, by omega⟩
theorem adOf_ok (b : List UInt8) (i : Nat) : AdOk (adOf b i) := by
  have h1 := beN_small ((b.drop (1 + 3 * i)).take 1) 1 (by simp; omega)
  have h2 := beN_small ((b.drop (1 + 3 * i + 1)).take 2) 2 (by simp; omega)
  exact ⟨in64_nat (by omega), in64_nat (by omega)⟩
theorem adsOf_ok (b : List UInt8) (k : Nat) : AdsOk (adsOf b k) := fun x hx => by
  unfold adsOf at hx
  obtain ⟨i, -, rfl⟩ := List.mem_map.1 hx
  exact adOf_ok b i
/-- What stands in memory while a pointer is read. -/
structure RdW (w wr : World) (rb cb pb g o c B off n : Nat) (v : Value) (q : Pt) : Prop where
  res : wr.heap[rb]? = some (.cells (ptCs (.slice none 0 0) zPt).toArray 34 (0, 0))
  cur : CurIs wr cb g (o + off) (47 - off) (c - off)
  pt : wr.heap[pb]? = some (.cells (ptCs v q).toArray 34 (0, 0))
  row : wr.ownsRow B 70 2 v n (adCells q.addrs)
  keep : Keep noBlk w wr
  ord : w.heap.size ≤ rb ∧ rb < cb ∧ cb < pb ∧ pb < B
  sz : B ≤ wr.heap.size
theorem RdW.same {w wr w' : World} {rb cb pb g o c B off n : Nat} {v : Value} {q : Pt} (h : RdW w wr rb cb pb g o c B off n v q) (k : Keep noBlk wr w') : RdW w w' rb cb pb g o c B off n v q :=
  ⟨k.blk h.res id, k.blk h.cur id, k.blk h.pt id, k.owns h.row fun _ _ => id, h.keep.trans k, h.ord, Nat.le_trans h.sz k.size⟩
theorem RdW.num {w wr w' : World} {rb cb pb g o c B off n k : Nat} {v : Value} {q : Pt} (h : RdW w wr rb cb pb g o c B off n v q) (hc : CurIs w' cb g (o + off + k) (47 - off - k) (c - off - k)) (hk : Keep (fun i => i = cb) wr w') : RdW w w' rb cb pb g o c B (off + k) n v q := by
  obtain ⟨h1, h2, h3, h4⟩ := h.ord
  refine ⟨hk.blk h.res (by omega), ?_, hk.blk h.pt (by omega), hk.owns h.row (fun i hi e => by have := owns_base h.row hi; omega), h.keep.trans' hk (U := noBlk) (fun _ _ h => h) (fun i hi e => by omega), h.ord, Nat.le_trans h.sz hk.size⟩
  rw [← Nat.add_assoc, Nat.sub_add_eq, Nat.sub_add_eq]
  exact hc
theorem RdW.put {w wr w' : World} {rb cb pb g o c B off n m : Nat} {v u : Value} {q r : Pt} (h : RdW w wr rb cb pb g o c B off n v q) (hp : w'.heap[pb]? = some (.cells (ptCs u r).toArray 34 (0, 0))) (hr : w'.ownsRow B 70 2 u m (adCells r.addrs)) (hk : Keep (fun i => i = pb ∨ v.ownBlock = some i) wr w') : RdW w w' rb cb pb g o c B off m u r := by
  obtain ⟨h1, h2, h3, h4⟩ := h.ord
  have hno : ∀ i, i < pb → ¬ (i = pb ∨ v.ownBlock = some i) := fun i hi e => by
    rcases e with e | e
    · omega
    · have := owns_base h.row e; omega
  exact ⟨hk.blk h.res (hno _ (by omega)), hk.blk h.cur (hno _ (by omega)), hp, hr, h.keep.trans' hk (U := noBlk) (fun _ _ h => h) (fun i hi e => hno i (by omega) e), h.ord, Nat.le_trans h.sz hk.size⟩
theorem ptCs_set0 (v u : Value) (q : Pt) (l : List Ad) : (ptCs v q).toArray.setIfInBounds 0 u = (ptCs u ⟨l, q.birth, q.level, q.sum⟩).toArray := by rw [List.setIfInBounds_toArray]; rfl
theorem ptCs_set1 (v : Value) (q : Pt) (x : Int) : (ptCs v q).toArray.setIfInBounds 1 (.int .i64 x) = (ptCs v ⟨q.addrs, x, q.level, q.sum⟩).toArray := by rw [List.setIfInBounds_toArray]; rfl
theorem ptCs_set2 (v : Value) (q : Pt) (x : Int) : (ptCs v q).toArray.setIfInBounds 2 (.int .i64 x) = (ptCs v ⟨q.addrs, q.birth, x, q.sum⟩).toArray := by rw [List.setIfInBounds_toArray]; rfl
theorem ptCs_spl (v : Value) (q : Pt) (s : List UInt8) (hq : q.sum.length = 32) (hs : s.length = 32) : spl (ptCs v q).toArray 3 (s.map vb) = (ptCs v ⟨q.addrs, q.birth, q.level, s⟩).toArray := by
  apply Array.ext_getElem?
  intro j
  rw [spl_get _ _ _ _ (by rw [List.size_toArray, ptCs_len hq, List.length_map, hs]; exact Nat.le_refl _)]
  simp only [List.getElem?_toArray, List.length_map, hs]
  by_cases h3 : 3 ≤ j
  · by_cases hj : j < 35
    · rw [if_pos (by omega)]
      have e : (ptCs v ⟨q.addrs, q.birth, q.level, s⟩)[j]? = (s.map vb)[j - 3]? := by
        unfold ptCs
        obtain ⟨i, rfl⟩ : ∃ i, j = i + 3 := ⟨j - 3, by omega⟩
        simp
      rw [e]
    · rw [if_neg (by omega), List.getElem?_eq_none (by rw [ptCs_len hq]; omega), List.getElem?_eq_none (by rw [ptCs_len (p := ⟨q.addrs, q.birth, q.level, s⟩) hs]; omega)]
  · rw [if_neg (by omega)]
    have : j = 0 ∨ j = 1 ∨ j = 2 := by omega
    rcases this with rfl | rfl | rfl <;> rfl
/-- What panic(wrong) leaves. -/
def wrongV (er ea : Int) : List PanicEntry := [{ v := .iface 163 (.agg #[.int .i64 er, .int .i64 ea]), recovered := false }]
def ReadPost (w : World) (b : List UInt8) (e : Ending) (w' : World) : Prop :=
  Keep noBlk w w' ∧ if readB b then ∃ v, e = .returned (.agg (ptCs v (ptOf b)).toArray) ∧ w'.ownsRow w.heap.size 70 2 v (ptOf b).addrs.length (adCells (ptOf b).addrs)
    else if b.length = 47 then e = .panicked (wrongV 2 0) else e = .panicked (wrongV 4 (min b.length 47))
theorem rd_byte {w : World} {v : Value} {l : List UInt8} {n : Nat} (h : Rd w 1 v n (l.map vb)) (hn : l.length = n) {k : Nat} {x : UInt8} (hk : l[k]? = some x) : ∃ g o cap, v = .slice (some ⟨g, o, none⟩) n cap ∧ w.cell? ⟨g, o + k, none⟩ = some (.int .u8 (x.toNat : Int)) := by
  obtain ⟨h0, a, cap, rfl, h1, h2, h3, h4⟩ := h
  have hlt := (List.getElem?_eq_some_iff.1 hk).1
  obtain ⟨g, o, rfl, hc⟩ := h4 (by rw [List.length_map]; omega)
  exact ⟨g, o, cap, rfl, hc k _ (by rw [List.getElem?_map, hk]; rfl)⟩
theorem buildFault0 (w : World) (x : Int) : (Instr.build 115 #[(0, .int .i64 x)]).run Tryz.prog w = .ok (.agg #[.int .i64 x, .int .i64 0]) w := by kernel_rfl
theorem buildFault2 (w : World) (x y : Int) : (Instr.build 115 #[(0, .int .i64 x), (1, .int .i64 y)]).run Tryz.prog w = .ok (.agg #[.int .i64 x, .int .i64 y]) w := by kernel_rfl
theorem buildWrong (w : World) (x y : Int) : (Instr.build 163 #[(0, .agg #[.int .i64 x, .int .i64 y])]).run Tryz.prog w = .ok (.agg #[.int .i64 x, .int .i64 y]) w := by kernel_rfl

set_option maxHeartbeats 4000000 in
theorem read_len (w : World) (bv : Value) (b : List UInt8) (hr : Rd w 1 bv b.length (b.map vb)) (hl : b.length ≠ 47) : Calls Tryz.prog 125 #[bv] w (ReadPost w b) := by
  obtain ⟨oa, ca, rfl, -, hmm⟩ := hr.form
  have hmx : b.length ≤ maxLen := by obtain ⟨_, a', c', h1, h2, h3, -⟩ := hr; omega
  unfold maxLen at hmx
  have hB : readB b = false := by unfold readB; rw [decide_eq_false hl]; rfl
  obtain ⟨n, hn⟩ : ∃ n, b.length = n := ⟨_, rfl⟩
  have HPO : Hid (∀ w' e, Keep noBlk w w' → e = .panicked (wrongV 4 ((min n 47 : Nat) : Int)) → ReadPost w b e w') := Lib.hid (fun w' e k he => by unfold ReadPost; rw [hB, if_neg (by decide), if_neg hl]; exact ⟨k, by rw [he, hn, show min (n : Int) 47 = ((min n 47 : Nat) : Int) by omega]⟩)
  have hz := zeroPtV
  obtain ⟨zc, hzc⟩ : ∃ x, ptCs (.slice none 0 0) zPt = x := ⟨_, rfl⟩
  rw [hzc] at hz
  have hne : ((n : Int) != 47) = true := by simp; omega
  have hmin : min (n : Int) 47 = ((min n 47 : Nat) : Int) := by omega
  have hb1 := fun w => buildFault2 w 4 (min (n : Int) 47)
  have hb2 := fun w => buildWrong w 4 (min (n : Int) 47)
  rw [hn] at hmx ⊢
  clear hr hl hB hn hzc hmm
  go_enter Tryz.func125, Tryz.ntmps125
  go_wp2_with (first
    | ((with_reducible show wpList _ _ _ (⟨some 2, .alloc 34, _, _, _, _⟩ :: _) _ _); refine wpList_alloc_at rfl 34 rfl _ hz zc.toArray rfl ?_))
  exact ⟨rfl, HPO.out _ _ ((Keep.refl _ _).alloc _) rfl⟩

set_option maxHeartbeats 4000000 in
theorem equalB_any (w : World) (v v2 : Value) (l m : List UInt8) (hl : Rd w 1 v l.length (l.map vb)) (hm : Rd w 1 v2 m.length (m.map vb)) : Calls Tryz.prog 134 #[v, v2] w (TherePost w (decide (l = m))) := by
  obtain ⟨la, lc, rfl, -, -⟩ := hl.form
  obtain ⟨ma, mc, rfl, -, -⟩ := hm.form
  have hlx : l.length ≤ maxLen := by obtain ⟨_, a', c', h1, h2, h3, -⟩ := hl; omega
  unfold maxLen at hlx
  obtain ⟨bb, hbb⟩ : ∃ b, decide (l = m) = b := ⟨_, rfl⟩
  have HBB := Lib.hid hbb
  rw [hbb]
  clear hbb
  obtain ⟨n, hn⟩ : ∃ n, l.length = n := ⟨_, rfl⟩
  obtain ⟨q, hq⟩ : ∃ n, m.length = n := ⟨_, rfl⟩
  have HL := Lib.hid hl; have HM := Lib.hid hm; have HN := Lib.hid hn; have HQ := Lib.hid hq
  rw [hn] at HL hlx ⊢
  rw [hq] at HM ⊢
  clear hl hm hn hq
  by_cases hne : n = q
  · subst hne
    go_enter Tryz.func134, Tryz.ntmps134
    go_wp2_with fail
    go_loopw [13] (fun t wr => ∃ k : Nat, k ≤ n ∧ t = .int .i64 k ∧ Hid (l.take k = m.take k) ∧ Hid (Keep noBlk w wr)) (fun t _ => n - (intOf t).toNat)
    case atStart => exact ⟨0, Nat.zero_le _, rfl, Lib.hid (by simp), Lib.hid (Keep.refl _ _)⟩
    case round =>
    obtain ⟨k, hk, rfl, HT, HK⟩ := hrel
    by_cases hlt : k < n
    · have hki : (k : Int) < (n : Int) := by omega
      have hk0 : (0 : Int) ≤ (k : Int) := by omega
      obtain ⟨x, hx⟩ : ∃ x, l[k]? = some x := ⟨l[k]'(by rw [HN.out]; exact hlt), List.getElem?_eq_getElem _⟩
      obtain ⟨y, hy⟩ : ∃ x, m[k]? = some x := ⟨m[k]'(by rw [HQ.out]; exact hlt), List.getElem?_eq_getElem _⟩
      have hr := HL.out.keep HK.out fun _ _ => id
      obtain ⟨p, o, cap, hv, hc⟩ := rd_byte hr (by rw [HN.out]) hx
      have e1 : la = some ⟨p, o, none⟩ := by cases hv; rfl
      subst e1
      have hr2 := HM.out.keep HK.out fun _ _ => id
      obtain ⟨p2, o2, cap2, hv2, hc2⟩ := rd_byte hr2 (by rw [HQ.out]) hy
      have e1 : ma = some ⟨p2, o2, none⟩ := by cases hv2; rfl
      subst e1
      have HX := Lib.hid hx; have HY := Lib.hid hy
      obtain ⟨bi, hbi⟩ : ∃ b, ((x.toNat : Int) != (y.toNat : Int)) = b := ⟨_, rfl⟩
      have HBI := Lib.hid hbi
      clear hr hr2 hv hv2 hx hy
      cases bi
      · have e : x = y := by
          have h := HBI.out
          simp only [bne_eq_false_iff_eq] at h
          exact UInt8.toNat_inj.1 (by omega)
        have HTE : Hid (l.take (k + 1) = m.take (k + 1)) := Lib.hid (by rw [List.take_add_one, List.take_add_one, HT.out, HX.out, HY.out, e])
        clear e
        go_wp2_with fail
        go_quiet (fail)
        go_wp2_with fail
        have HK2 := Lib.hid (HK.out.drewN nq)
        go_roundw
        case rel => exact ⟨k + 1, by omega, by go_num, HTE, HK2⟩
        case measure => simp [intOf]; omega
      · have hbf : bb = false := by
          rw [← HBB.out]
          refine decide_eq_false fun e => ?_
          have h1 := HX.out
          rw [e, HY.out] at h1
          cases h1
          have := HBI.out
          simp at this
        subst hbf
        go_wp2_with fail
        go_quiet (fail)
        go_wp2_with fail
        go_ret
        exact ⟨rfl, HK.out.drewN nq⟩
    · obtain rfl : n = k := by omega
      have hbt : bb = true := by
        rw [← HBB.out]
        refine decide_eq_true ?_
        have h := HT.out
        rwa [List.take_of_length_le (by rw [HN.out]; exact Nat.le_refl _), List.take_of_length_le (by rw [HQ.out]; exact Nat.le_refl _)] at h
      subst hbt
      go_wp2_with fail
      go_ret
      exact ⟨rfl, HK.out⟩
  · have hbf : bb = false := by
      rw [← HBB.out]
      exact decide_eq_false fun e => hne (by rw [← HN.out, ← HQ.out, e])
    subst hbf
    have hnei : ((n : Int) != (q : Int)) = true := by simp; omega
    go_enter Tryz.func134, Tryz.ntmps134
    go_wp2_with fail
    go_ret
    exact ⟨rfl, Keep.refl _ _⟩

set_option maxHeartbeats 16000000 in
theorem read_main (w : World) (bv : Value) (b : List UInt8) (hr : Rd w 1 bv b.length (b.map vb)) (hl : b.length = 47) : Calls Tryz.prog 125 #[bv] w (ReadPost w b) := by
  obtain ⟨g, o, c, rfl, hcells⟩ : ∃ g o c, bv = .slice (some ⟨g, o, none⟩) 47 c ∧ w.rangeAt g o (b.map vb) := by
    obtain ⟨h0, a, cap, rfl, h2, h3, h4, h5⟩ := hr
    obtain ⟨g, o, rfl, hc⟩ := h5 (by simp; omega)
    exact ⟨g, o, cap, by rw [hl], hc⟩
  have hc47 : 47 ≤ c ∧ c ≤ 9223372036854775807 := by
    obtain ⟨_, a', c', h1, h2, h3, -⟩ := hr
    unfold maxLen at h3
    injection h1 with e1 e2 e3
    omega
  have HL := Lib.hid hl
  have HRG := Lib.hid (fun wx (k : Keep noBlk w wx) (off : Nat) => (show wx.rangeAt g (o + off) ((b.drop off).map vb) from fun j v hj => by
    rw [List.map_drop, List.getElem?_drop] at hj
    rw [Nat.add_assoc]
    exact (k.rangeAt hcells) (off + j) v hj))
  have HRB := Lib.hid (fun wx (k : Keep noBlk w wx) => hr.keep k fun _ _ => id)
  rw [hl] at HRB
  have hz := zeroPtV
  obtain ⟨zc, hzc⟩ : ∃ x, ptCs (.slice none 0 0) zPt = x := ⟨_, rfl⟩
  have hzl : zc.length = 35 := by rw [← hzc]; rfl
  have HZ := Lib.hid hzc
  rw [hzc] at hz
  obtain ⟨wa, hwa, ka, ha, sa⟩ := alloc_facts w zc.toArray 34
  obtain ⟨wb, hwb, kb, hb, sb⟩ := alloc_facts wa #[.slice (some ⟨g, o, none⟩) 47 c] 185
  obtain ⟨wc, hwc, kc, hc, sc⟩ := alloc_facts wb zc.toArray 34
  obtain ⟨rb, hrb⟩ : ∃ x, w.heap.size = x := ⟨_, rfl⟩
  obtain ⟨cb, hcb⟩ : ∃ x, wa.heap.size = x := ⟨_, rfl⟩
  obtain ⟨pb, hpb⟩ : ∃ x, wb.heap.size = x := ⟨_, rfl⟩
  obtain ⟨B, hB⟩ : ∃ x, wc.heap.size = x := ⟨_, rfl⟩
  rw [hrb] at ha
  rw [hcb] at hb
  rw [hpb] at hc
  have HW0 : Hid (RdW w wc rb cb pb g o c B 0 0 (.slice none 0 0) zPt) := Lib.hid ⟨by rw [HZ.out]; exact kc.blk (kb.blk ha id) id, kc.blk hb id, by rw [HZ.out]; exact hc, World.ownsRow_nil _ _ _ _, (ka.trans kb).trans kc, by omega, by omega⟩
  have HRBE := Lib.hid hrb; have HBE := Lib.hid hB
  clear hr hcells ha hb hc sa sb sc ka kb kc hl hzc
  go_enter Tryz.func125, Tryz.ntmps125
  go_wp2_with (first
    | ((with_reducible show wpList _ _ _ (⟨some 2, .alloc 34, _, _, _, _⟩ :: _) _ _); refine wpList_alloc_at rfl 34 rfl _ hz zc.toArray rfl ?_; rw [hwa, hrb])
    | ((with_reducible show wpList _ _ _ (⟨some 4, .alloc 34, _, _, _, _⟩ :: _) _ _); refine wpList_alloc_at rfl 34 rfl _ hz zc.toArray rfl ?_; rw [hwc, hpb]))
  refine (cnum_any _ cb g (o + (0)) (47 - (0)) (c - (0)) 1 (b.drop (0)) HW0.out.cur (HRG.out _ HW0.out.keep _) (by rw [List.length_drop, HL.out]) (by omega) (by omega) (by omega) (by omega) (by omega)).mono ?_
  rintro e w1 ⟨rfl, hcur, hkc⟩
  have HW1 := Lib.hid (HW0.out.num hcur hkc)
  clear hcur hkc
  obtain ⟨mn, hmn⟩ : ∃ x, beN (b.take 1) = x := ⟨_, rfl⟩
  have hmnb : mn < 256 := by rw [← hmn]; exact beN_small _ 1 (by simp; omega)
  have HMN := Lib.hid hmn
  rw [List.drop_zero, hmn]
  clear hmn HW0 hwa hwb hwc hrb hcb hpb hB
  go_wp2_with fail
  go_loopw [24] (fun i wr => ∃ (k ql : Nat) (pa : Option Addr) (pc : Nat), k ≤ 3 ∧ ql ≤ k ∧ i = .int .i64 k ∧ Hid ((adsOf b k).length = ql) ∧ Hid (RdW w wr rb cb pb g o c B (1 + 3 * k) ql (.slice pa ql pc) ⟨adsOf b k, 0, 0, zeros32⟩)) (fun i _ => 3 - (intOf i).toNat)
  case atStart => exact ⟨0, 0, none, 0, by omega, by omega, rfl, Lib.hid (by simp [adsOf]), Lib.hid (by
    have h := HW1.out
    have e : adsOf b 0 = [] := by simp [adsOf]
    rw [e]
    exact h)⟩
  case round =>
  clear HW1
  obtain ⟨k, ql, pa, pcp, hk, hqk, rfl, HQL, HW⟩ := hrel
  by_cases hlt : k < 3
  · have hki : (k : Int) < 3 := by omega
    have hk0 : (0 : Int) ≤ (k : Int) := by omega
    have had := adOf_ok b k
    obtain ⟨d, hd⟩ : ∃ x, beN ((b.drop (1 + 3 * k)).take 1) = x := ⟨_, rfl⟩
    obtain ⟨s, hs⟩ : ∃ x, beN ((b.drop (1 + 3 * k + 1)).take 2) = x := ⟨_, rfl⟩
    have HAD : Hid (adOf b k = ⟨(d : Int), (s : Int)⟩) := Lib.hid (by unfold adOf; rw [hd, hs])
    have HD := Lib.hid hd; have HS := Lib.hid hs
    have hbe := buildAd (d : Int) (s : Int)
    clear hd hs had
    go_wp2_with fail
    refine (cnum_any _ cb g (o + (1 + 3 * k)) (47 - (1 + 3 * k)) (c - (1 + 3 * k)) 1 (b.drop (1 + 3 * k)) HW.out.cur (HRG.out _ HW.out.keep _) (by rw [List.length_drop, HL.out]) (by omega) (by omega) (by omega) (by omega) (by omega)).mono ?_
    rintro e w2 ⟨rfl, hcur, hkc⟩
    have HW2 := Lib.hid (HW.out.num hcur hkc)
    clear hcur hkc
    rw [HD.out]
    go_wp2_with fail
    refine (cnum_any _ cb g (o + (1 + 3 * k + 1)) (47 - (1 + 3 * k + 1)) (c - (1 + 3 * k + 1)) 2 (b.drop (1 + 3 * k + 1)) HW2.out.cur (HRG.out _ HW2.out.keep _) (by rw [List.length_drop, HL.out]) (by omega) (by omega) (by omega) (by omega) (by omega)).mono ?_
    rintro e w3 ⟨rfl, hcur, hkc⟩
    have HW3 := Lib.hid (HW2.out.num hcur hkc)
    clear hcur hkc
    rw [HS.out]
    clear HW HW2
    obtain ⟨w4, hw4, hk4, hb4, hs4⟩ := alloc_facts w3 #[.int .i64 0, .int .i64 0] 70
    obtain ⟨ab, hab⟩ : ∃ x, w3.heap.size = x := ⟨_, rfl⟩
    rw [hab] at hb4
    have HB4 := Lib.hid hb4
    have HW4 := Lib.hid (HW3.out.same hk4)
    have HABW : Hid (w.heap.size ≤ ab ∧ pb < ab ∧ ∀ i, (Value.slice pa ql pcp).ownBlock = some i → i < ab) := Lib.hid ⟨by rw [← hab]; exact HW3.out.keep.size, by rw [← hab]; exact lt_of_block HW3.out.pt, fun i hi => by rw [← hab]; exact (HW3.out.row.lt i hi).2⟩
    clear hk4 hb4 hs4
    by_cases hkm : k < mn
    · have hmi : (k : Int) < (mn : Int) := by omega
      have hmd : decide ((k : Int) < (mn : Int)) = true := decide_eq_true hmi
      go_wp2_with (first
        | ((with_reducible show wpList _ _ _ (⟨some 7, .alloc 70, _, _, _, _⟩ :: _) _ _); refine wpList_alloc_at rfl 70 rfl zeroAd zeroAddr #[.int .i64 0, .int .i64 0] rfl ?_; rw [hw4, hab])
        | ((with_reducible show wpList _ _ _ (⟨none, .store 70 (.tmp 7) (.tmp 31), _, _, _, _⟩ :: _) _ _); refine wpList_store_agg rfl 70 (.tmp 7) (.tmp 31) rfl ab 0 (adCs ⟨(d : Int), (s : Int)⟩) rfl rfl #[.int .i64 0, .int .i64 0] 70 HB4.out (Nat.le_refl _) sizeAd (oneCell_ad _) ?_
           intro w5 hb5 hk5
           rw [spl_whole _ _ (by rfl)] at hb5
           have HAB := Lib.hid hb5
           have HW5 : Hid (RdW w w5 rb cb pb g o c B (1 + 3 * k + 1 + 2) ql (.slice pa ql pcp) ⟨adsOf b k, 0, 0, zeros32⟩) := Lib.hid (by
             have h := HW4.out
             obtain ⟨o1, o2, o3, o4⟩ := h.ord
             have h7 := HABW.out
             have hne : ∀ i, i < ab → ¬ i = ab := fun i hi => by omega
             exact ⟨hk5.blk h.res (hne _ (by omega)), hk5.blk h.cur (hne _ (by omega)), hk5.blk h.pt (hne _ (by omega)), hk5.owns h.row (fun i hi e => by have := h7.2.2 i hi; omega), h.keep.trans' hk5 (U := noBlk) (fun _ _ h => h) (fun i hi e => by omega), h.ord, Nat.le_trans h.sz hk5.size⟩)
           clear hb5 hk5
           have a5 : w5.cell? ⟨pb, 0, none⟩ = some (.slice pa ql pcp) := blk_cell HW5.out.pt rfl
           obtain ⟨w6, hw6, hk6, hb6, hs6⟩ := alloc_facts w5 (adCs ⟨(d : Int), (s : Int)⟩).toArray 70
           obtain ⟨bx, hbx⟩ : ∃ x, w5.heap.size = x := ⟨_, rfl⟩
           rw [hbx] at hb6
           have HRN : Hid (Rd w6 2 (.slice (some ⟨bx, 0, none⟩) 1 1) 1 (adCs ⟨(d : Int), (s : Int)⟩)) := Lib.hid (rd_blk (n := 1) (size := 2) (vs := adCs ⟨(d : Int), (s : Int)⟩) hb6 rfl (by unfold maxLen; omega))
           have HW6 := Lib.hid (HW5.out.same hk6)
           have hsz6 : B ≤ w6.heap.size := HW6.out.sz
           clear hk6 hb6 hs6)
        | ((with_reducible show wpList _ _ _ (⟨_, .load 70 (.tmp 7), _, _, _, _⟩ :: _) _ _); refine wpList_load_mid rfl 70 (.tmp 7) rfl ab 0 rfl (adCs ⟨(d : Int), (s : Int)⟩) _ (rangeAt_whole HAB.out) adUnder rfl sizeAd ?_)
        | ((with_reducible show wpList _ _ _ (⟨_, .buildSlice _ 1 _, _, _, _, _⟩ :: _) _ _); refine wpList_build_one rfl 30 70 (.tmp 37) rfl Tryz.underlying30 infoAd (by decide) (adCs ⟨(d : Int), (s : Int)⟩) rfl (by decide) rfl ?_; rw [hw6, hbx])
        | (at_builtin; refine wpList_append_rd rfl (.tmp 36) (.tmp 38) 30 rfl B 70 zeroAd 2 16 Tryz.underlying30 infoAd rfl (by decide) (.slice pa ql pcp) ql (adCells (adsOf b k)) rfl HW6.out.row (.slice (some ⟨bx, 0, none⟩) 1 1) 1 (adCs ⟨(d : Int), (s : Int)⟩) rfl HRN.out (oneCell_ad _) (by unfold maxLen; omega) (by omega) hsz6 ?_
           intro v' w7 ho5 hk5 hn5 hb5
           obtain ⟨va, vc, rfl, -, -⟩ := (Rd.of_owns ho5).form
           have hp7 := hk5.blk HW6.out.pt (fun e => by have := owns_base HW6.out.row e; have := HW6.out.ord; omega)
           have hcc7 : w7.cell? ⟨pb, 0, none⟩ = some (.slice pa ql pcp) := blk_cell hp7 rfl
           have hcf7 := blk_free hp7 0
           have HP7 := Lib.hid hp7; have HK7 := Lib.hid hk5
           have HO7 : Hid (w7.ownsRow B 70 2 (.slice va (ql + 1) vc) (ql + 1) (adCells (adsOf b (k + 1)))) := Lib.hid (by
             rw [adsOf_succ, if_pos (by rw [HMN.out]; exact hkm), HAD.out, adCells_append, adCells_one]
             exact ho5)
           clear ho5 hk5 hn5 hb5 hp7))
      have HW8 : Hid (RdW w (w7.setCell ⟨pb, 0, none⟩ (.slice va (ql + 1) vc)) rb cb pb g o c B (1 + 3 * (k + 1)) (ql + 1) (.slice va (ql + 1) vc) ⟨adsOf b (k + 1), 0, 0, zeros32⟩) := Lib.hid (by
        have e : 1 + 3 * (k + 1) = 1 + 3 * k + 1 + 2 := by omega
        have hkk : Keep (fun i => i = pb) w7 (w7.setCell ⟨pb, 0, none⟩ (.slice va (ql + 1) vc)) := (Keep.refl (fun i => i = pb) w7).setCell (p := ⟨pb, 0, none⟩) (fun _ => rfl) _
        rw [e]
        refine HW6.out.put ?_ (hkk.owns HO7.out (fun i hi e => by have := owns_base HO7.out hi; have := HW6.out.ord; omega)) ((HK7.out.mono (fun _ _ h => .inr h)).trans' hkk (fun _ _ h => h) (fun i hi e => .inl e))
        rw [set_blk HP7.out, ptCs_set0 _ _ _ (adsOf b (k + 1))])
      have HQ8 : Hid ((adsOf b (k + 1)).length = ql + 1) := Lib.hid (by rw [adsOf_succ, if_pos (by rw [HMN.out]; exact hkm), List.length_append, HQL.out]; rfl)
      go_roundw
      case rel => exact ⟨k + 1, ql + 1, va, vc, by omega, by omega, by go_num, HQ8, HW8⟩
      case measure => simp [intOf]; omega
    · have hmi : ¬ (k : Int) < (mn : Int) := by omega
      have hmd : decide ((k : Int) < (mn : Int)) = false := decide_eq_false hmi
      go_wp2_with (first
        | ((with_reducible show wpList _ _ _ (⟨some 7, .alloc 70, _, _, _, _⟩ :: _) _ _); refine wpList_alloc_at rfl 70 rfl zeroAd zeroAddr #[.int .i64 0, .int .i64 0] rfl ?_; rw [hw4, hab])
        | ((with_reducible show wpList _ _ _ (⟨none, .store 70 (.tmp 7) (.tmp 31), _, _, _, _⟩ :: _) _ _); refine wpList_store_agg rfl 70 (.tmp 7) (.tmp 31) rfl ab 0 (adCs ⟨(d : Int), (s : Int)⟩) rfl rfl #[.int .i64 0, .int .i64 0] 70 HB4.out (Nat.le_refl _) sizeAd (oneCell_ad _) ?_
           intro w5 hb5 hk5
           rw [spl_whole _ _ (by rfl)] at hb5
           have HAB := Lib.hid hb5
           have HW5 : Hid (RdW w w5 rb cb pb g o c B (1 + 3 * k + 1 + 2) ql (.slice pa ql pcp) ⟨adsOf b k, 0, 0, zeros32⟩) := Lib.hid (by
             have h := HW4.out
             obtain ⟨o1, o2, o3, o4⟩ := h.ord
             have h7 := HABW.out
             have hne : ∀ i, i < ab → ¬ i = ab := fun i hi => by omega
             exact ⟨hk5.blk h.res (hne _ (by omega)), hk5.blk h.cur (hne _ (by omega)), hk5.blk h.pt (hne _ (by omega)), hk5.owns h.row (fun i hi e => by have := h7.2.2 i hi; omega), h.keep.trans' hk5 (U := noBlk) (fun _ _ h => h) (fun i hi e => by omega), h.ord, Nat.le_trans h.sz hk5.size⟩)
           clear hb5 hk5
           skip))
      have HW8 : Hid (RdW w w5 rb cb pb g o c B (1 + 3 * (k + 1)) ql (.slice pa ql pcp) ⟨adsOf b (k + 1), 0, 0, zeros32⟩) := Lib.hid (by
        have e : 1 + 3 * (k + 1) = 1 + 3 * k + 1 + 2 := by omega
        have e2 : adsOf b (k + 1) = adsOf b k := by rw [adsOf_succ, if_neg (by rw [HMN.out]; exact hkm), List.append_nil]
        rw [e, e2]
        exact HW5.out)
      have HQ8 : Hid ((adsOf b (k + 1)).length = ql) := Lib.hid (by rw [adsOf_succ, if_neg (by rw [HMN.out]; exact hkm), List.append_nil]; exact HQL.out)
      go_roundw
      case rel => exact ⟨k + 1, ql, pa, pcp, by omega, by omega, by go_num, HQ8, HW8⟩
      case measure => simp [intOf]; omega
  · obtain rfl : k = 3 := by omega
    have HW := Lib.hid (show RdW w wr rb cb pb g o c B 10 ql (.slice pa ql pcp) ⟨adsOf b 3, 0, 0, zeros32⟩ from HW.out)
    obtain ⟨bi, hbi⟩ : ∃ x, beN ((b.drop 10).take 4) = x := ⟨_, rfl⟩
    obtain ⟨le, hle⟩ : ∃ x, beN ((b.drop (10 + 4)).take 1) = x := ⟨_, rfl⟩
    have HBI := Lib.hid hbi; have HLE := Lib.hid hle
    have HSB : Hid ((b.drop 15).length = 32) := Lib.hid (by rw [List.length_drop, HL.out])
    clear hbi hle
    go_wp2_with fail
    refine (cnum_any _ cb g (o + (10)) (47 - (10)) (c - (10)) 4 (b.drop (10)) HW.out.cur (HRG.out _ HW.out.keep _) (by rw [List.length_drop, HL.out]) (by omega) (by omega) (by omega) (by omega) (by omega)).mono ?_
    rintro e w2 ⟨rfl, hcur, hkc⟩
    have HW2 := Lib.hid (HW.out.num hcur hkc)
    clear hcur hkc
    rw [HBI.out]
    have k0 := blk_cell HW2.out.pt (i := 1) rfl
    have kf := blk_free HW2.out.pt 1
    obtain ⟨w3, hw1⟩ : ∃ x, w2.setCell ⟨pb, 1, none⟩ (.int .i64 (bi : Int)) = x := ⟨_, rfl⟩
    have HW3 : Hid (RdW w w3 rb cb pb g o c B (10 + 4) ql (.slice pa ql pcp) ⟨adsOf b 3, (bi : Int), 0, zeros32⟩) := Lib.hid (by
      have hkk : Keep (fun i => i = pb) w2 w3 := by rw [← hw1]; exact (Keep.refl (fun i => i = pb) w2).setCell (p := ⟨pb, 1, none⟩) (fun _ => rfl) _
      refine HW2.out.put ?_ (hkk.owns HW2.out.row (fun i hi e => by have := owns_base HW2.out.row hi; have := HW2.out.ord; omega)) (hkk.mono (fun _ _ h => .inl h))
      rw [← hw1, set_blk HW2.out.pt, ptCs_set1 _ _ (bi : Int)])
    clear HW
    go_wp2_with fail
    clear k0 kf hw1 HW2
    refine (cnum_any _ cb g (o + (10 + 4)) (47 - (10 + 4)) (c - (10 + 4)) 1 (b.drop (10 + 4)) HW3.out.cur (HRG.out _ HW3.out.keep _) (by rw [List.length_drop, HL.out]) (by omega) (by omega) (by omega) (by omega) (by omega)).mono ?_
    rintro e w4 ⟨rfl, hcur, hkc⟩
    have HW4 := Lib.hid (HW3.out.num hcur hkc)
    clear hcur hkc
    rw [HLE.out]
    have k0 := blk_cell HW4.out.pt (i := 2) rfl
    have kf := blk_free HW4.out.pt 2
    obtain ⟨w5, hw2⟩ : ∃ x, w4.setCell ⟨pb, 2, none⟩ (.int .i64 (le : Int)) = x := ⟨_, rfl⟩
    have HW5 : Hid (RdW w w5 rb cb pb g o c B (10 + 4 + 1) ql (.slice pa ql pcp) ⟨adsOf b 3, (bi : Int), (le : Int), zeros32⟩) := Lib.hid (by
      have hkk : Keep (fun i => i = pb) w4 w5 := by rw [← hw2]; exact (Keep.refl (fun i => i = pb) w4).setCell (p := ⟨pb, 2, none⟩) (fun _ => rfl) _
      refine HW4.out.put ?_ (hkk.owns HW4.out.row (fun i hi e => by have := owns_base HW4.out.row hi; have := HW4.out.ord; omega)) (hkk.mono (fun _ _ h => .inl h))
      rw [← hw2, set_blk HW4.out.pt, ptCs_set2 _ _ (le : Int)])
    go_wp2_with fail
    clear k0 kf hw2 HW4 HW3
    obtain ⟨S, hS0⟩ : ∃ S : World → Prop, S = fun w' => Keep (fun i => i = pb) w5 w' := ⟨_, rfl⟩
    have HSE := Lib.hid (show ∀ w', S w' → Keep (fun i => i = pb) w5 w' from fun w' h => by rw [hS0] at h; exact h)
    have HSI := Lib.hid (show ∀ w', Keep (fun i => i = pb) w5 w' → S w' from fun w' h => by rw [hS0]; exact h)
    have HW6 := Lib.hid (HW5.out.same (Keep.refl noBlk w5).drew)
    have hS : S w5.drew := by rw [hS0]; exact (Keep.refl _ _).drew
    have HCU := Lib.hid (fun w' (h : S w') => (blk_cell ((HSE.out w' h).blk HW5.out.cur (by have := HW5.out.ord; omega)) rfl : w'.cell? ⟨cb, 0, none⟩ = some (.slice (some ⟨g, o + (10 + 4 + 1), none⟩) (47 - (10 + 4 + 1)) (c - (10 + 4 + 1)))))
    refine wp_region_held (S := S) (by kernel_rfl) ?_
    change wpAnyH _ _ _ _ _ _ _ _ w5.drew
    generalize w5.drew = w6 at hS HW6 ⊢
    refine tkb 0 (.pointer (some ⟨pb, 3, none⟩)) rfl hS ?_
    simp only [Act.put, List.setIfInBounds_toArray, List.set_cons_zero, List.set_cons_succ, List.getElem_toArray, List.getElem_cons_zero]
    refine tkb 1 (.slice (some ⟨pb, 3, none⟩) 32 32) rfl hS ?_
    simp only [Act.put, List.setIfInBounds_toArray, List.set_cons_zero, List.set_cons_succ, List.getElem_toArray, List.getElem_cons_succ, List.getElem_cons_zero]
    refine tka 2 (.pointer (some ⟨cb, 0, none⟩)) rfl hS ?_
    simp only [Act.put, List.setIfInBounds_toArray, List.set_cons_zero, List.set_cons_succ, List.getElem_toArray, List.getElem_cons_succ, List.getElem_cons_zero]
    refine tkb 3 (.pointer (some ⟨cb, 0, none⟩)) rfl hS ?_
    simp only [Act.put, List.setIfInBounds_toArray, List.set_cons_zero, List.set_cons_succ, List.getElem_toArray, List.getElem_cons_succ, List.getElem_cons_zero]
    refine tkb 4 (.pointer (some ⟨cb, 0, none⟩)) rfl hS ?_
    simp only [Act.put, List.setIfInBounds_toArray, List.set_cons_zero, List.set_cons_succ, List.getElem_toArray, List.getElem_cons_succ, List.getElem_cons_zero]
    refine tkd 5 (.slice (some ⟨g, o + (10 + 4 + 1), none⟩) (47 - (10 + 4 + 1)) (c - (10 + 4 + 1))) rfl (.inl ⟨by rfl, fun w' hw' => by have c := HCU.out w' hw'; go_simp⟩) hS ?_
    simp only [Act.put, List.setIfInBounds_toArray, List.set_cons_zero, List.set_cons_succ, List.getElem_toArray, List.getElem_cons_succ, List.getElem_cons_zero]
    refine wpAnyH_one (k := 6) rfl (by kernel_rfl) ?_
    refine wpList_copy_rd rfl (.tmp 49) (.tmp 53) 51 51 rfl 5 Tryz.underlying51 sizeU8 pb 3 32 32 rfl _ 32 ((b.drop 15).map vb) rfl ⟨by rw [List.length_map, HSB.out], some ⟨g, o + 15, none⟩, c - 15, rfl, by omega, by unfold maxLen; omega, (by intro h; cases h), fun _ => ⟨g, o + 15, rfl, fun i u hu => HRG.out _ HW6.out.keep 15 i u hu⟩⟩ 32 rfl _ _ HW6.out.pt (by rw [List.size_toArray, ptCs_len (p := ⟨adsOf b 3, (bi : Int), (le : Int), zeros32⟩) rfl]; decide) (oneCell_vb _) ?_
    intro w7 hb7 hk7
    rw [List.take_of_length_le (by rw [List.length_map, HSB.out]; exact Nat.le_refl _), ptCs_spl _ _ _ rfl HSB.out] at hb7
    have HW7 : Hid (RdW w w7 rb cb pb g o c B (10 + 4 + 1) ql (.slice pa ql pcp) (ptOf b)) := Lib.hid (by
      have e : ptOf b = ⟨adsOf b 3, (bi : Int), (le : Int), b.drop 15⟩ := by unfold ptOf; rw [HBI.out, HLE.out]
      rw [e]
      exact HW6.out.put hb7 (hk7.owns HW6.out.row (fun i hi e => by have := owns_base HW6.out.row hi; have := HW6.out.ord; omega)) (hk7.mono (fun _ _ h => .inl h)))
    have hS7 : S w7 := HSI.out _ ((HSE.out _ hS).trans hk7)
    clear hb7 hk7 hS hS0
    refine wpList_nil ?_
    refine ⟨hS7, ?_⟩
    refine wpAnyH_done (by kernel_rfl) ?_ _
    clear hS7 HSE HSI HCU HW6 HW5
    have HPV : Hid (PtV w7 (.slice pa ql pcp) (ptOf b)) := Lib.hid ⟨by
      have h := Rd.of_owns HW7.out.row
      have e : (ptOf b).addrs.length = ql := HQL.out
      rw [e]
      exact h, adsOf_ok b 3, HSB.out⟩
    have HRO := Lib.hid (rangeAt_whole HW7.out.pt)
    obtain ⟨pc, hpc⟩ : ∃ x, ptCs (.slice pa ql pcp) (ptOf b) = x := ⟨_, rfl⟩
    have hpl : pc.length = 35 := by rw [← hpc]; exact ptCs_len HSB.out
    have HPC := Lib.hid hpc
    have HBY := Lib.hid (bytes_any w7 _ _ HPV.out)
    rw [hpc] at HRO HBY
    obtain ⟨t, ht⟩ : ∃ t, (ptOf b).may = t := ⟨_, rfl⟩
    have HT := Lib.hid ht
    clear hpc ht
    go_wp2_with (first
      | ((with_reducible show wpList _ _ _ (⟨_, .load 34 (.tmp 4), _, _, _, _⟩ :: _) _ _); refine wpList_load_mid rfl 34 (.tmp 4) rfl (pb) 0 rfl pc _ HRO.out ptUnder rfl (sizePtL hpl) ?_))
    refine HBY.out.mono ?_
    rintro e w8 ⟨v8, rfl, ho8, hk8⟩
    have HW8 := Lib.hid (HW7.out.same hk8)
    have hrx := Rd.of_owns ho8
    obtain ⟨xa, xc, rfl, -, -⟩ := hrx.form
    have HRX := Lib.hid hrx
    rw [HT.out]
    clear ho8 hk8 hrx HBY HRO HW7
    cases t
    · have HPO : Hid (∀ w' e, Keep noBlk w w' → e = .panicked (wrongV 2 0) → ReadPost w b e w') := Lib.hid (fun w' e k he => by
        unfold ReadPost
        rw [show readB b = false by unfold readB; rw [HT.out]; simp, if_neg (by decide), if_pos HL.out]
        exact ⟨k, he⟩)
      have hb1 := fun w => buildFault0 w 2
      have hb2 := fun w => buildWrong w 2 0
      go_wp2_with fail
      exact ⟨rfl, HPO.out _ _ HW8.out.keep rfl⟩
    · obtain ⟨u, hu⟩ : ∃ u, decide (ptB (ptOf b) = b) = u := ⟨_, rfl⟩
      have HU := Lib.hid hu
      have HEQ := equalB_any w8 _ (.slice (some ⟨g, o, none⟩) 47 c) (ptB (ptOf b)) b HRX.out (by rw [HL.out]; exact HRB.out _ HW8.out.keep)
      rw [hu] at HEQ
      have HEQ := Lib.hid HEQ
      clear hu
      go_wp2_with fail
      refine HEQ.out.mono ?_
      rintro e w9 ⟨rfl, hk9⟩
      have HW9 := Lib.hid (HW8.out.same hk9)
      have HRO := Lib.hid (rangeAt_whole HW9.out.pt)
      rw [HPC.out] at HRO
      clear hk9 HEQ HW8
      cases u
      · have HPO : Hid (∀ w' e, Keep noBlk w w' → e = .panicked (wrongV 2 0) → ReadPost w b e w') := Lib.hid (fun w' e k he => by
          unfold ReadPost
          rw [show readB b = false by unfold readB; rw [HU.out]; simp, if_neg (by decide), if_pos HL.out]
          exact ⟨k, he⟩)
        have hb1 := fun w => buildFault0 w 2
        have hb2 := fun w => buildWrong w 2 0
        go_wp2_with fail
        exact ⟨rfl, HPO.out _ _ HW9.out.keep rfl⟩
      · have hrs := HW9.out.res
        rw [HZ.out] at hrs
        have HRS := Lib.hid hrs
        have hpo : ∀ x ∈ pc, x.oneCell' = true := by
          intro x hx
          rw [← HPC.out] at hx
          unfold ptCs at hx
          simp only [List.mem_cons] at hx
          rcases hx with rfl | rfl | rfl | hx
          · rfl
          · rfl
          · rfl
          · exact oneCell_vb _ x hx
        clear hrs
        go_wp2_with (first
          | ((with_reducible show wpList _ _ _ (⟨_, .load 34 (.tmp 4), _, _, _, _⟩ :: _) _ _); refine wpList_load_mid rfl 34 (.tmp 4) rfl (pb) 0 rfl pc _ HRO.out ptUnder rfl (sizePtL hpl) ?_)
          | ((with_reducible show wpList _ _ _ (⟨none, .store 34 (.tmp 2) (.tmp 71), _, _, _, _⟩ :: _) _ _); refine wpList_store_agg rfl 34 (.tmp 2) (.tmp 71) rfl rb 0 pc rfl rfl zc.toArray 34 HRS.out (by rw [hpl, List.size_toArray, hzl]; exact Nat.le_refl _) (sizePtL hpl) hpo ?_; intro w10 hb10 hk10; have HB10 := Lib.hid hb10; have HK10 := Lib.hid hk10; clear hb10 hk10))
        refine bodyPost_ret (results_cell_row rfl _ _ rb _ _ _ _ rfl HB10.out ptUnder rfl (by rw [spl_size, List.size_toArray, hzl]; exact sizePt)) rfl ?_
        have hkk : Keep noBlk w w10 := HW9.out.keep.trans' HK10.out (fun _ _ h => h) (fun i hi e => by have := HW9.out.ord; omega)
        refine ⟨hkk, ?_⟩
        rw [if_pos (by unfold readB; rw [HL.out, HT.out, HU.out]; rfl)]
        refine ⟨_, by rw [spl_whole _ _ (by rw [hpl, List.size_toArray, hzl]), ← HPC.out], ?_⟩
        have e : (ptOf b).addrs.length = ql := HQL.out
        rw [e]
        exact ownsRow_mono (HK10.out.owns HW9.out.row (fun i hi e => by have := owns_base HW9.out.row hi; have := HW9.out.ord; omega)) (by have := HW9.out.ord; omega)

end Go.Proofs.YtaiicjhnhbkgmaaGreatDoor

/-
  pointer.Read: the pointer of bytes, or a fault.
  Conditions: those told.
-/
namespace Go.Proofs.YtaiicjhnhbkgmaaGreatDoor
open Go.RowKit Go.Maps Go.ChangeMaps
set_option maxRecDepth 100000
set_option linter.unusedVariables false

theorem zeroFlt (w : World) : (zeroValue 115).run Tryz.prog w = .ok (.agg #[.int .i64 0, .int .i64 0]) w := by kernel_rfl
theorem zeroWrong (w : World) : (zeroValue 163).run Tryz.prog w = .ok (.agg #[.int .i64 0, .int .i64 0]) w := by kernel_rfl
theorem sizeWrong : (Tryz.prog.info? 163).map (·.size) = some 2 := by kernel_rfl
set_option maxHeartbeats 1000000 in
theorem results_cells2 {P : Program} {fn : Func} {p q : Tmp} {ty uy : TypeId} (h : fn.results = #[.cell p ty, .cell q uy]) (tmps : Array Value) (w : World) (g g' : Nat) (t t' : TypeId) (cs cs' : Array Value) (fr fr' : Nat × Nat) (d d' : TypeDesc)
    (hp : tmps.getD p undef = .pointer (some ⟨g, 0, none⟩)) (hg : w.heap[g]? = some (.cells cs t fr)) (hu : P.underlying ty = some d) (hd : (match d with | .struct _ | .array _ _ => true | _ => false) = true) (hi : (P.info? ty).map (·.size) = some cs.size)
    (hp' : tmps.getD q undef = .pointer (some ⟨g', 0, none⟩)) (hg' : w.heap[g']? = some (.cells cs' t' fr')) (hu' : P.underlying uy = some d') (hd' : (match d' with | .struct _ | .array _ _ => true | _ => false) = true) (hi' : (P.info? uy).map (·.size) = some cs'.size) :
    (results fn tmps).run P w = .ok (.tuple #[.agg cs, .agg cs']) w := by
  have hq : tmps[p]?.getD undef = .pointer (some ⟨g, 0, none⟩) := by simpa using hp
  have hq' : tmps[q]?.getD undef = .pointer (some ⟨g', 0, none⟩) := by simpa using hp'
  simp [results, h, hq, hq', asAddr, run_loadVar_row w g t ty cs fr d hg hu hd hi, run_loadVar_row w g' t' uy cs' fr' d' hg' hu' hd' hi']
set_option maxHeartbeats 8000000 in
theorem pcatch_idle (A F : Nat) (w : World) :
    CallsD Tryz.prog 124 #[.pointer (some ⟨A, 0, none⟩), .pointer (some ⟨F, 0, none⟩)] .returning w fun e u' w' => e = .returned (.tuple #[]) ∧ u' = .returning ∧ w' = w := by
  refine callsD_of_wpS Tryz.func124 rfl fun c₀ cs hu => ?_
  apply wpS_seq
  apply wpS_region
  simp [wpOpsS, go_sem, recoverD, hu, Tryz.ntmps124, Exit.thenS]
  refine wpS_of_wp ?_
  go_wp2_with fail
  cases c₀
  simp_all [bodyPostS, results, Tryz.results124]
def PCaught (A F : Nat) (er ea : Int) (w : World) (e : Ending) (u' : FrameMode) (w' : World) : Prop :=
  e = .returned (.tuple #[]) ∧ u' = .panicking [{ v := .iface 163 (.agg #[.int .i64 er, .int .i64 ea]), recovered := true }] ∧
  w'.heap[A]? = some (.cells (ptCs (.slice none 0 0) zPt).toArray 34 (0, 0)) ∧ w'.heap[F]? = some (.cells #[.int .i64 er, .int .i64 ea] 115 (0, 0)) ∧ Keep (fun k => k = A ∨ k = F) w w'

set_option maxHeartbeats 4000000 in
theorem pcatch_stop (A F : Nat) (er ea : Int) (w : World) (hAF : A ≠ F) (csA : Array Value) (hA : w.heap[A]? = some (.cells csA 34 (0, 0))) (hlA : csA.size = 35) (hF : w.heap[F]? = some (.cells #[.int .i64 0, .int .i64 0] 115 (0, 0))) :
    CallsD Tryz.prog 124 #[.pointer (some ⟨A, 0, none⟩), .pointer (some ⟨F, 0, none⟩)] (.panicking (wrongV er ea)) w (PCaught A F er ea w) := by
  have hta : ∀ (w : World), Sem.run Tryz.prog (Instr.typeAssert (.iface 163 (.agg #[.int .i64 er, .int .i64 ea])) 20 163 true) w = .ok (.tuple #[.agg #[.int .i64 er, .int .i64 ea], .bool true]) w := fun w => by kernel_rfl
  have hltA := lt_of_block hA
  have hltF := lt_of_block hF
  have HA := Lib.hid hA; have HF := Lib.hid hF
  have hbz : ∀ w, (Instr.build 34 #[]).run Tryz.prog w = .ok (.agg (ptCs (.slice none 0 0) zPt).toArray) w := fun w => by kernel_rfl
  obtain ⟨zc, hzc⟩ : ∃ x, ptCs (.slice none 0 0) zPt = x := ⟨_, rfl⟩
  have hzl : zc.length = 35 := by rw [← hzc]; rfl
  have hzo : ∀ u ∈ zc, u.oneCell' = true := by
    rw [← hzc]
    intro x hx
    unfold ptCs at hx
    simp only [List.mem_cons] at hx
    rcases hx with rfl | rfl | rfl | hx
    · rfl
    · rfl
    · rfl
    · exact oneCell_vb _ x hx
  have HZ := Lib.hid hzc
  rw [hzc] at hbz
  have HBZ := Lib.hid hbz
  clear hA hF hzc
  refine callsD_of_wpS Tryz.func124 rfl fun c₀ cs hu => ?_
  simp only [Tryz.ntmps124, List.size_toArray, List.length_cons, List.length_nil, Nat.reduceAdd, Nat.reduceSub, Array.replicate_succ,
     Array.replicate_zero, List.push_toArray, List.append_toArray, List.nil_append, List.cons_append]
  apply wpS_seq
  apply wpS_region
  simp [wpOpsS, go_sem, recoverD, hu, wrongV, Exit.thenS]
  refine wpS_of_wp ?_
  obtain ⟨vs, hvs⟩ : ∃ vs : List Value, vs = [.int .i64 er, .int .i64 ea] := ⟨_, rfl⟩
  have hvl : vs.length = 2 := by rw [hvs]; rfl
  have hvo : ∀ u ∈ vs, u.oneCell' = true := by rw [hvs]; simp [Value.oneCell']
  have HVS := Lib.hid hvs
  have hta' : ∀ (w : World), Sem.run Tryz.prog (Instr.typeAssert (.iface 163 (.agg vs.toArray)) 20 163 true) w = .ok (.tuple #[.agg vs.toArray, .bool true]) w := by rw [hvs]; exact hta
  rw [show (#[Value.int .i64 er, .int .i64 ea] : Array Value) = vs.toArray by rw [hvs]]
  clear hvs hta hbz
  go_wp2_with (first
    | ((with_reducible show wpList _ _ _ (⟨some 3, .alloc 163, _, _, _, _⟩ :: _) _ _); refine wpList_alloc_at rfl 163 rfl _ zeroWrong #[.int .i64 0, .int .i64 0] rfl ?_)
    | ((with_reducible show wpList _ _ _ (⟨none, .store 163 (.tmp 3) (.tmp 11), _, _, _, _⟩ :: _) _ _); refine wpList_store_agg rfl 163 (.tmp 3) (.tmp 11) rfl w.heap.size 0 vs rfl rfl #[.int .i64 0, .int .i64 0] 163 (heap_alloc_new _ _) (by rw [hvl]; exact Nat.le_refl _) (by rw [hvl]; exact sizeWrong) hvo ?_
       intro w2 hb2 hk2
       rw [spl_whole _ _ (by rw [hvl]; rfl)] at hb2
       have HB2 := Lib.hid hb2
       have HK2 : Hid (Keep noBlk w w2) := Lib.hid (((Keep.refl noBlk w).alloc _).trans' hk2 (fun _ _ h => h) (fun i hi e => by omega))
       clear hb2 hk2))
  have HA2 := Lib.hid (HK2.out.blk HA.out id); have HF2 := Lib.hid (HK2.out.blk HF.out id)
  obtain ⟨S, hS0⟩ : ∃ S : World → Prop, S = fun w' => Keep (fun k => k = A ∨ k = F) w2 w' := ⟨_, rfl⟩
  have HSE := Lib.hid (show ∀ w', S w' → Keep (fun k => k = A ∨ k = F) w2 w' from fun w' h => by rw [hS0] at h; exact h)
  have HSI := Lib.hid (show ∀ w', Keep (fun k => k = A ∨ k = F) w2 w' → S w' from fun w' h => by rw [hS0]; exact h)
  have hS : S w2.drew := HSI.out _ (Keep.refl _ _).drew
  have hA3 := (Keep.refl noBlk w2).drew.blk HA2.out id
  have hF3 := (Keep.refl noBlk w2).drew.blk HF2.out id
  clear hS0
  refine wp_region_held (S := S) (by kernel_rfl) ?_
  change wpAnyH _ _ _ _ _ _ _ _ w2.drew
  generalize w2.drew = w3 at hS hA3 hF3 ⊢
  refine tkd 0 (.agg zc.toArray) rfl (.inl ⟨by rfl, fun w' _ => by go_simp; exact HZ.out⟩) hS ?_
  simp only [Act.put, List.setIfInBounds_toArray, List.set_cons_zero, List.set_cons_succ, List.getElem_toArray, List.getElem_cons_zero]
  refine tkb 1 (.pointer (some ⟨w.heap.size, 0, none⟩)) rfl hS ?_
  simp only [Act.put, List.setIfInBounds_toArray, List.set_cons_zero, List.set_cons_succ, List.getElem_toArray, List.getElem_cons_succ, List.getElem_cons_zero]
  refine tkd 2 (.agg vs.toArray) rfl (yieldsIf_load_mid (by rfl) 115 (.tmp 17) rfl w.heap.size 0 rfl vs _ (fun w' h => rangeAt_whole ((HSE.out w' h).blk HB2.out (by omega))) Tryz.underlying115 rfl (by rw [hvl]; exact sizeFault)) hS ?_
  simp only [Act.put, List.setIfInBounds_toArray, List.set_cons_zero, List.set_cons_succ, List.getElem_toArray, List.getElem_cons_succ, List.getElem_cons_zero]
  refine wpAnyH_one (k := 3) rfl (by kernel_rfl) ?_
  refine wpList_store_agg rfl 34 (.tmp 0) (.tmp 16) rfl A 0 zc rfl rfl csA 34 hA3 (by rw [hzl, hlA]; exact Nat.le_refl _) (sizePtL hzl) hzo ?_
  intro w4 hb4 hk4
  rw [spl_whole _ _ (by rw [hzl, hlA])] at hb4
  have hS4 : S w4 := HSI.out _ ((HSE.out _ hS).trans' hk4 (U := fun k => k = A ∨ k = F) (fun _ _ h => h) (fun i hi e => .inl e))
  have hF4 := hk4.blk hF3 (fun e => hAF e.symm)
  clear hS hA3 hF3 hk4
  refine wpList_nil ?_
  refine ⟨hS4, ?_⟩
  refine wpAnyH_one (k := 4) rfl (by kernel_rfl) ?_
  refine wpList_store_agg rfl 115 (.tmp 1) (.tmp 18) rfl F 0 vs rfl rfl #[.int .i64 0, .int .i64 0] 115 hF4 (by rw [hvl]; exact Nat.le_refl _) (by rw [hvl]; exact sizeFault) hvo ?_
  intro w5 hb5 hk5
  rw [spl_whole _ _ (by rw [hvl]; rfl)] at hb5
  have hS5 : S w5 := HSI.out _ ((HSE.out _ hS4).trans' hk5 (U := fun k => k = A ∨ k = F) (fun _ _ h => h) (fun i hi e => .inr e))
  have hA5 := hk5.blk hb4 hAF
  clear hS4 hb4 hF4 hk5
  refine wpList_nil ?_
  refine ⟨hS5, ?_⟩
  refine wpAnyH_done (by kernel_rfl) ?_ _
  have HK5 := Lib.hid (HSE.out _ hS5)
  clear hS5 HSE HSI
  go_wp2_with fail
  refine ⟨rfl, _, rfl, _, results_none rfl _ _ _, rfl, by rw [HVS.out], ?_, ?_, ?_⟩
  · rw [HZ.out]; exact hA5
  · rw [show (#[Value.int .i64 er, .int .i64 ea] : Array Value) = vs.toArray by rw [HVS.out]]; exact hb5
  · exact (HK2.out.mono (fun _ _ h => h.elim)).trans HK5.out

end Go.Proofs.YtaiicjhnhbkgmaaGreatDoor

/-
  pointer.Read: the pointer of bytes, or a fault.
  Conditions: those told.
-/
namespace Go.Proofs.YtaiicjhnhbkgmaaGreatDoor
open Go.RowKit Go.Maps Go.ChangeMaps
set_option maxRecDepth 100000
set_option linter.unusedVariables false

/-- What Read tells. -/
def readE (b : List UInt8) : Int × Int := if b.length = 47 then (2, 0) else (4, min b.length 47)
def ReadFPost (w : World) (b : List UInt8) (e : Ending) (w' : World) : Prop :=
  Keep noBlk w w' ∧ if readB b then ∃ v, e = .returned (.tuple #[.agg (ptCs v (ptOf b)).toArray, .agg #[.int .i64 0, .int .i64 0]]) ∧ w'.ownsRow w.heap.size 70 2 v (ptOf b).addrs.length (adCells (ptOf b).addrs)
    else e = .returned (.tuple #[.agg (ptCs (.slice none 0 0) zPt).toArray, .agg #[.int .i64 (readE b).1, .int .i64 (readE b).2]])
theorem oneCell_pt {oa : Option Addr} {n ca : Nat} (p : Pt) : ∀ u ∈ ptCs (.slice oa n ca) p, u.oneCell' = true := by
  intro x hx
  unfold ptCs at hx
  simp only [List.mem_cons] at hx
  rcases hx with rfl | rfl | rfl | hx
  · rfl
  · rfl
  · rfl
  · exact oneCell_vb _ x hx
theorem read_any (w : World) (bv : Value) (b : List UInt8) (hr : Rd w 1 bv b.length (b.map vb)) : Calls Tryz.prog 125 #[bv] w (ReadPost w b) := by
  by_cases h : b.length = 47
  · exact read_main w bv b hr h
  · exact read_len w bv b hr h
set_option maxHeartbeats 8000000 in
theorem pread_any (w : World) (bv : Value) (b : List UInt8) (hr : Rd w 1 bv b.length (b.map vb)) : Calls Tryz.prog 103 #[bv] w (ReadFPost w b) := by
  have HC := Lib.hid (fun wx (k : Keep noBlk w wx) => read_any wx bv b (hr.keep k fun _ _ => id))
  obtain ⟨a, ca, rfl, -, -⟩ := hr.form
  obtain ⟨n, hn⟩ : ∃ n, b.length = n := ⟨_, rfl⟩
  rw [hn] at HC ⊢
  have hz := zeroPtV
  obtain ⟨zc, hzc⟩ : ∃ x, ptCs (.slice none 0 0) zPt = x := ⟨_, rfl⟩
  have hzl : zc.length = 35 := by rw [← hzc]; rfl
  have HZ := Lib.hid hzc; have HN := Lib.hid hn
  rw [hzc] at hz
  obtain ⟨wa, hwa, ka, ha, sa⟩ := alloc_facts w zc.toArray 34
  obtain ⟨wb, hwb, kb, hb, sb⟩ := alloc_facts wa #[.int .i64 0, .int .i64 0] 115
  obtain ⟨rb, hrb⟩ : ∃ x, w.heap.size = x := ⟨_, rfl⟩
  obtain ⟨fb, hfb⟩ : ∃ x, wa.heap.size = x := ⟨_, rfl⟩
  have hrf : rb < fb := by omega
  rw [hrb] at ha
  rw [hfb] at hb
  have HRB0 := Lib.hid (kb.blk ha id); have HFB0 := Lib.hid hb; have HKB := Lib.hid (ka.trans kb)
  have HRBE := Lib.hid hrb
  have HSW : Hid (wb.heap.size = fb + 1) := Lib.hid (by omega)
  have hmf : ∀ (fn : Fn) (first cap : Array Value) (w : World), (Instr.makeFunc fn first cap).run Tryz.prog w = .ok (.func fn first cap) w := fun _ _ _ _ => rfl
  clear hr ka kb ha hb sa sb hzc hn
  go_enter_defers Tryz.func103, Tryz.ntmps103
  go_wp2_with (first
    | ((with_reducible show wpList _ _ _ (⟨some 2, .alloc 34, _, _, _, _⟩ :: _) _ _); refine wpList_alloc_at rfl 34 rfl _ hz zc.toArray rfl ?_; rw [hwa, hrb])
    | ((with_reducible show wpList _ _ _ (⟨some 3, .alloc 115, _, _, _, _⟩ :: _) _ _); refine wpList_alloc_at rfl 115 rfl _ zeroFlt #[.int .i64 0, .int .i64 0] rfl ?_; rw [hwb, hfb]))
  refine (HC.out _ HKB.out).mono ?_
  intro e w4 hpost
  unfold ReadPost at hpost
  obtain ⟨hk4, hpost⟩ := hpost
  have HRB := Lib.hid (hk4.blk HRB0.out id); have HFB := Lib.hid (hk4.blk HFB0.out id); have HK4 := Lib.hid (HKB.out.trans hk4)
  have HS4 : Hid (fb < w4.heap.size) := Lib.hid (lt_of_block HFB.out)
  clear hk4 HRB0 HFB0 HC
  obtain ⟨t, ht⟩ : ∃ t, readB b = t := ⟨_, rfl⟩
  have HT := Lib.hid ht
  rw [ht] at hpost
  clear ht
  cases t
  · rw [if_neg (by decide)] at hpost
    obtain ⟨er, ea, rfl, hee⟩ : ∃ er ea, e = .panicked (wrongV er ea) ∧ readE b = (er, ea) := by
      unfold readE
      by_cases h : b.length = 47
      · rw [if_pos h] at hpost ⊢
        exact ⟨_, _, hpost, rfl⟩
      · rw [if_neg h] at hpost ⊢
        exact ⟨_, _, hpost, rfl⟩
    have HEE := Lib.hid hee
    clear hpost hee
    go_wp2_with fail
    refine leaves_cons (f := 124) (args := #[.pointer (some ⟨rb, 0, none⟩), .pointer (some ⟨fb, 0, none⟩)]) (by simp) (by simp [go_sem]) ?_
    refine (pcatch_stop rb fb er ea w4 (by omega) _ HRB.out (by rw [List.size_toArray, hzl]) HFB.out).mono ?_
    rintro e u' w5 ⟨rfl, rfl, hb5, hf5, hk5⟩
    refine ⟨_, results_cells2 rfl _ _ rb fb _ _ _ _ _ _ _ _ rfl hb5 ptUnder rfl (by rw [List.size_toArray, ptCs_len rfl]; exact sizePt) rfl hf5 Tryz.underlying115 rfl sizeFault, ?_, ?_⟩
    · exact HK4.out.trans' hk5 (fun _ _ h => h) (fun i hi e => by have := HRBE.out; omega)
    · rw [HT.out, if_neg (by decide), HEE.out]
  · rw [if_pos rfl] at hpost
    obtain ⟨v, rfl, ho4⟩ := hpost
    obtain ⟨m, hm⟩ : ∃ m, (ptOf b).addrs.length = m := ⟨_, rfl⟩
    have HM := Lib.hid hm
    rw [hm] at ho4
    obtain ⟨va, vc, rfl, -, -⟩ := (Rd.of_owns ho4).form
    have HO4 := Lib.hid ho4
    have hl47 : b.length = 47 := by
      have h := HT.out
      unfold readB at h
      simp only [Bool.and_eq_true, decide_eq_true_eq] at h
      exact h.1.1
    obtain ⟨pc, hpc⟩ : ∃ x, ptCs (.slice va m vc) (ptOf b) = x := ⟨_, rfl⟩
    have hpl : pc.length = 35 := by rw [← hpc]; exact ptCs_len (by show (b.drop 15).length = 32; rw [List.length_drop, hl47])
    have hpo : ∀ u ∈ pc, u.oneCell' = true := by rw [← hpc]; exact oneCell_pt _
    have HPC := Lib.hid hpc
    rw [hpc]
    clear ho4 hm hpc hl47
    go_wp2_with (first
      | ((with_reducible show wpList _ _ _ (⟨none, .store 34 (.tmp 2) (.tmp 6), _, _, _, _⟩ :: _) _ _); refine wpList_store_agg rfl 34 (.tmp 2) (.tmp 6) rfl rb 0 pc rfl rfl zc.toArray 34 HRB.out (by rw [hpl, List.size_toArray, hzl]; exact Nat.le_refl _) (sizePtL hpl) hpo ?_; intro w5 hb5 hk5; rw [spl_whole _ _ (by rw [hpl, List.size_toArray, hzl])] at hb5; have HF5 := Lib.hid (hk5.blk HFB.out (by omega)); have HB5 := Lib.hid hb5; have HK5 := Lib.hid hk5; clear hb5 hk5)
      | ((with_reducible show wpList _ _ _ (⟨none, .store 115 (.tmp 3) (.tmp 7), _, _, _, _⟩ :: _) _ _); refine wpList_store_agg rfl 115 (.tmp 3) (.tmp 7) rfl fb 0 [.int .i64 0, .int .i64 0] rfl rfl #[.int .i64 0, .int .i64 0] 115 HF5.out (Nat.le_refl _) sizeFault (by simp [Value.oneCell']) ?_; intro w6 hb6 hk6; rw [spl_whole _ _ (by rfl)] at hb6; have HB6 := Lib.hid (hk6.blk HB5.out (by omega)); have HF6 := Lib.hid hb6; have HK6 := Lib.hid hk6; clear hb6 hk6))
    refine leaves_cons (f := 124) (args := #[.pointer (some ⟨rb, 0, none⟩), .pointer (some ⟨fb, 0, none⟩)]) (by simp) (by simp [go_sem]) ?_
    refine (pcatch_idle _ _ _).mono ?_
    rintro e u' w'' ⟨rfl, rfl, rfl⟩
    refine ⟨_, results_cells2 rfl _ _ rb fb _ _ _ _ _ _ _ _ rfl HB6.out ptUnder rfl (by rw [List.size_toArray, hpl]; exact sizePt) rfl HF6.out Tryz.underlying115 rfl sizeFault, ?_, ?_⟩
    · exact (HK4.out.trans' HK5.out (U := noBlk) (fun _ _ h => h) (fun i hi e => by have := HRBE.out; omega)).trans' HK6.out (fun _ _ h => h) (fun i hi e => by have := HRBE.out; omega)
    · rw [HT.out, if_pos rfl]
      refine ⟨_, by rw [HPC.out], ?_⟩
      rw [HM.out]
      have h5 := HK5.out.owns HO4.out (fun i hi e => by have := owns_base HO4.out hi; have := HSW.out; omega)
      exact ownsRow_mono (HK6.out.owns h5 (fun i hi e => by have := owns_base HO4.out hi; have := HSW.out; omega)) (by have := HRBE.out; have := HSW.out; omega)

end Go.Proofs.YtaiicjhnhbkgmaaGreatDoor
