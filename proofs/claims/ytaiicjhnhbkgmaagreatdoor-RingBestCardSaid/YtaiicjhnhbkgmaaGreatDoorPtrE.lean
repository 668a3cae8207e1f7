/-
  pointer.buffer's num: a number's lowest bytes.
  Conditions: those told.
-/
import Derived.Test.YtaiicjhnhbkgmaaGreatDoorPtrC
import Derived.Test.YtaiicjhnhbkgmaaGreatDoorPlain1
namespace Go.Proofs.YtaiicjhnhbkgmaaGreatDoor
open Go.RowKit Go.Maps Go.ChangeMaps
set_option maxRecDepth 100000
set_option linter.unusedVariables false

theorem be_take (n k r : Nat) (h : r < k) : (be n k).take (r + 1) = (be n k).take r ++ [beAt n k r] := by
  unfold be
  rw [List.take_add_one, List.getElem?_map, List.getElem?_range h]
  rfl
def NumPost (w : World) (base : Nat) (v : Value) (l : List UInt8) (e : Ending) (w' : World) : Prop :=
  ∃ v', e = .returned v' ∧ w'.ownsRow base 5 1 v' l.length (l.map vb) ∧ (v'.ownBlock = v.ownBlock ∨ ∀ i, v'.ownBlock = some i → w.heap.size ≤ i) ∧ Keep (fun i => v.ownBlock = some i) w w'
set_option maxHeartbeats 8000000 in
theorem bnum_any (w : World) (base : Nat) (v : Value) (l : List UInt8) (n k : Nat) (ho : w.ownsRow base 5 1 v l.length (l.map vb)) (hb : base ≤ w.heap.size) (h1 : 1 ≤ k) (hk : k ≤ 4) (hl : l.length ≤ 1000) (hn : n ≤ 9223372036854775807) :
    Calls Tryz.prog 82 #[v, .int .i64 (n : Int), .int .i64 (k : Int)] w (NumPost w base v (l ++ be n k)) := by
  have HO := Lib.hid ho
  obtain ⟨oa, ca, rfl, -, -⟩ := (Rd.of_owns ho).form
  obtain ⟨q, hq⟩ : ∃ q, l.length = q := ⟨_, rfl⟩
  have HQ := Lib.hid hq
  rw [hq] at HO hl ⊢
  clear ho hq
  go_enter Tryz.func82, Tryz.ntmps82
  go_wp2_with fail
  go_loopw [0, 7] (fun t i wr => ∃ (r : Nat) (ii : Int) (pa : Option Addr) (pc : Nat), r ≤ k ∧ ii = (k : Int) - 1 - (r : Int) ∧ t = .slice pa (q + r) pc ∧ i = .int .i64 ii ∧ Hid (wr.ownsRow base 5 1 (.slice pa (q + r) pc) (q + r) ((l ++ (be n k).take r).map vb)) ∧ Hid ((Value.slice pa (q + r) pc).ownBlock = (Value.slice oa q ca).ownBlock ∨ ∀ i, (Value.slice pa (q + r) pc).ownBlock = some i → w.heap.size ≤ i) ∧ Hid (Keep (fun i => (Value.slice oa q ca).ownBlock = some i) w wr)) (fun _ i _ => (intOf i + 1).toNat)
  case atStart => exact ⟨0, (k : Int) - 1, oa, ca, Nat.zero_le _, by omega, rfl, by go_num, Lib.hid (by rw [List.take_zero, List.append_nil]; exact HO.out), Lib.hid (.inl rfl), Lib.hid (Keep.refl _ _)⟩
  case round =>
  clear HO
  obtain ⟨r, ii, pa, pc, hr, hii, rfl, rfl, HR, HB, HK⟩ := hrel
  by_cases hlt : r < k
  · have hi0 : (0 : Int) ≤ ii := by omega
    have hi4 : ii ≤ 3 := by omega
    obtain ⟨j, hj⟩ : ∃ j : Nat, ii = (j : Int) := ⟨ii.toNat, by omega⟩
    have hjr : j = k - r - 1 := by omega
    have hj3 : j ≤ 3 := by omega
    have hjj := beAt_toNat n k r
    rw [← hjr] at hjj
    have HV : Hid (Value.int .u8 ((n : Int) / 2 ^ (8 * j) % 256) = vb (beAt n k r)) := Lib.hid (by unfold vb; rw [hjj])
    have hd : 0 ≤ ii := hi0
    obtain ⟨w8, hw8, hk8, hb8, hs8⟩ := alloc_facts wr #[.int .u8 ((n : Int) / 2 ^ (8 * j) % 256)] 5
    obtain ⟨bz, hbz⟩ : ∃ b, wr.heap.size = b := ⟨_, rfl⟩
    rw [hbz] at hb8
    have HR8 : Hid (Rd w8 1 (.slice (some ⟨bz, 0, none⟩) 1 1) 1 [vb (beAt n k r)]) := Lib.hid (by rw [← HV.out]; exact rd_blk (n := 1) (size := 1) (vs := [.int .u8 ((n : Int) / 2 ^ (8 * j) % 256)]) hb8 rfl (by unfold maxLen; omega))
    have HO8 := Lib.hid (hk8.owns HR.out fun _ _ => id); have HK8 := Lib.hid (HK.out.trans' hk8 (U := fun i => (Value.slice oa q ca).ownBlock = some i) (fun _ _ h => h) (fun _ _ h => h.elim))
    have hsz8 : base ≤ w8.heap.size := Nat.le_trans hb HK8.out.size
    have HBZ := Lib.hid hbz; have HSW := Lib.hid HK.out.size
    have hone : ∀ u ∈ [vb (beAt n k r)], u.oneCell' = true := by intro u hu; rw [List.mem_singleton.1 hu]; rfl
    have HW8 := Lib.hid hw8
    subst hj
    have HII := Lib.hid hii
    have hj1 : (j : Int) ≤ 3 := hi4
    clear hii hk8 hb8 hs8 hbz hw8 hjj hjr HR HK
    go_wp2_with (first
      | (at_builtin; try rw [HW8.out]
         try rw [HBZ.out]
         refine wpList_append_rd rfl (.tmp 14) (.tmp 20) 119 rfl base 5 _ 1 1 Tryz.underlying119 infoU8 rfl (by omega) (.slice pa (q + r) pc) (q + r) ((l ++ (be n k).take r).map vb) rfl HO8.out (.slice (some ⟨bz, 0, none⟩) 1 1) 1 [vb (beAt n k r)] rfl HR8.out hone (by unfold maxLen; omega) (by omega) hsz8 ?_
         intro v' w9 ho5 hk5 hn5 hb5
         obtain ⟨va, vc, rfl, -, -⟩ := (Rd.of_owns ho5).form
         have HO5 : Hid (w9.ownsRow base 5 1 (.slice va (q + (r + 1)) vc) (q + (r + 1)) ((l ++ (be n k).take (r + 1)).map vb)) := Lib.hid (by rw [be_take n k r hlt, ← List.append_assoc, List.map_append, List.map_singleton]; exact ho5)
         have HB5 : Hid ((Value.slice va (q + r + 1) vc).ownBlock = (Value.slice oa q ca).ownBlock ∨ ∀ i, (Value.slice va (q + r + 1) vc).ownBlock = some i → w.heap.size ≤ i) := Lib.hid (by
           rcases hb5 with h | h
           · rw [h]
             exact HB.out
           · refine .inr fun i hi => ?_
             rw [h] at hi
             cases hi
             exact HK8.out.size)
         have HK9 := Lib.hid (HK8.out.trans' hk5 (U := fun i => (Value.slice oa q ca).ownBlock = some i) (fun _ _ h => h) (fun i hi e => by
           rcases HB.out with h | h
           · rw [← h]; exact e
           · have := h i e; omega))
         clear ho5 hk5 hn5 hb5))
    go_roundw
    case rel => exact ⟨r + 1, (j : Int) - 1, va, vc, by omega, by have := HII.out; omega, rfl, by go_num, HO5, HB5, HK9⟩
    case measure => simp [intOf]
  · obtain rfl : k = r := by omega
    have hi0 : ¬ (0 : Int) ≤ ii := by omega
    have hd : decide ((0 : Int) ≤ ii) = false := decide_eq_false hi0
    have hi5 : ii < 0 := by omega
    clear hii
    go_wp2_with fail
    go_ret
    refine ⟨_, rfl, ?_, HB.out, HK.out⟩
    have h := HR.out
    rw [List.take_of_length_le (by rw [be_length]; exact Nat.le_refl _)] at h
    rw [List.length_append, be_length, HQ.out]
    exact h
/-- An append whose second list is of another type. -/
theorem append_types {P : Program} {t u e : TypeId} {du : TypeDesc} (ht : P.underlying t = some (.slice e)) (hu : P.underlying u = some du) (hd : (du matches .int _) = false) (ty : TypeId) (args : Array Value) (w : World) :
    (Builtin.append_ #[t, u] ty args).run P w = (Builtin.append_ #[t, t] ty args).run P w := by
  unfold Builtin.append_
  rcases h0 : args[0]? with _ | s
  · simp
  rcases h1 : args[1]? with _ | x
  · simp
  simp only [List.getElem?_toArray, List.getElem?_cons_zero, List.getElem?_cons_succ]
  simp only [Sem.run_bind, run_underlying ht, Result.andThen_ok]
  cases s <;> try rfl
  simp only [Sem.run_bind, run_underlying ht, run_underlying hu, Result.andThen_ok, Sem.run_pure]
  cases du <;> first | rfl | (simp at hd) | skip
theorem wpList_append_rd2 {P : Program} {w : World} {ops : Array Oper} {rest : List Oper} {o : Oper} {a : Act} {Q : Exit → Act → World → Prop} (hgd : o.guard = none) (s x : Operand) (t u : TypeId)
    (ho : o.op = .call { callee := .builtin .append, args := #[s, x], argTypes := #[t, u] }) (du : TypeDesc) (hu : P.underlying u = some du) (hdu : (du matches .int _) = false)
    (base : Nat) (e : TypeId) (z : Value) (size bytes : Nat) (ht : P.underlying t = some (.slice e)) (hinf : (P.info? e).map (fun i => (i.zero, i.size, i.bytes)) = some (some z, size, bytes)) (hzs : z.cells.size = size) (hsz : 0 < size)
    (v : Value) (n : Nat) (xs : List Value) (hs : a.eval s = v) (hown : w.ownsRow base e size v n xs)
    (ad : Addr) (m c : Nat) (news : List Value) (hx : a.eval x = .slice (some ad) m c) (hl : news.length = m * size) (hcells : ∀ j u, news[j]? = some u → w.cell? (ad.add j) = some u) (h1 : ∀ u ∈ news, u.oneCell' = true)
    (h63 : n + m ≤ maxLen) (hbytes : (n + m) * bytes ≤ 140737488355328) (hbase : base ≤ w.heap.size)
    (h : ∀ v' w', w'.ownsRow base e size v' (n + m) (xs ++ news) → Keep (fun k => v.ownBlock = some k) w w' → (v'.ownBlock = v.ownBlock ∨ v'.ownBlock = some w.heap.size) → wpList P ops Q rest (a.put o.dst v') w') : wpList P ops Q (o :: rest) a w := by
  obtain ⟨i, hi, hz0, hz1, hz2⟩ := info_parts hinf
  refine wpList_plain hgd fun K hK => ?_
  obtain ⟨v', w', hr, h2, h3, h4, h5⟩ := run_append_own_at (P := P) w base t o.type e i z size bytes ht hi hz0 hz1 hz2 hzs hsz v n xs hown ad m c news hl hcells h1 h63 hbytes hbase
  rw [← append_types ht hu hdu] at hr
  unfold Oper.wp execOp
  simp only [ho, resolve, invoke, builtin, Sem.run_bind, Sem.run_pure, Result.andThen_ok, List.map_toArray, List.map_cons, List.map_nil, hs, hx, hr]
  exact hK _ _ (h v' w' h2 (Keep.of_grown h3) h5)
end Go.Proofs.YtaiicjhnhbkgmaaGreatDoor

/-
  Block pointers: their bytes.
  Conditions: those told.
-/
namespace Go.Proofs.YtaiicjhnhbkgmaaGreatDoor
open Go.RowKit Go.Maps Go.ChangeMaps
set_option maxRecDepth 100000
set_option linter.unusedVariables false

def zAd : Ad := ⟨0, 0⟩
def adBs (a : Ad) : List UInt8 := be a.dev.toNat 1 ++ be a.sec.toNat 2
/-- A pointer's bytes: how many addresses, so many of them, the rest. -/
def ptHead (p : Pt) (k : Nat) : List UInt8 := be p.addrs.length 1 ++ (List.range k).flatMap fun i => adBs (p.addrs.getD i zAd)
def ptBytes (p : Pt) : List UInt8 := ptHead p 3 ++ be p.birth.toNat 4 ++ be p.level.toNat 1 ++ p.sum
def ptB (p : Pt) : List UInt8 := if p.may then ptBytes p else []
theorem ptHead_succ (p : Pt) (k : Nat) : ptHead p (k + 1) = ptHead p k ++ be (p.addrs.getD k zAd).dev.toNat 1 ++ be (p.addrs.getD k zAd).sec.toNat 2 := by
  unfold ptHead
  rw [List.range_succ, List.flatMap_append, List.append_assoc, List.append_assoc]
  simp [adBs]
theorem ptHead_len (p : Pt) (k : Nat) : (ptHead p k).length = 1 + 3 * k := by
  induction k with
  | zero => simp [ptHead, be_length]
  | succ k ih => rw [ptHead_succ, List.length_append, List.length_append, ih, be_length, be_length]; omega
theorem ptBytes_len {p : Pt} (h : p.sum.length = 32) : (ptBytes p).length = 47 := by
  unfold ptBytes
  simp only [List.length_append, ptHead_len, be_length, h]
theorem pt_bounds {p : Pt} (h : p.may = true) : p.addrs.length ≤ 3 ∧ (∀ a ∈ p.addrs, adIn a = true) ∧ 0 ≤ p.birth ∧ p.birth ≤ 2147483648 ∧ 0 ≤ p.level ∧ p.level ≤ 3 := by
  unfold Pt.may at h
  rw [Bool.or_eq_true] at h
  rcases h with h | h
  · unfold Pt.hole Pt.noth at h
    simp only [Bool.and_eq_true, beq_iff_eq, decide_eq_true_eq] at h
    have h0 : p.addrs = [] := List.eq_nil_of_length_eq_zero (by omega)
    rw [h0]
    exact ⟨by simp, by simp, by omega, by omega, by omega, by omega⟩
  · unfold adsB Pt.numsB at h
    simp only [Bool.and_eq_true, decide_eq_true_eq, List.all_eq_true] at h
    exact ⟨h.1.2, h.1.1.1.1, by omega, by omega, by omega, by omega⟩
theorem ad_nat {l : List Ad} (h : ∀ a ∈ l, adIn a = true) (k : Nat) : ∃ d s : Nat, l.getD k zAd = ⟨(d : Int), (s : Int)⟩ ∧ d < 8 ∧ s < 4096 := by
  rw [List.getD_eq_getElem?_getD]
  cases e : l[k]? with
  | none => exact ⟨0, 0, rfl, by omega, by omega⟩
  | some a =>
    have := h a (List.mem_of_getElem? e)
    unfold adIn at this
    simp only [Bool.and_eq_true, decide_eq_true_eq] at this
    obtain ⟨x, y⟩ := a
    simp only at this
    exact ⟨x.toNat, y.toNat, by show (⟨x, y⟩ : Ad) = _; rw [Int.toNat_of_nonneg (by omega), Int.toNat_of_nonneg (by omega)], by omega, by omega⟩
def BytesPost (w : World) (p : Pt) (e : Ending) (w' : World) : Prop :=
  ∃ v, e = .returned (.tuple #[v, .int .i64 (if p.may then 0 else 2)]) ∧ w'.ownsRow w.heap.size 5 1 v (ptB p).length ((ptB p).map vb) ∧ Keep noBlk w w'
set_option maxHeartbeats 16000000 in
theorem bytes_any (w : World) (v : Value) (p : Pt) (h0 : PtV w v p) : Calls Tryz.prog 49 #[.agg (ptCs v p).toArray] w (BytesPost w p) := by
  obtain ⟨oa, ca, hv, -, -⟩ := h0.rd.form
  subst hv
  obtain ⟨n, hn⟩ : ∃ x, p.addrs.length = x := ⟨_, rfl⟩
  have HN := Lib.hid hn
  rw [hn] at h0 ⊢
  obtain ⟨w1, hw1, hk1, hb_0, hs1⟩ := alloc_facts w (ptCs (.slice oa n ca) p).toArray 34
  obtain ⟨a0, b0, c0, d0⟩ := pt_mem (rangeAt_whole hb_0)
  have HP0 := Lib.hid d0; have HB0 := Lib.hid hb_0
  have hl0 : (ptCs (.slice oa n ca) p).length = 35 := ptCs_len h0.sum
  simp only [Nat.zero_add] at a0 b0 c0
  have HC := Lib.hid (checkP_any w1 _ p (h0.keep hk1 fun _ _ => id))
  have HK := Lib.hid hk1
  have HKA := Lib.hid hk1
  have HRA := Lib.hid h0.rd
  obtain ⟨t, ht⟩ : ∃ t, p.may = t := ⟨_, rfl⟩
  have HT := Lib.hid ht
  rw [ht] at HC
  have HR0 := Lib.hid (rangeAt_whole HB0.out)
  have HSL := Lib.hid h0.sum
  obtain ⟨pc, hpc⟩ : ∃ x, ptCs (.slice oa n ca) p = x := ⟨_, rfl⟩
  have Hpc := Lib.hid hpc
  rw [hpc] at hw1 HC hl0 HR0 ⊢
  have HK1 := Lib.hid (Keep.refl noBlk w1)
  have hs1e : w.heap.size < w1.heap.size := by omega
  obtain ⟨pb, hpb⟩ : ∃ b, w.heap.size = b := ⟨_, rfl⟩
  have HPB := Lib.hid hpb
  rw [hpb] at a0 b0 c0 HR0 hs1e
  have HRW : Hid (w1.rangeAt pb 0 pc) := HR0
  clear ht hb_0 d0 hk1 hs1 hpc h0 HB0 HP0 hn hpb
  cases t
  · go_enter Tryz.func49, Tryz.ntmps49
    go_wp2_with (first
      | ((with_reducible show wpList _ _ _ (⟨_, .load 34 (.tmp 1), _, _, _, _⟩ :: _) _ _); refine wpList_load_g (by rfl) 34 (.tmp 1) rfl (w.heap.size) 0 rfl pc _ (by rw [HPB.out]; exact HR0.out) ptUnder rfl (sizePtL hl0) ?_))
    refine HC.out.mono ?_
    rintro e w2 ⟨rfl, hk⟩
    have HK2 := Lib.hid hk; have HK := Lib.hid (HK.out.trans hk)
    clear hk HC
    go_wp2_with fail
    go_ret2
    exact ⟨_, by rw [HT.out]; rfl, by rw [show ptB p = [] by unfold ptB; rw [HT.out]; rfl]; exact World.ownsRow_nil _ _ _ _, HK.out⟩
  · obtain ⟨hn3, hin, hb0, hb4, hl0', hl4⟩ := pt_bounds HT.out
    rw [HN.out] at hn3
    have HIN := Lib.hid hin
    obtain ⟨bi, hbi⟩ : ∃ b : Nat, p.birth = (b : Int) := ⟨p.birth.toNat, by omega⟩
    obtain ⟨le, hle⟩ : ∃ b : Nat, p.level = (b : Int) := ⟨p.level.toNat, by omega⟩
    have hbib : bi ≤ 2147483648 := by omega
    have hleb : le ≤ 3 := by omega
    have HBI := Lib.hid hbi; have HLE := Lib.hid hle
    rw [hbi] at b0
    rw [hle] at c0
    have HA0 := Lib.hid a0; have HB0 := Lib.hid b0; have HC0 := Lib.hid c0
    clear hin hb0 hb4 hl0' hl4 hbi hle
    go_enter Tryz.func49, Tryz.ntmps49
    go_wp2_with (first
      | ((with_reducible show wpList _ _ _ (⟨_, .load 34 (.tmp 1), _, _, _, _⟩ :: _) _ _); refine wpList_load_g (by rfl) 34 (.tmp 1) rfl (w.heap.size) 0 rfl pc _ (by rw [HPB.out]; exact HR0.out) ptUnder rfl (sizePtL hl0) ?_))
    refine HC.out.mono ?_
    rintro e w2 ⟨rfl, hk⟩
    have HK2 := Lib.hid hk; have HK := Lib.hid (HK.out.trans hk)
    clear hk HC
    obtain ⟨w3, hw3, hk3, hb3, hs3⟩ := alloc_facts w2 #[] 5
    obtain ⟨B, hB⟩ : ∃ B, w1.heap.size = B := ⟨_, rfl⟩
    have HBE := Lib.hid hB
    have hpbB : pb < B := by omega
    have hB2 : B ≤ w2.heap.size := by rw [← hB]; exact HK2.out.size
    obtain ⟨q0, hq0⟩ : ∃ b, w2.heap.size = b := ⟨_, rfl⟩
    have HO3 : Hid (w3.ownsRow B 5 1 (.slice (some ⟨q0, 0, none⟩) 0 0) 0 []) := Lib.hid (by rw [← hw3, ← hq0]; exact ownsRow_mono (World.ownsRow_made w2 #[] 0 (Nat.le_refl _) (by unfold maxLen; omega) rfl) hB2)
    have HK3 := Lib.hid (HK2.out.trans hk3)
    have a0 := HK3.out.cell HA0.out id
    have hB3 : B ≤ w3.heap.size := Nat.le_trans hB2 hk3.size
    have hq0B : B ≤ q0 := by omega
    clear hk3 hb3 hs3 hB b0 c0 HK2
    rw [HPB.out]
    go_wp2_with fail
    refine (bnum_any w3 B _ [] n 1 HO3.out hB3 (by omega) (by omega) (by simp) (by omega)).mono ?_
    rintro e w4 ⟨v4, rfl, ho4, hb4, hk4⟩
    have HK4 := Lib.hid (HK3.out.trans' hk4 (U := noBlk) (fun _ _ h => h) (fun i hi e => by
      have e' : q0 = i := Option.some.inj e
      have := HBE.out
      omega))
    obtain ⟨pa, pc', rfl, -, -⟩ := (Rd.of_owns ho4).form
    have hlen0 : ([] ++ be n 1 : List UInt8).length = 1 := by simp [be_length]
    rw [hlen0] at ho4 ⊢
    have HO4 : Hid (w4.ownsRow B 5 1 (.slice pa 1 pc') 1 ((ptHead p 0).map vb)) := Lib.hid (by
      have e : ptHead p 0 = [] ++ be n 1 := by unfold ptHead; rw [HN.out]; simp
      rw [e]; exact ho4)
    clear ho4 hb4 hk4 HO3 HK3 hlen0 a0 hw3 hq0
    go_wp2_with fail
    go_loopw [5, 18] (fun t i wr => ∃ (k ql : Nat) (pa : Option Addr) (pc : Nat), k ≤ 3 ∧ t = .slice pa ql pc ∧ i = .int .i64 k ∧ ql ≤ 10 ∧ Hid (ql = 1 + 3 * k) ∧ Hid (wr.ownsRow B 5 1 (.slice pa ql pc) ql ((ptHead p k).map vb)) ∧ Hid (Keep noBlk w1 wr)) (fun _ i _ => 3 - (intOf i).toNat)
    case atStart => exact ⟨0, 1, pa, pc', by omega, rfl, rfl, by omega, Lib.hid rfl, HO4, HK4⟩
    case round =>
    clear HO4 HK4
    obtain ⟨k, ql, pa, pcp, hk, rfl, rfl, hql, HQL, HO, HKW⟩ := hrel
    have a0 := HKW.out.cell HA0.out id
    by_cases hlt : k < 3
    · have hki : (k : Int) < 3 := by omega
      have hk0 : (0 : Int) ≤ (k : Int) := by omega
      obtain ⟨d, s, hds, hd8, hs4⟩ := ad_nat HIN.out k
      have HDS := Lib.hid hds
      obtain ⟨w8, hw8, hk8, hb8, hs8⟩ := alloc_facts wr #[.int .i64 0, .int .i64 0] 70
      obtain ⟨ab, hab⟩ : ∃ b, wr.heap.size = b := ⟨_, rfl⟩
      rw [hab] at hb8
      have HLT : Hid (∀ i, (Value.slice pa ql pcp).ownBlock = some i → i < ab) := Lib.hid (fun i hi => by rw [← hab]; exact (HO.out.lt i hi).2)
      have HW8 := Lib.hid hw8; have HB8 := Lib.hid hb8; have HABE := Lib.hid hab
      have HAW : Hid (w1.heap.size ≤ ab) := Lib.hid (by rw [← hab]; exact HKW.out.size)
      have HK8 := Lib.hid (HKW.out.trans hk8); have HO8 := Lib.hid (hk8.owns HO.out fun _ _ => id)
      have a8 := HK8.out.cell HA0.out id
      have hrk := HRA.out.keep (HKA.out.trans HK8.out) (fun _ _ => id)
      clear hk8 hb8 hs8 hds a0
      by_cases hka : k < n
      · have hkai : (k : Int) < (n : Int) := by omega
        obtain ⟨x, h_x⟩ : ∃ x, p.addrs[k]? = some x := ⟨p.addrs[k]'(by rw [HN.out]; exact hka), List.getElem?_eq_getElem _⟩
        have hxe : x = ⟨(d : Int), (s : Int)⟩ := by
          have := HDS.out
          rw [List.getD_eq_getElem?_getD, h_x] at this
          exact this
        subst hxe
        rw [← HN.out] at hrk
        obtain ⟨g, o, cap', h_v, h_at⟩ := rd_ad hrk h_x
        rw [HN.out] at h_v
        have e1 : oa = some ⟨g, o, none⟩ := by cases h_v; rfl
        subst e1
        have HX := Lib.hid h_at
        clear h_x h_v h_at hrk
        go_wp2_with (first
          | ((with_reducible show wpList _ _ _ (⟨some 7, .alloc 70, _, _, _, _⟩ :: _) _ _); refine wpList_alloc_at rfl 70 rfl zeroAd zeroAddr #[.int .i64 0, .int .i64 0] rfl ?_; rw [hw8, hab])
          | ((with_reducible show wpList _ _ _ (⟨_, .load 70 (.tmp 29), _, _, _, _⟩ :: _) _ _); refine wpList_load_mid rfl 70 (.tmp 29) rfl g (o + k * 2) rfl (adCs ⟨(d : Int), (s : Int)⟩) _ HX.out adUnder rfl sizeAd ?_)
          | ((with_reducible show wpList _ _ _ (⟨none, .store 70 (.tmp 7) (.tmp 30), _, _, _, _⟩ :: _) _ _); refine wpList_store_agg rfl 70 (.tmp 7) (.tmp 30) rfl ab 0 (adCs ⟨(d : Int), (s : Int)⟩) rfl rfl #[.int .i64 0, .int .i64 0] 70 HB8.out (Nat.le_refl _) sizeAd (oneCell_ad _) ?_
             intro w9 hb9 hk9
             rw [spl_whole _ _ (by rfl)] at hb9
             have HAB := Lib.hid hb9
             have HK9 := Lib.hid (HK8.out.trans' hk9 (U := noBlk) (fun _ _ h => h) (fun i hi e => by have := HAW.out; omega))
             have HO9 := Lib.hid (hk9.owns HO8.out (fun i hi e => by have := HLT.out i hi; omega))
             clear hb9 hk9))
        clear HW8 HB8 HK8 HO8 a8 hw8 hab
        obtain ⟨S, hS0⟩ : ∃ S : World → Prop, S = fun w' => Keep noBlk w1 w' ∧ w'.heap[ab]? = some (.cells (adCs ⟨(d : Int), (s : Int)⟩).toArray 70 (0, 0)) := ⟨_, rfl⟩
        have HS1 := Lib.hid (show ∀ w', S w' → Keep noBlk w1 w' from fun w' h => by rw [hS0] at h; exact h.1)
        have HS2 := Lib.hid (show ∀ w', S w' → w'.heap[ab]? = some (.cells (adCs ⟨(d : Int), (s : Int)⟩).toArray 70 (0, 0)) from fun w' h => by rw [hS0] at h; exact h.2)
        have HSI := Lib.hid (show ∀ w', Keep noBlk w1 w' → w'.heap[ab]? = some (.cells (adCs ⟨(d : Int), (s : Int)⟩).toArray 70 (0, 0)) → S w' from fun w' h h2 => by rw [hS0]; exact ⟨h, h2⟩)
        have HD0 := Lib.hid (fun w' (h : S w') => (blk_cell (HS2.out w' h) rfl : w'.cell? ⟨ab, 0, none⟩ = some (.int .i64 (d : Int))))
        have HD1 := Lib.hid (fun w' (h : S w') => (blk_cell (HS2.out w' h) rfl : w'.cell? ⟨ab, 1, none⟩ = some (.int .i64 (s : Int))))
        have hS : S w9.drew := HSI.out _ HK9.out.drew ((Keep.refl noBlk w9).drew.blk HAB.out id)
        have hod := (Keep.refl noBlk w9).drew.owns HO9.out (fun _ _ => id)
        clear hS0
        refine wp_region_held (S := S) (by kernel_rfl) ?_
        change wpAnyH _ _ _ _ _ _ _ _ w9.drew
        generalize w9.drew = w10 at hS hod ⊢
        refine tka 0 (.slice pa ql pcp) rfl hS ?_
        simp only [Act.put, List.setIfInBounds_toArray, List.set_cons_zero, List.set_cons_succ, List.getElem_toArray, List.getElem_cons_zero]
        refine tkb 1 (.pointer (some ⟨ab, 0, none⟩)) rfl hS ?_
        simp only [Act.put, List.setIfInBounds_toArray, List.set_cons_zero, List.set_cons_succ, List.getElem_toArray, List.getElem_cons_succ, List.getElem_cons_zero]
        refine tkd 2 (.int .i64 (d : Int)) rfl (.inl ⟨by rfl, fun w' hw' => by have c := HD0.out w' hw'; go_simp⟩) hS ?_
        simp only [Act.put, List.setIfInBounds_toArray, List.set_cons_zero, List.set_cons_succ, List.getElem_toArray, List.getElem_cons_succ, List.getElem_cons_zero]
        refine tkb 4 (.pointer (some ⟨ab, 1, none⟩)) rfl hS ?_
        simp only [Act.put, List.setIfInBounds_toArray, List.set_cons_zero, List.set_cons_succ, List.getElem_toArray, List.getElem_cons_succ, List.getElem_cons_zero]
        refine tkd 5 (.int .i64 (s : Int)) rfl (.inl ⟨by rfl, fun w' hw' => by have c := HD1.out w' hw'; go_simp⟩) hS ?_
        simp only [Act.put, List.setIfInBounds_toArray, List.set_cons_zero, List.set_cons_succ, List.getElem_toArray, List.getElem_cons_succ, List.getElem_cons_zero]
        refine wpAnyH_one (k := 3) rfl (by kernel_rfl) ?_
        go_wp2_with fail
        have hB10 : B ≤ w10.heap.size := by rw [← HBE.out]; exact (HS1.out _ hS).size
        have hod' : w10.ownsRow B 5 1 (.slice pa ql pcp) (ptHead p k).length ((ptHead p k).map vb) := by rw [ptHead_len, ← HQL.out]; exact hod
        refine (bnum_any w10 B _ (ptHead p k) d 1 hod' hB10 (by omega) (by omega) (by rw [ptHead_len]; omega) (by omega)).mono ?_
        rintro e w11 ⟨v11, rfl, ho11, hb11, hk11⟩
        obtain ⟨qa, qc, rfl, -, -⟩ := (Rd.of_owns ho11).form
        have hlt9 : ∀ i, (Value.slice pa ql pcp).ownBlock = some i → B ≤ i ∧ i < ab := fun i hi => ⟨owns_base hod hi, HLT.out i hi⟩
        have hS11 : S w11 := HSI.out _ ((HS1.out _ hS).trans' hk11 (U := noBlk) (fun _ _ h => h) (fun i hi e => by have := (hlt9 i e).1; have := HBE.out; omega)) (hk11.blk (HS2.out _ hS) (fun e => by have := (hlt9 ab e).2; omega))
        have hq11 : ∀ i, (Value.slice qa (ptHead p k ++ be d 1).length qc).ownBlock = some i → B ≤ i ∧ i ≠ ab := fun i hi => ⟨owns_base ho11 hi, by
          rcases hb11 with h | h
          · rw [h] at hi; have := (hlt9 i hi).2; omega
          · have h1 := h i hi
            have h2 := lt_of_block (HS2.out _ hS)
            omega⟩
        have hlen : (ptHead p k ++ be d 1).length = ql + 1 := by rw [List.length_append, ptHead_len, be_length, HQL.out]
        have hB11 : B ≤ w11.heap.size := Nat.le_trans hB10 hk11.size
        rw [hlen] at hq11 ⊢
        have ho11' := ho11
        rw [hlen] at ho11'
        clear hS hod hod' hk11 hb11 hlt9
        go_wp2_with fail
        refine ⟨hS11, ?_⟩
        refine wpAnyH_one (k := 6) rfl (by kernel_rfl) ?_
        go_wp2_with fail
        refine (bnum_any w11 B _ (ptHead p k ++ be d 1) s 2 (by rw [hlen]; exact ho11') hB11 (by omega) (by omega) (by rw [hlen]; omega) (by omega)).mono ?_
        rintro e w12 ⟨v12, rfl, ho12, -, hk12⟩
        obtain ⟨ra, rc, rfl, -, -⟩ := (Rd.of_owns ho12).form
        have hS12 : S w12 := HSI.out _ ((HS1.out _ hS11).trans' hk12 (U := noBlk) (fun _ _ h => h) (fun i hi e => by have := (hq11 i e).1; have := HBE.out; omega)) (hk12.blk (HS2.out _ hS11) (fun e => (hq11 ab e).2 rfl))
        have hlen2 : (ptHead p k ++ be d 1 ++ be s 2).length = ql + 3 := by rw [List.length_append, hlen, be_length]
        have hpe : ptHead p k ++ be d 1 ++ be s 2 = ptHead p (k + 1) := by
          rw [ptHead_succ, HDS.out]
          first | rfl | (show _ = ptHead p k ++ be (Int.toNat _) 1 ++ be (Int.toNat _) 2; rw [Int.toNat_natCast, Int.toNat_natCast])
        rw [hlen2] at ho12 ⊢
        rw [hpe] at ho12
        have HO12 := Lib.hid ho12
        clear hS11 hq11 ho11 ho11' hk12 ho12 hpe
        go_wp2_with fail
        refine ⟨hS12, ?_⟩
        refine tka 7 (.slice ra (ql + 3) rc) rfl hS12 ?_
        simp only [Act.put, List.setIfInBounds_toArray, List.set_cons_zero, List.set_cons_succ, List.getElem_toArray, List.getElem_cons_succ, List.getElem_cons_zero]
        refine wpAnyH_done (by kernel_rfl) ?_ _
        have HK12 := Lib.hid (HS1.out _ hS12)
        clear hS12 HS1 HS2 HSI HD0 HD1 HAB HO9 HK9 HLT
        go_wp2_with fail
        go_roundw
        case rel => exact ⟨k + 1, ql + 3, ra, rc, by omega, rfl, by go_num, by have := HQL.out; omega, Lib.hid (by rw [HQL.out]; omega), HO12, HK12⟩
        case measure => simp [intOf]; omega
      · have hkai : ¬ (k : Int) < (n : Int) := by omega
        have hd0 : d = 0 ∧ s = 0 := by
          have h := HDS.out
          rw [List.getD_eq_getElem?_getD, List.getElem?_eq_none (by rw [HN.out]; omega)] at h
          have h1 := congrArg Ad.dev h
          have h2 := congrArg Ad.sec h
          have h3 : (0 : Int) = (d : Int) := h1
          have h4 : (0 : Int) = (s : Int) := h2
          omega
        obtain ⟨rfl, rfl⟩ := hd0
        have HAB : Hid (w8.heap[ab]? = some (.cells (adCs ⟨((0 : Nat) : Int), ((0 : Nat) : Int)⟩).toArray 70 (0, 0))) := HB8
        have HK9 := HK8; have HO9 := HO8
        clear hrk
        go_wp2_with (first
          | ((with_reducible show wpList _ _ _ (⟨some 7, .alloc 70, _, _, _, _⟩ :: _) _ _); refine wpList_alloc_at rfl 70 rfl zeroAd zeroAddr #[.int .i64 0, .int .i64 0] rfl ?_; rw [hw8, hab]))
        obtain ⟨w9, hw9⟩ : ∃ w9, w8 = w9 := ⟨_, rfl⟩
        rw [hw9] at HAB HK9 HO9 ⊢
        clear HW8 HB8 HK8 HO8 a8 hw8 hab hw9
        obtain ⟨S, hS0⟩ : ∃ S : World → Prop, S = fun w' => Keep noBlk w1 w' ∧ w'.heap[ab]? = some (.cells (adCs ⟨((0 : Nat) : Int), ((0 : Nat) : Int)⟩).toArray 70 (0, 0)) := ⟨_, rfl⟩
        have HS1 := Lib.hid (show ∀ w', S w' → Keep noBlk w1 w' from fun w' h => by rw [hS0] at h; exact h.1)
        have HS2 := Lib.hid (show ∀ w', S w' → w'.heap[ab]? = some (.cells (adCs ⟨((0 : Nat) : Int), ((0 : Nat) : Int)⟩).toArray 70 (0, 0)) from fun w' h => by rw [hS0] at h; exact h.2)
        have HSI := Lib.hid (show ∀ w', Keep noBlk w1 w' → w'.heap[ab]? = some (.cells (adCs ⟨((0 : Nat) : Int), ((0 : Nat) : Int)⟩).toArray 70 (0, 0)) → S w' from fun w' h h2 => by rw [hS0]; exact ⟨h, h2⟩)
        have HD0 := Lib.hid (fun w' (h : S w') => (blk_cell (HS2.out w' h) rfl : w'.cell? ⟨ab, 0, none⟩ = some (.int .i64 ((0 : Nat) : Int))))
        have HD1 := Lib.hid (fun w' (h : S w') => (blk_cell (HS2.out w' h) rfl : w'.cell? ⟨ab, 1, none⟩ = some (.int .i64 ((0 : Nat) : Int))))
        have hS : S w9.drew := HSI.out _ HK9.out.drew ((Keep.refl noBlk w9).drew.blk HAB.out id)
        have hod := (Keep.refl noBlk w9).drew.owns HO9.out (fun _ _ => id)
        clear hS0
        refine wp_region_held (S := S) (by kernel_rfl) ?_
        change wpAnyH _ _ _ _ _ _ _ _ w9.drew
        generalize w9.drew = w10 at hS hod ⊢
        refine tka 0 (.slice pa ql pcp) rfl hS ?_
        simp only [Act.put, List.setIfInBounds_toArray, List.set_cons_zero, List.set_cons_succ, List.getElem_toArray, List.getElem_cons_zero]
        refine tkb 1 (.pointer (some ⟨ab, 0, none⟩)) rfl hS ?_
        simp only [Act.put, List.setIfInBounds_toArray, List.set_cons_zero, List.set_cons_succ, List.getElem_toArray, List.getElem_cons_succ, List.getElem_cons_zero]
        refine tkd 2 (.int .i64 ((0 : Nat) : Int)) rfl (.inl ⟨by rfl, fun w' hw' => by have c := HD0.out w' hw'; go_simp⟩) hS ?_
        simp only [Act.put, List.setIfInBounds_toArray, List.set_cons_zero, List.set_cons_succ, List.getElem_toArray, List.getElem_cons_succ, List.getElem_cons_zero]
        refine tkb 4 (.pointer (some ⟨ab, 1, none⟩)) rfl hS ?_
        simp only [Act.put, List.setIfInBounds_toArray, List.set_cons_zero, List.set_cons_succ, List.getElem_toArray, List.getElem_cons_succ, List.getElem_cons_zero]
        refine tkd 5 (.int .i64 ((0 : Nat) : Int)) rfl (.inl ⟨by rfl, fun w' hw' => by have c := HD1.out w' hw'; go_simp⟩) hS ?_
        simp only [Act.put, List.setIfInBounds_toArray, List.set_cons_zero, List.set_cons_succ, List.getElem_toArray, List.getElem_cons_succ, List.getElem_cons_zero]
        refine wpAnyH_one (k := 3) rfl (by kernel_rfl) ?_
        go_wp2_with fail
        have hB10 : B ≤ w10.heap.size := by rw [← HBE.out]; exact (HS1.out _ hS).size
        have hod' : w10.ownsRow B 5 1 (.slice pa ql pcp) (ptHead p k).length ((ptHead p k).map vb) := by rw [ptHead_len, ← HQL.out]; exact hod
        refine (bnum_any w10 B _ (ptHead p k) 0 1 hod' hB10 (by omega) (by omega) (by rw [ptHead_len]; omega) (by omega)).mono ?_
        rintro e w11 ⟨v11, rfl, ho11, hb11, hk11⟩
        obtain ⟨qa, qc, rfl, -, -⟩ := (Rd.of_owns ho11).form
        have hlt9 : ∀ i, (Value.slice pa ql pcp).ownBlock = some i → B ≤ i ∧ i < ab := fun i hi => ⟨owns_base hod hi, HLT.out i hi⟩
        have hS11 : S w11 := HSI.out _ ((HS1.out _ hS).trans' hk11 (U := noBlk) (fun _ _ h => h) (fun i hi e => by have := (hlt9 i e).1; have := HBE.out; omega)) (hk11.blk (HS2.out _ hS) (fun e => by have := (hlt9 ab e).2; omega))
        have hq11 : ∀ i, (Value.slice qa (ptHead p k ++ be 0 1).length qc).ownBlock = some i → B ≤ i ∧ i ≠ ab := fun i hi => ⟨owns_base ho11 hi, by
          rcases hb11 with h | h
          · rw [h] at hi; have := (hlt9 i hi).2; omega
          · have h1 := h i hi
            have h2 := lt_of_block (HS2.out _ hS)
            omega⟩
        have hlen : (ptHead p k ++ be 0 1).length = ql + 1 := by rw [List.length_append, ptHead_len, be_length, HQL.out]
        have hB11 : B ≤ w11.heap.size := Nat.le_trans hB10 hk11.size
        rw [hlen] at hq11 ⊢
        have ho11' := ho11
        rw [hlen] at ho11'
        clear hS hod hod' hk11 hb11 hlt9
        go_wp2_with fail
        refine ⟨hS11, ?_⟩
        refine wpAnyH_one (k := 6) rfl (by kernel_rfl) ?_
        go_wp2_with fail
        refine (bnum_any w11 B _ (ptHead p k ++ be 0 1) 0 2 (by rw [hlen]; exact ho11') hB11 (by omega) (by omega) (by rw [hlen]; omega) (by omega)).mono ?_
        rintro e w12 ⟨v12, rfl, ho12, -, hk12⟩
        obtain ⟨ra, rc, rfl, -, -⟩ := (Rd.of_owns ho12).form
        have hS12 : S w12 := HSI.out _ ((HS1.out _ hS11).trans' hk12 (U := noBlk) (fun _ _ h => h) (fun i hi e => by have := (hq11 i e).1; have := HBE.out; omega)) (hk12.blk (HS2.out _ hS11) (fun e => (hq11 ab e).2 rfl))
        have hlen2 : (ptHead p k ++ be 0 1 ++ be 0 2).length = ql + 3 := by rw [List.length_append, hlen, be_length]
        have hpe : ptHead p k ++ be 0 1 ++ be 0 2 = ptHead p (k + 1) := by
          rw [ptHead_succ, HDS.out]
          first | rfl | (show _ = ptHead p k ++ be (Int.toNat _) 1 ++ be (Int.toNat _) 2; rw [Int.toNat_natCast, Int.toNat_natCast])
        rw [hlen2] at ho12 ⊢
        rw [hpe] at ho12
        have HO12 := Lib.hid ho12
        clear hS11 hq11 ho11 ho11' hk12 ho12 hpe
        go_wp2_with fail
        refine ⟨hS12, ?_⟩
        refine tka 7 (.slice ra (ql + 3) rc) rfl hS12 ?_
        simp only [Act.put, List.setIfInBounds_toArray, List.set_cons_zero, List.set_cons_succ, List.getElem_toArray, List.getElem_cons_succ, List.getElem_cons_zero]
        refine wpAnyH_done (by kernel_rfl) ?_ _
        have HK12 := Lib.hid (HS1.out _ hS12)
        clear hS12 HS1 HS2 HSI HD0 HD1 HAB HO9 HK9 HLT
        go_wp2_with fail
        go_roundw
        case rel => exact ⟨k + 1, ql + 3, ra, rc, by omega, rfl, by go_num, by have := HQL.out; omega, Lib.hid (by rw [HQL.out]; omega), HO12, HK12⟩
        case measure => simp [intOf]; omega
    · obtain rfl : k = 3 := by omega
      have HSM := Lib.hid ((pt_mem (p := p) (v := .slice oa n ca) (by rw [Hpc.out]; exact HRW.out)).2.2.2)
      rw [Nat.zero_add] at HSM
      obtain ⟨ss, hss⟩ : ∃ x, p.sum.map vb = x := ⟨_, rfl⟩
      have HSS := Lib.hid hss
      have hsl : ss.length = 32 := by rw [← hss, List.length_map]; exact HSL.out
      have hso : ∀ u ∈ ss, u.oneCell' = true := by rw [← hss]; exact oneCell_vb _
      rw [hss] at HSM
      have hqe : ql = 10 := HQL.out
      subst hqe
      obtain ⟨S, hS0⟩ : ∃ S : World → Prop, S = fun w' => Keep noBlk w1 w' := ⟨_, rfl⟩
      have HSE := Lib.hid (show ∀ w', S w' → Keep noBlk w1 w' from fun w' h => by rw [hS0] at h; exact h)
      have HSI := Lib.hid (show ∀ w', Keep noBlk w1 w' → S w' from fun w' h => by rw [hS0]; exact h)
      have HD0 := Lib.hid (fun w' (h : S w') => (HSE.out w' h).cell HB0.out id)
      have HD1 := Lib.hid (fun w' (h : S w') => (HSE.out w' h).cell HC0.out id)
      have hod := (Keep.refl noBlk wr).drew.owns HO.out (fun _ _ => id)
      have hS : S wr.drew := HSI.out _ HKW.out.drew
      clear hS0 hss a0 HO
      go_wp2_with fail
      refine wp_region_held (S := S) (by kernel_rfl) ?_
      change wpAnyH _ _ _ _ _ _ _ _ wr.drew
      generalize wr.drew = w10 at hS hod ⊢
      refine tka 0 (.slice pa 10 pcp) rfl hS ?_
      simp only [Act.put, List.setIfInBounds_toArray, List.set_cons_zero, List.set_cons_succ, List.getElem_toArray, List.getElem_cons_zero]
      refine tkb 1 (.pointer (some ⟨pb, 1, none⟩)) rfl hS ?_
      simp only [Act.put, List.setIfInBounds_toArray, List.set_cons_zero, List.set_cons_succ, List.getElem_toArray, List.getElem_cons_succ, List.getElem_cons_zero]
      refine tkd 2 (.int .i64 (bi : Int)) rfl (.inl ⟨by rfl, fun w' hw' => by have c := HD0.out w' hw'; go_simp⟩) hS ?_
      simp only [Act.put, List.setIfInBounds_toArray, List.set_cons_zero, List.set_cons_succ, List.getElem_toArray, List.getElem_cons_succ, List.getElem_cons_zero]
      refine tkb 4 (.pointer (some ⟨pb, 2, none⟩)) rfl hS ?_
      simp only [Act.put, List.setIfInBounds_toArray, List.set_cons_zero, List.set_cons_succ, List.getElem_toArray, List.getElem_cons_succ, List.getElem_cons_zero]
      refine tkd 5 (.int .i64 (le : Int)) rfl (.inl ⟨by rfl, fun w' hw' => by have c := HD1.out w' hw'; go_simp⟩) hS ?_
      simp only [Act.put, List.setIfInBounds_toArray, List.set_cons_zero, List.set_cons_succ, List.getElem_toArray, List.getElem_cons_succ, List.getElem_cons_zero]
      refine tkb 7 (.pointer (some ⟨pb, 3, none⟩)) rfl hS ?_
      simp only [Act.put, List.setIfInBounds_toArray, List.set_cons_zero, List.set_cons_succ, List.getElem_toArray, List.getElem_cons_succ, List.getElem_cons_zero]
      refine tkb 8 (.slice (some ⟨pb, 3, none⟩) 32 32) rfl hS ?_
      simp only [Act.put, List.setIfInBounds_toArray, List.set_cons_zero, List.set_cons_succ, List.getElem_toArray, List.getElem_cons_succ, List.getElem_cons_zero]
      refine wpAnyH_one (k := 3) rfl (by kernel_rfl) ?_
      go_wp2_with fail
      have hB10 : B ≤ w10.heap.size := by rw [← HBE.out]; exact (HSE.out _ hS).size
      refine (bnum_any w10 B _ (ptHead p 3) bi 4 (by rw [ptHead_len]; exact hod) hB10 (by omega) (by omega) (by rw [ptHead_len]; omega) (by omega)).mono ?_
      rintro e w11 ⟨v11, rfl, ho11, hb11, hk11⟩
      obtain ⟨qa, qc, rfl, -, -⟩ := (Rd.of_owns ho11).form
      have hS11 : S w11 := HSI.out _ ((HSE.out _ hS).trans' hk11 (U := noBlk) (fun _ _ h => h) (fun i hi e => by have := owns_base hod e; have := HBE.out; omega))
      have hlen : (ptHead p 3 ++ be bi 4).length = 14 := by rw [List.length_append, ptHead_len, be_length]
      have hB11 : B ≤ w11.heap.size := Nat.le_trans hB10 hk11.size
      have ho11' := ho11
      rw [hlen] at ho11' ⊢
      clear hS hod hk11 hb11
      go_wp2_with fail
      refine ⟨hS11, ?_⟩
      refine wpAnyH_one (k := 6) rfl (by kernel_rfl) ?_
      go_wp2_with fail
      refine (bnum_any w11 B _ (ptHead p 3 ++ be bi 4) le 1 (by rw [hlen]; exact ho11') hB11 (by omega) (by omega) (by rw [hlen]; omega) (by omega)).mono ?_
      rintro e w12 ⟨v12, rfl, ho12, -, hk12⟩
      obtain ⟨ra, rc, rfl, -, -⟩ := (Rd.of_owns ho12).form
      have hS12 : S w12 := HSI.out _ ((HSE.out _ hS11).trans' hk12 (U := noBlk) (fun _ _ h => h) (fun i hi e => by have := owns_base ho11' e; have := HBE.out; omega))
      have hlen2 : (ptHead p 3 ++ be bi 4 ++ be le 1).length = 15 := by rw [List.length_append, hlen, be_length]
      have hB12 : B ≤ w12.heap.size := Nat.le_trans hB11 hk12.size
      rw [hlen2] at ho12 ⊢
      clear hS11 ho11 ho11' hk12
      go_wp2_with fail
      refine ⟨hS12, ?_⟩
      refine wpAnyH_one (k := 9) rfl (by kernel_rfl) ?_
      refine wpList_append_rd2 rfl (.tmp 45) (.tmp 47) 119 51 rfl _ Tryz.underlying51 rfl B 5 _ 1 1 Tryz.underlying119 infoU8 rfl (by omega) (.slice ra 15 rc) 15 ((ptHead p 3 ++ be bi 4 ++ be le 1).map vb) rfl ho12 ⟨pb, 3, none⟩ 32 32 ss rfl hsl (fun j u hj => by
        rw [add_lit]
        exact (HSE.out _ hS12).cell (HSM.out j u hj) id) hso (by unfold maxLen; omega) (by omega) hB12 ?_
      intro v13 w13 ho13 hk13 hb13
      obtain ⟨sa, sc, rfl, -, -⟩ := (Rd.of_owns ho13).form
      have hS13 : S w13 := HSI.out _ ((HSE.out _ hS12).trans' hk13 (U := noBlk) (fun _ _ h => h) (fun i hi e => by have := owns_base ho12 e; have := HBE.out; omega))
      have HO13 : Hid (w13.ownsRow B 5 1 (.slice sa 47 sc) 47 ((ptBytes p).map vb)) := Lib.hid (by
        have e : (ptBytes p).map vb = (ptHead p 3 ++ be bi 4 ++ be le 1).map vb ++ ss := by
          unfold ptBytes
          rw [HBI.out, HLE.out, Int.toNat_natCast, Int.toNat_natCast, List.map_append, HSS.out]
        rw [e]
        exact ho13)
      clear hS12 ho12 ho13 hk13 hb13
      refine wpList_nil ?_
      refine ⟨hS13, ?_⟩
      refine tka 10 (.slice sa 47 sc) rfl hS13 ?_
      simp only [Act.put, List.setIfInBounds_toArray, List.set_cons_zero, List.set_cons_succ, List.getElem_toArray, List.getElem_cons_succ, List.getElem_cons_zero]
      refine tka 11 (.int .i64 0) rfl hS13 ?_
      simp only [Act.put, List.setIfInBounds_toArray, List.set_cons_zero, List.set_cons_succ, List.getElem_toArray, List.getElem_cons_succ, List.getElem_cons_zero]
      refine wpAnyH_done (by kernel_rfl) ?_ _
      have HK13 := Lib.hid (HSE.out _ hS13)
      clear hS13 HSE HSI
      go_wp2_with fail
      go_ret2
      have e : ptB p = ptBytes p := by unfold ptB; rw [HT.out]; rfl
      refine ⟨_, by rw [HT.out]; rfl, ?_, HKA.out.trans HK13.out⟩
      rw [e, ptBytes_len HSL.out]
      exact ownsRow_mono HO13.out (by have := HBE.out; have := HPB.out; omega)

end Go.Proofs.YtaiicjhnhbkgmaaGreatDoor

/-
  Block pointers: their bytes, by the document.
  Conditions: those told.
-/
namespace Go.Proofs.YtaiicjhnhbkgmaaGreatDoor
open Go.RowKit Go.Maps Go.ChangeMaps
set_option maxRecDepth 100000
set_option linter.unusedVariables false

theorem be_one (n : Nat) : be n 1 = [UInt8.ofNat n] := by
  unfold be beAt
  simp [List.range_succ]
theorem be_two (n : Nat) : be n 2 = [UInt8.ofNat (n / 256), UInt8.ofNat n] := by
  unfold be beAt
  simp [List.range_succ]
theorem vb_of {n : Nat} (h : n < 256) : vb (UInt8.ofNat n) = .int .u8 (n : Int) := by
  unfold vb
  simp
  omega
theorem vb_mod (n : Nat) : vb (UInt8.ofNat n) = .int .u8 ((n % 256 : Nat) : Int) := by
  unfold vb
  simp
theorem adBs_cells {d s : Nat} (hd : d < 8) (hs : s < 4096) : (be d 1 ++ be s 2).map vb = [.int .u8 (d : Int), .int .u8 ((s / 256 : Nat) : Int), .int .u8 ((s % 256 : Nat) : Int)] := by
  rw [be_one, be_two]
  simp only [List.cons_append, List.nil_append, List.map_cons, List.map_nil, vb_of (show d < 256 by omega), vb_of (show s / 256 < 256 by omega), vb_mod s]
set_option maxHeartbeats 16000000 in
theorem rbytes_any (w : World) (v : Value) (p : Pt) (h0 : PtV w v p) : Calls Tryz.prog 93 #[.agg (ptCs v p).toArray] w (BytesPost w p) := by
  obtain ⟨oa, ca, hv, -, -⟩ := h0.rd.form
  subst hv
  obtain ⟨n, hn⟩ : ∃ x, p.addrs.length = x := ⟨_, rfl⟩
  have HN := Lib.hid hn
  rw [hn] at h0 ⊢
  obtain ⟨w1, hw1, hk1, hb_0, hs1⟩ := alloc_facts w (ptCs (.slice oa n ca) p).toArray 34
  obtain ⟨a0, b0, c0, d0⟩ := pt_mem (rangeAt_whole hb_0)
  have HP0 := Lib.hid d0; have HB0 := Lib.hid hb_0
  have hl0 : (ptCs (.slice oa n ca) p).length = 35 := ptCs_len h0.sum
  simp only [Nat.zero_add] at a0 b0 c0
  have HC := Lib.hid (rcheckP_any w1 _ p (h0.keep hk1 fun _ _ => id))
  have HK := Lib.hid hk1
  have HKA := Lib.hid hk1
  have HRA := Lib.hid h0.rd
  obtain ⟨t, ht⟩ : ∃ t, p.may = t := ⟨_, rfl⟩
  have HT := Lib.hid ht
  rw [ht] at HC
  have HR0 := Lib.hid (rangeAt_whole HB0.out)
  have HSL := Lib.hid h0.sum
  obtain ⟨pc, hpc⟩ : ∃ x, ptCs (.slice oa n ca) p = x := ⟨_, rfl⟩
  have Hpc := Lib.hid hpc
  rw [hpc] at hw1 HC hl0 HR0 ⊢
  have HK1 := Lib.hid (Keep.refl noBlk w1)
  have hs1e : w.heap.size < w1.heap.size := by omega
  obtain ⟨pb, hpb⟩ : ∃ b, w.heap.size = b := ⟨_, rfl⟩
  have HPB := Lib.hid hpb
  rw [hpb] at a0 b0 c0 HR0 hs1e
  have HRW : Hid (w1.rangeAt pb 0 pc) := HR0
  clear ht hb_0 d0 hk1 hs1 hpc h0 HB0 HP0 hn hpb
  cases t
  · go_enter Tryz.func93, Tryz.ntmps93
    go_wp2_with (first
      | ((with_reducible show wpList _ _ _ (⟨_, .load 34 (.tmp 1), _, _, _, _⟩ :: _) _ _); refine wpList_load_g (by rfl) 34 (.tmp 1) rfl (w.heap.size) 0 rfl pc _ (by rw [HPB.out]; exact HR0.out) ptUnder rfl (sizePtL hl0) ?_))
    refine HC.out.mono ?_
    rintro e w2 ⟨rfl, hk⟩
    have HK2 := Lib.hid hk; have HK := Lib.hid (HK.out.trans hk)
    clear hk HC
    go_wp2_with fail
    go_ret2
    exact ⟨_, by rw [HT.out]; rfl, by rw [show ptB p = [] by unfold ptB; rw [HT.out]; rfl]; exact World.ownsRow_nil _ _ _ _, HK.out⟩
  · obtain ⟨hn3, hin, hb0, hb4, hl0', hl4⟩ := pt_bounds HT.out
    rw [HN.out] at hn3
    have HIN := Lib.hid hin
    obtain ⟨bi, hbi⟩ : ∃ b : Nat, p.birth = (b : Int) := ⟨p.birth.toNat, by omega⟩
    obtain ⟨le, hle⟩ : ∃ b : Nat, p.level = (b : Int) := ⟨p.level.toNat, by omega⟩
    have hbib : bi ≤ 2147483648 := by omega
    have hleb : le ≤ 3 := by omega
    have HBI := Lib.hid hbi; have HLE := Lib.hid hle
    rw [hbi] at b0
    rw [hle] at c0
    have HA0 := Lib.hid a0; have HB0 := Lib.hid b0; have HC0 := Lib.hid c0
    clear hin hb0 hb4 hl0' hl4 hbi hle
    go_enter Tryz.func93, Tryz.ntmps93
    go_wp2_with (first
      | ((with_reducible show wpList _ _ _ (⟨_, .load 34 (.tmp 1), _, _, _, _⟩ :: _) _ _); refine wpList_load_g (by rfl) 34 (.tmp 1) rfl (w.heap.size) 0 rfl pc _ (by rw [HPB.out]; exact HR0.out) ptUnder rfl (sizePtL hl0) ?_))
    refine HC.out.mono ?_
    rintro e w2 ⟨rfl, hk⟩
    have HK2 := Lib.hid hk; have HK := Lib.hid (HK.out.trans hk)
    clear hk HC
    have en : IntKind.u8.wrap (n : Int) = (n : Int) := by rw [IntWalk.u8_in _ (by omega)]
    obtain ⟨w3, hw3, hk3, hb3, hs3⟩ := alloc_facts w2 #[.int .u8 (n : Int)] 5
    obtain ⟨B, hB⟩ : ∃ B, w1.heap.size = B := ⟨_, rfl⟩
    have HBE := Lib.hid hB
    have hpbB : pb < B := by omega
    have hB2 : B ≤ w2.heap.size := by rw [← hB]; exact HK2.out.size
    obtain ⟨q0, hq0⟩ : ∃ b, w2.heap.size = b := ⟨_, rfl⟩
    have HO3 : Hid (w3.ownsRow B 5 1 (.slice (some ⟨q0, 0, none⟩) 1 1) 1 ((ptHead p 0).map vb)) := Lib.hid (by
      have e : (ptHead p 0).map vb = [.int .u8 (n : Int)] := by
        unfold ptHead
        rw [HN.out, be_one]
        simp only [List.range_zero, List.flatMap_nil, List.append_nil, List.map_cons, List.map_nil, vb_of (show n < 256 by omega)]
      rw [e, ← hw3, ← hq0]
      exact ⟨rfl, .inr ⟨w2.heap.size, 1, #[.int .u8 (n : Int)], rfl, hB2, heap_alloc_new w2 _, Nat.le_refl _, by unfold maxLen; omega, rfl, rfl⟩⟩)
    have HK3 := Lib.hid (HK2.out.trans hk3)
    have a0 := HK2.out.cell HA0.out id
    clear hk3 hb3 hs3 hB b0 c0
    rw [HPB.out]
    go_wp2_with fail
    clear hw3 hq0 a0
    go_loopw [4, 5] (fun t i wr => ∃ (k ql : Nat) (pa : Option Addr) (pc : Nat), k ≤ 3 ∧ t = .slice pa ql pc ∧ i = .int .i64 k ∧ ql ≤ 10 ∧ Hid (ql = 1 + 3 * k) ∧ Hid (wr.ownsRow B 5 1 (.slice pa ql pc) ql ((ptHead p k).map vb)) ∧ Hid (Keep noBlk w1 wr)) (fun _ i _ => 3 - (intOf i).toNat)
    case atStart => exact ⟨0, 1, _, 1, by omega, rfl, rfl, by omega, Lib.hid rfl, HO3, HK3⟩
    case round =>
    clear HO3 HK3 HK2
    obtain ⟨k, ql, pa, pcp, hk, rfl, rfl, hql, HQL, HO, HKW⟩ := hrel
    have a0 := HKW.out.cell HA0.out id
    by_cases hlt : k < 3
    · have hki : (k : Int) < 3 := by omega
      have hk0 : (0 : Int) ≤ (k : Int) := by omega
      obtain ⟨d, s, hds, hd8, hs4⟩ := ad_nat HIN.out k
      have HDS := Lib.hid hds
      obtain ⟨q1, hq1⟩ : ∃ x, s / 256 = x := ⟨_, rfl⟩
      obtain ⟨q2, hq2⟩ : ∃ x, s % 256 = x := ⟨_, rfl⟩
      have hq1b : q1 < 16 := by omega
      have hq2b : q2 < 256 := by omega
      have i1 : (s : Int).tdiv 256 = (q1 : Int) := by rw [Int.tdiv_eq_ediv_of_nonneg (by omega), ← hq1]; omega
      have i2 : (s : Int) / 256 = (q1 : Int) := by rw [← hq1]; omega
      have i3 : (s : Int).tmod 256 = (q2 : Int) := by rw [Int.tmod_eq_emod_of_nonneg (by omega), ← hq2]; omega
      have i4 : (s : Int) % 256 = (q2 : Int) := by rw [← hq2]; omega
      have j1 : IntKind.u8.wrap (d : Int) = (d : Int) := by rw [IntWalk.u8_in _ (by omega)]
      have j2 : IntKind.u8.wrap (q1 : Int) = (q1 : Int) := by rw [IntWalk.u8_in _ (by omega)]
      have j3 : IntKind.u8.wrap (q2 : Int) = (q2 : Int) := by rw [IntWalk.u8_in _ (by omega)]
      have j4 : IntKind.i64.wrap (q1 : Int) = (q1 : Int) := by rw [IntWalk.i64_in _ (by omega)]
      have j5 : IntKind.i64.wrap (q2 : Int) = (q2 : Int) := by rw [IntWalk.i64_in _ (by omega)]
      have HPE : Hid ((ptHead p (k + 1)).map vb = (ptHead p k).map vb ++ [.int .u8 (d : Int), .int .u8 (q1 : Int), .int .u8 (q2 : Int)]) := Lib.hid (by
        have h := adBs_cells hd8 hs4
        rw [hq1, hq2] at h
        rw [← h, ← List.map_append, ptHead_succ, hds, List.append_assoc]
        rfl)
      have hone : ∀ u ∈ [Value.int .u8 (d : Int), .int .u8 (q1 : Int), .int .u8 (q2 : Int)], u.oneCell' = true := by simp [Value.oneCell']
      obtain ⟨w8, hw8, hk8, hb8, hs8⟩ := alloc_facts wr #[.int .i64 0, .int .i64 0] 70
      obtain ⟨ab, hab⟩ : ∃ b, wr.heap.size = b := ⟨_, rfl⟩
      rw [hab] at hb8
      have HLT : Hid (∀ i, (Value.slice pa ql pcp).ownBlock = some i → i < ab) := Lib.hid (fun i hi => by rw [← hab]; exact (HO.out.lt i hi).2)
      have HB8 := Lib.hid hb8
      have HAW : Hid (w1.heap.size ≤ ab) := Lib.hid (by rw [← hab]; exact HKW.out.size)
      have HK8 := Lib.hid (HKW.out.trans hk8); have HO8 := Lib.hid (hk8.owns HO.out fun _ _ => id)
      have hrk := HRA.out.keep (HKA.out.trans HKW.out) (fun _ _ => id)
      have hql10 : ql ≤ 7 := by have := HQL.out; omega
      have hz := zeroAddr
      clear hk8 hb8 hs8 hds a0 hq1 hq2 HKW HO
      by_cases hka : k < n
      · have hkai : (k : Int) < (n : Int) := by omega
        obtain ⟨x, h_x⟩ : ∃ x, p.addrs[k]? = some x := ⟨p.addrs[k]'(by rw [HN.out]; exact hka), List.getElem?_eq_getElem _⟩
        have hxe : x = ⟨(d : Int), (s : Int)⟩ := by
          have := HDS.out
          rw [List.getD_eq_getElem?_getD, h_x] at this
          exact this
        subst hxe
        rw [← HN.out] at hrk
        obtain ⟨g, o, cap', h_v, -⟩ := rd_ad hrk h_x
        rw [HN.out] at h_v
        have e1 : oa = some ⟨g, o, none⟩ := by cases h_v; rfl
        subst e1
        have HX : Hid (w1.rangeAt g (o + k * 2) (adCs ⟨(d : Int), (s : Int)⟩)) := Lib.hid (by
          have hr1 := HRA.out.keep HKA.out (fun _ _ => id)
          rw [← HN.out] at hr1
          obtain ⟨g', o', cap2, h_v2, h_at⟩ := rd_ad hr1 h_x
          cases h_v2
          exact h_at)
        clear h_x h_v hrk
        go_wp2_with (first
          | ((with_reducible show wpList _ _ _ (⟨some 6, .alloc 70, _, _, _, _⟩ :: _) _ _); refine wpList_alloc_at rfl 70 rfl zeroAd zeroAddr #[.int .i64 0, .int .i64 0] rfl ?_; rw [hw8, hab])
          | ((with_reducible show wpList _ _ _ (⟨none, .store 70 (.tmp 6) (.tmp 20), _, _, _, _⟩ :: _) _ _); refine wpList_store_agg rfl 70 (.tmp 6) (.tmp 20) rfl ab 0 (adCs zAd) rfl rfl #[.int .i64 0, .int .i64 0] 70 HB8.out (Nat.le_refl _) sizeAd (oneCell_ad _) ?_
             intro w9 hb9 hk9
             rw [spl_whole _ _ (by rfl)] at hb9
             have HAB := Lib.hid hb9
             have HK9 := Lib.hid (HK8.out.trans' hk9 (U := noBlk) (fun _ _ h => h) (fun i hi e => by have := HAW.out; omega))
             have HO9 := Lib.hid (hk9.owns HO8.out (fun i hi e => by have := HLT.out i hi; omega))
             have a9 := HK9.out.cell HA0.out id
             skip
             clear hb9 hk9)
          | ((with_reducible show wpList _ _ _ (⟨_, .load 70 (.tmp 29), _, _, _, _⟩ :: _) _ _); refine wpList_load_mid rfl 70 (.tmp 29) rfl g (o + k * 2) rfl (adCs ⟨(d : Int), (s : Int)⟩) _ (HK9.out.rangeAt HX.out) adUnder rfl sizeAd ?_)
          | ((with_reducible show wpList _ _ _ (⟨none, .store 70 (.tmp 6) (.tmp 30), _, _, _, _⟩ :: _) _ _); refine wpList_store_agg rfl 70 (.tmp 6) (.tmp 30) rfl ab 0 (adCs ⟨(d : Int), (s : Int)⟩) rfl rfl _ 70 HAB.out (Nat.le_refl _) sizeAd (oneCell_ad _) ?_
             intro w10 hb9 hk9
             rw [spl_whole _ _ (by rfl)] at hb9
             have HAB := Lib.hid hb9
             have HO9 := Lib.hid (hk9.owns HO9.out (fun i hi e => by have := HLT.out i hi; omega))
             have HK9 := Lib.hid (HK9.out.trans' hk9 (U := noBlk) (fun _ _ h => h) (fun i hi e => by have := HAW.out; omega))
             clear hb9 hk9 a9
             have hd0 : w10.cell? ⟨ab, 0, none⟩ = some (.int .i64 (d : Int)) := blk_cell HAB.out rfl
             have hd1 : w10.cell? ⟨ab, 1, none⟩ = some (.int .i64 (s : Int)) := blk_cell HAB.out rfl
             obtain ⟨wz, hwz, hkz, hbz, hsz⟩ := alloc_facts w10 #[.int .u8 (d : Int), .int .u8 (q1 : Int), .int .u8 (q2 : Int)] 5
             obtain ⟨bx, hbx⟩ : ∃ b, w10.heap.size = b := ⟨_, rfl⟩
             rw [hbx] at hbz
             have HRZ : Hid (Rd wz 1 (.slice (some ⟨bx, 0, none⟩) 3 3) 3 [.int .u8 (d : Int), .int .u8 (q1 : Int), .int .u8 (q2 : Int)]) := Lib.hid (rd_blk (n := 3) (size := 1) (vs := [.int .u8 (d : Int), .int .u8 (q1 : Int), .int .u8 (q2 : Int)]) hbz rfl (by unfold maxLen; omega))
             have HOZ := Lib.hid (hkz.owns HO9.out fun _ _ => id); have HKZ := Lib.hid (HK9.out.trans hkz)
             have hsz8 : B ≤ wz.heap.size := by rw [← HBE.out]; exact HKZ.out.size
             clear hkz hbz hsz)
          | (at_builtin; refine wpList_append_rd rfl (.tmp 31) (.tmp 43) 51 rfl B 5 _ 1 1 Tryz.underlying51 infoU8 rfl (by omega) (.slice pa ql pcp) (ql) ((ptHead p k).map vb) rfl HOZ.out (.slice (some ⟨bx, 0, none⟩) 3 3) 3 ([.int .u8 (d : Int), .int .u8 (q1 : Int), .int .u8 (q2 : Int)]) rfl HRZ.out hone (by unfold maxLen; omega) (by omega) hsz8 ?_
             intro v' w13 ho5 hk5 hn5 hb5
             obtain ⟨va, vc, rfl, -, -⟩ := (Rd.of_owns ho5).form
             have HO13 : Hid (w13.ownsRow B 5 1 (.slice va (ql + 3) vc) (ql + 3) ((ptHead p (k + 1)).map vb)) := Lib.hid (by rw [HPE.out]; exact ho5)
             have HK13 := Lib.hid (HKZ.out.trans' hk5 (U := noBlk) (fun _ _ h => h) (fun i hi e => by have := owns_base HOZ.out e; have := HBE.out; omega))
             clear ho5 hk5 hn5 hb5))
        go_roundw
        case rel => exact ⟨k + 1, ql + 3, va, vc, by omega, rfl, by go_num, by have := HQL.out; omega, Lib.hid (by rw [HQL.out]; omega), HO13, HK13⟩
        case measure => simp [intOf]; omega
      · have hkai : ¬ (k : Int) < (n : Int) := by omega
        have hd0 : d = 0 ∧ s = 0 := by
          have h := HDS.out
          rw [List.getD_eq_getElem?_getD, List.getElem?_eq_none (by rw [HN.out]; omega)] at h
          have h1 := congrArg Ad.dev h
          have h2 := congrArg Ad.sec h
          have h3 : (0 : Int) = (d : Int) := h1
          have h4 : (0 : Int) = (s : Int) := h2
          omega
        have HZE : Hid (adCs zAd = adCs ⟨(d : Int), (s : Int)⟩) := Lib.hid (by rw [hd0.1, hd0.2]; rfl)
        clear hrk hd0
        go_wp2_with (first
          | ((with_reducible show wpList _ _ _ (⟨some 6, .alloc 70, _, _, _, _⟩ :: _) _ _); refine wpList_alloc_at rfl 70 rfl zeroAd zeroAddr #[.int .i64 0, .int .i64 0] rfl ?_; rw [hw8, hab])
          | ((with_reducible show wpList _ _ _ (⟨none, .store 70 (.tmp 6) (.tmp 20), _, _, _, _⟩ :: _) _ _); refine wpList_store_agg rfl 70 (.tmp 6) (.tmp 20) rfl ab 0 (adCs zAd) rfl rfl #[.int .i64 0, .int .i64 0] 70 HB8.out (Nat.le_refl _) sizeAd (oneCell_ad _) ?_
             intro w9 hb9 hk9
             rw [spl_whole _ _ (by rfl)] at hb9
             have HAB := Lib.hid hb9
             have HK9 := Lib.hid (HK8.out.trans' hk9 (U := noBlk) (fun _ _ h => h) (fun i hi e => by have := HAW.out; omega))
             have HO9 := Lib.hid (hk9.owns HO8.out (fun i hi e => by have := HLT.out i hi; omega))
             have a9 := HK9.out.cell HA0.out id
             rw [HZE.out] at HAB
             have hd0 : w9.cell? ⟨ab, 0, none⟩ = some (.int .i64 (d : Int)) := blk_cell HAB.out rfl
             have hd1 : w9.cell? ⟨ab, 1, none⟩ = some (.int .i64 (s : Int)) := blk_cell HAB.out rfl
             obtain ⟨wz, hwz, hkz, hbz, hsz⟩ := alloc_facts w9 #[.int .u8 (d : Int), .int .u8 (q1 : Int), .int .u8 (q2 : Int)] 5
             obtain ⟨bx, hbx⟩ : ∃ b, w9.heap.size = b := ⟨_, rfl⟩
             rw [hbx] at hbz
             have HRZ : Hid (Rd wz 1 (.slice (some ⟨bx, 0, none⟩) 3 3) 3 [.int .u8 (d : Int), .int .u8 (q1 : Int), .int .u8 (q2 : Int)]) := Lib.hid (rd_blk (n := 3) (size := 1) (vs := [.int .u8 (d : Int), .int .u8 (q1 : Int), .int .u8 (q2 : Int)]) hbz rfl (by unfold maxLen; omega))
             have HOZ := Lib.hid (hkz.owns HO9.out fun _ _ => id); have HKZ := Lib.hid (HK9.out.trans hkz)
             have hsz8 : B ≤ wz.heap.size := by rw [← HBE.out]; exact HKZ.out.size
             clear hkz hbz hsz
             clear hb9 hk9)
          | (at_builtin; refine wpList_append_rd rfl (.tmp 31) (.tmp 43) 51 rfl B 5 _ 1 1 Tryz.underlying51 infoU8 rfl (by omega) (.slice pa ql pcp) (ql) ((ptHead p k).map vb) rfl HOZ.out (.slice (some ⟨bx, 0, none⟩) 3 3) 3 ([.int .u8 (d : Int), .int .u8 (q1 : Int), .int .u8 (q2 : Int)]) rfl HRZ.out hone (by unfold maxLen; omega) (by omega) hsz8 ?_
             intro v' w13 ho5 hk5 hn5 hb5
             obtain ⟨va, vc, rfl, -, -⟩ := (Rd.of_owns ho5).form
             have HO13 : Hid (w13.ownsRow B 5 1 (.slice va (ql + 3) vc) (ql + 3) ((ptHead p (k + 1)).map vb)) := Lib.hid (by rw [HPE.out]; exact ho5)
             have HK13 := Lib.hid (HKZ.out.trans' hk5 (U := noBlk) (fun _ _ h => h) (fun i hi e => by have := owns_base HOZ.out e; have := HBE.out; omega))
             clear ho5 hk5 hn5 hb5))
        go_roundw
        case rel => exact ⟨k + 1, ql + 3, va, vc, by omega, rfl, by go_num, by have := HQL.out; omega, Lib.hid (by rw [HQL.out]; omega), HO13, HK13⟩
        case measure => simp [intOf]; omega
    · obtain rfl : k = 3 := by omega
      have hqe : ql = 10 := HQL.out
      subst hqe
      have HSM := Lib.hid ((pt_mem (p := p) (v := .slice oa n ca) (by rw [Hpc.out]; exact HRW.out)).2.2.2)
      rw [Nat.zero_add] at HSM
      obtain ⟨ss, hss⟩ : ∃ x, p.sum.map vb = x := ⟨_, rfl⟩
      have HSS := Lib.hid hss
      have hsl : ss.length = 32 := by rw [← hss, List.length_map]; exact HSL.out
      have hso : ∀ u ∈ ss, u.oneCell' = true := by rw [← hss]; exact oneCell_vb _
      rw [hss] at HSM
      clear hss HQL hlt hk hql
      go_wp2_with fail
      clear a0
      rw [show ((3 : Nat) : Int) = 3 from rfl]
      go_loopw [4, 7] (fun t i wr => ∃ (r : Nat) (ii : Int) (pa : Option Addr) (pc : Nat), r ≤ 4 ∧ ii = 3 - (r : Int) ∧ t = .slice pa (10 + r) pc ∧ i = .int .i64 ii ∧ Hid (wr.ownsRow B 5 1 (.slice pa (10 + r) pc) (10 + r) ((ptHead p 3 ++ (be bi 4).take r).map vb)) ∧ Hid (Keep noBlk w1 wr)) (fun _ i _ => (intOf i + 1).toNat)
      case atStart => exact ⟨0, 3, pa, pcp, by omega, by omega, rfl, rfl, Lib.hid (by rw [List.take_zero, List.append_nil]; exact HO.out), HKW⟩
      case round =>
      clear HO HKW
      obtain ⟨r, ii, pa, pc', hr, hii, rfl, rfl, HR, HKW⟩ := hrel
      by_cases hlt : r < 4
      · have hi0 : (0 : Int) ≤ ii := by omega
        have hi4 : ii ≤ 3 := by omega
        obtain ⟨j, hj⟩ : ∃ j : Nat, ii = (j : Int) := ⟨ii.toNat, by omega⟩
        have hjr : j = 4 - r - 1 := by omega
        have hjj := beAt_toNat bi 4 r
        rw [← hjr] at hjj
        have HV : Hid (Value.int .u8 ((bi : Int) / 2 ^ (8 * j) % 256) = vb (beAt bi 4 r)) := Lib.hid (by unfold vb; rw [hjj])
        obtain ⟨w8, hw8, hk8, hb8, hs8⟩ := alloc_facts wr #[.int .u8 ((bi : Int) / 2 ^ (8 * j) % 256)] 5
        obtain ⟨bz, hbz⟩ : ∃ b, wr.heap.size = b := ⟨_, rfl⟩
        rw [hbz] at hb8
        have HR8 : Hid (Rd w8 1 (.slice (some ⟨bz, 0, none⟩) 1 1) 1 [vb (beAt bi 4 r)]) := Lib.hid (by rw [← HV.out]; exact rd_blk (n := 1) (size := 1) (vs := [.int .u8 ((bi : Int) / 2 ^ (8 * j) % 256)]) hb8 rfl (by unfold maxLen; omega))
        have HO8 := Lib.hid (hk8.owns HR.out fun _ _ => id); have HK8 := Lib.hid (HKW.out.trans hk8)
        have hsz8 : B ≤ w8.heap.size := by rw [← HBE.out]; exact HK8.out.size
        have hone : ∀ u ∈ [vb (beAt bi 4 r)], u.oneCell' = true := by intro u hu; rw [List.mem_singleton.1 hu]; rfl
        have b0 := HKW.out.cell HB0.out id
        subst hj
        have HII := Lib.hid hii
        have hj1 : (j : Int) ≤ 3 := hi4
        clear hii hk8 hb8 hs8 hjj hjr HR HKW
        go_wp2_with (first
          | (at_builtin; refine wpList_append_rd rfl (.tmp 49) (.tmp 56) 51 rfl B 5 _ 1 1 Tryz.underlying51 infoU8 rfl (by omega) (.slice pa (10 + r) pc') (10 + r) ((ptHead p 3 ++ (be bi 4).take r).map vb) rfl HO8.out (.slice (some ⟨bz, 0, none⟩) 1 1) 1 ([vb (beAt bi 4 r)]) rfl HR8.out hone (by unfold maxLen; omega) (by omega) hsz8 ?_
             intro v' w9 ho5 hk5 hn5 hb5
             obtain ⟨va, vc, rfl, -, -⟩ := (Rd.of_owns ho5).form
             have HO5 : Hid (w9.ownsRow B 5 1 (.slice va (10 + (r + 1)) vc) (10 + (r + 1)) ((ptHead p 3 ++ (be bi 4).take (r + 1)).map vb)) := Lib.hid (by rw [be_take bi 4 r hlt, ← List.append_assoc, List.map_append, List.map_singleton]; exact ho5)
             have HK9 := Lib.hid (HK8.out.trans' hk5 (U := noBlk) (fun _ _ h => h) (fun i hi e => by have := owns_base HO8.out e; have := HBE.out; omega))
             clear ho5 hk5 hn5 hb5))
        go_roundw
        case rel => exact ⟨r + 1, (j : Int) - 1, va, vc, by omega, by have := HII.out; omega, rfl, by go_num, HO5, HK9⟩
        case measure => simp [intOf]
      · obtain rfl : r = 4 := by omega
        have hi0 : ¬ (0 : Int) ≤ ii := by omega
        have hd : decide ((0 : Int) ≤ ii) = false := decide_eq_false hi0
        have hi5 : ii < 0 := by omega
        have hr4 := HR.out
        rw [List.take_of_length_le (by rw [be_length]; exact Nat.le_refl _)] at hr4
        have HR4 := Lib.hid hr4
        have c0 := HKW.out.cell HC0.out id
        have el : IntKind.u8.wrap (le : Int) = (le : Int) := by rw [IntWalk.u8_in _ (by omega)]
        obtain ⟨w8, hw8, hk8, hb8, hs8⟩ := alloc_facts wr #[.int .u8 (le : Int)] 5
        obtain ⟨bz, hbz⟩ : ∃ b, wr.heap.size = b := ⟨_, rfl⟩
        rw [hbz] at hb8
        have HR8 : Hid (Rd w8 1 (.slice (some ⟨bz, 0, none⟩) 1 1) 1 ((be le 1).map vb)) := Lib.hid (by
          rw [be_one, List.map_cons, List.map_nil, vb_of (show le < 256 by omega)]
          exact rd_blk (n := 1) (size := 1) (vs := [.int .u8 (le : Int)]) hb8 rfl (by unfold maxLen; omega))
        have HO8 := Lib.hid (hk8.owns HR4.out fun _ _ => id); have HK8 := Lib.hid (HKW.out.trans hk8)
        have hsz8 : B ≤ w8.heap.size := by rw [← HBE.out]; exact HK8.out.size
        clear hii hk8 hb8 hs8 HR HKW hr4
        go_wp2_with (first
          | (at_builtin; refine wpList_append_rd rfl (.tmp 58) (.tmp 62) 51 rfl B 5 _ 1 1 Tryz.underlying51 infoU8 rfl (by omega) (.slice pa (10 + 4) pc') (10 + 4) ((ptHead p 3 ++ be bi 4).map vb) rfl HO8.out (.slice (some ⟨bz, 0, none⟩) 1 1) 1 ((be le 1).map vb) rfl HR8.out (oneCell_vb _) (by unfold maxLen; omega) (by omega) hsz8 ?_
             intro v' w9 ho5 hk5 hn5 hb5
             obtain ⟨va, vc, rfl, -, -⟩ := (Rd.of_owns ho5).form
             have HO5 := Lib.hid ho5
             have HK9 := Lib.hid (HK8.out.trans' hk5 (U := noBlk) (fun _ _ h => h) (fun i hi e => by have := owns_base HO8.out e; have := HBE.out; omega))
             have hsz9 : B ≤ w9.heap.size := Nat.le_trans hsz8 hk5.size
             have HR9 : Hid (Rd w9 1 (.slice (some ⟨pb, 3, none⟩) 32 32) 32 ss) := Lib.hid ⟨by rw [hsl], some ⟨pb, 3, none⟩, 32, rfl, Nat.le_refl _, by unfold maxLen; omega, (by intro h; cases h), fun _ => ⟨pb, 3, rfl, fun i u hu => HK9.out.cell (HSM.out i u hu) id⟩⟩
             clear ho5 hk5 hn5 hb5)
          | (at_builtin; refine wpList_append_rd rfl (.tmp 64) (.tmp 66) 51 rfl B 5 _ 1 1 Tryz.underlying51 infoU8 rfl (by omega) (.slice va (10 + 4 + 1) vc) (10 + 4 + 1) ((ptHead p 3 ++ be bi 4).map vb ++ (be le 1).map vb) rfl HO5.out (.slice (some ⟨pb, 3, none⟩) 32 32) 32 (ss) rfl HR9.out hso (by unfold maxLen; omega) (by omega) hsz9 ?_
             intro v' w13 ho13 hk13 hn13 hb13
             obtain ⟨sa, sc, rfl, -, -⟩ := (Rd.of_owns ho13).form
             have HO13 : Hid (w13.ownsRow B 5 1 (.slice sa 47 sc) 47 ((ptBytes p).map vb)) := Lib.hid (by
               have e : (ptBytes p).map vb = (ptHead p 3 ++ be bi 4).map vb ++ (be le 1).map vb ++ ss := by
                 unfold ptBytes
                 rw [HBI.out, HLE.out, Int.toNat_natCast, Int.toNat_natCast, List.map_append, HSS.out, List.map_append]
               rw [e]
               exact ho13)
             have HK13 := Lib.hid (HK9.out.trans' hk13 (U := noBlk) (fun _ _ h => h) (fun i hi e => by have := owns_base HO5.out e; have := HBE.out; omega))
             clear ho13 hk13 hn13 hb13))
        go_ret2
        have e : ptB p = ptBytes p := by unfold ptB; rw [HT.out]; rfl
        refine ⟨_, by rw [HT.out]; rfl, ?_, HKA.out.trans HK13.out⟩
        rw [e, ptBytes_len HSL.out]
        exact ownsRow_mono HO13.out (by have := HBE.out; have := HPB.out; omega)

end Go.Proofs.YtaiicjhnhbkgmaaGreatDoor
