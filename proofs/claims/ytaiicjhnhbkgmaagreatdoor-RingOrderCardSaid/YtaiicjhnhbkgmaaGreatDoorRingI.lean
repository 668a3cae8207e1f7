/-
  slices.All over a list of slices, for a body that writes.
  Conditions: at most 4096 elements.
-/
import Derived.Test.YtaiicjhnhbkgmaaGreatDoorRingH
import Derived.Test.YtaiicjhnhbkgmaaGreatDoorChunk
import Derived.Test.YtaiicjhnhbkgmaaGreatDoorUnpackU
namespace Go.Proofs.YtaiicjhnhbkgmaaGreatDoor
open Go.RowKit
set_option maxRecDepth 100000
set_option linter.unusedVariables false

/-- What the rounds must keep: the box that the iterator has captured, and the row. -/
def AllKp (B1 : Nat) (oa : Option Addr) (A B : World) : Prop := B.heap[B1]? = A.heap[B1]? ∧ ∀ ad, oa = some ad → B.heap[ad.block]? = A.heap[ad.block]?
theorem rd_same {A B : World} {oa : Option Addr} {m cap : Nat} {vs : List Value} (h : Rd A 1 (.slice oa m cap) m vs) (k : ∀ ad, oa = some ad → B.heap[ad.block]? = A.heap[ad.block]?) : Rd B 1 (.slice oa m cap) m vs := by
  obtain ⟨h0, a, c, hv, h1, h2, h3, h4⟩ := h
  refine ⟨h0, a, c, hv, h1, h2, h3, fun hp => ?_⟩
  obtain ⟨g, o, rfl, hc⟩ := h4 hp
  refine ⟨g, o, rfl, fun i u hu => ?_⟩
  have e : oa = some ⟨g, o, none⟩ := by cases hv; rfl
  have := hc i u hu
  have k2 := k _ e
  unfold World.cell? at this ⊢
  rw [k2]
  exact this
set_option maxHeartbeats 2000000 in
theorem all1_in (n l B1 : Nat) (oa : Option Addr) (m cap : Nat) (vs : List Value) (J Jx : List Nat → World → Prop) (Bs : Nat) (hA : AbidesFrom Bs J) (hm : m ≤ 4096)
    (hvs : ∀ u ∈ vs, ∃ a n c, u = .slice a n c)
    (hY : ∀ pre x W, J pre W → pre.length < m → YieldAt Fence.wide (n - 1) Tryz.prog l #[.int .i64 ((x % m : Nat) : Int), vs.getD (x % m) (.slice none 0 0)] W fun e W' =>
      (e = .returned (.bool true) ∧ J (pre ++ [x]) W' ∧ AllKp B1 oa W W') ∨ (e = .returned (.bool false) ∧ Jx (pre ++ [x]) W'))
    (W : World) (h1 : W.heap[B1]? = some (.cells #[.slice oa m cap] 41 (0, 0))) (h2 : Rd W 1 (.slice oa m cap) m vs) (h0 : J [] W) :
    CallsIn Fence.wide n Tryz.prog 67 #[.func (.yield l) #[] #[], .pointer (some ⟨B1, 0, none⟩)] W fun e W' => (∃ v, e = .returned v) ∧
      ((∃ ys, ys = List.range m ∧ J ys W') ∨ (∃ pre, True ∧ Jx pre W')) := by
  have c0 := cell_of_one h1
  have H := Lib.hid (And.intro h1 h2)
  have hlen : vs.length = m := by have := h2.1; omega
  have HL := Lib.hid hlen
  have HV := Lib.hid hvs
  clear h1 h2 hlen hvs
  refine callsIn_of_wp Tryz.func67 rfl trivial ?_ rfl
  simp only [Tryz.ntmps67, List.size_toArray, List.length_cons, List.length_nil, Nat.reduceAdd, Nat.reduceSub, Array.replicate_succ, Array.replicate_zero, List.push_toArray, List.append_toArray, List.nil_append, List.cons_append]
  gi_wp2
  clear c0
  gi_loopw [7] (fun i wr => ∃ k : Nat, k ≤ m ∧ i = .int .i64 k ∧ J (List.range k) wr ∧ Hid (wr.heap[B1]? = some (.cells #[.slice oa m cap] 41 (0, 0)) ∧ Rd wr 1 (.slice oa m cap) m vs))
    (fun i _ => m - (intOf i).toNat)
  case atStart => exact ⟨0, Nat.zero_le _, rfl, h0, H⟩
  case round =>
    obtain ⟨k, hk, rfl, hJ, hH⟩ := hrel
    by_cases hlt : k < m
    · have e1 : (k : Int) < (m : Int) := by omega
      have hb0 : (0 : Int) ≤ (k : Int) := by omega
      obtain ⟨u, hu⟩ : ∃ u, vs[k]? = some u := ⟨vs[k]'(by rw [HL.out]; exact hlt), List.getElem?_eq_getElem _⟩
      obtain ⟨ua, un, uc, rfl⟩ := HV.out u (List.mem_of_getElem? hu)
      obtain ⟨h00, b, cap', hv, -, -, -, h5⟩ := hH.out.2
      obtain ⟨g, o, rfl, hc⟩ := h5 (by omega)
      have e2 : oa = some ⟨g, o, none⟩ := by cases hv; rfl
      subst e2
      have ck : wr.cell? ⟨g, o + k, none⟩ = some (.slice ua un uc) := hc k _ hu
      have hYk := hY (List.range k) k wr hJ (by simpa using hlt)
      rw [Nat.mod_eq_of_lt hlt, List.getD_eq_getElem?_getD, hu] at hYk
      simp only [Option.getD_some] at hYk
      obtain ⟨fn, tmps, assign, body, hy, hR⟩ := hYk
      clear hc h5 hv hu h00
      gi_wp2
      refine ⟨fun h => by simp [Fence.wide] at h, hR.mono ?_⟩
      rintro e W3 (⟨rfl, hJ3, hk3⟩ | ⟨rfl, hJx3⟩)
      · have hH3 : Hid (W3.heap[B1]? = some (.cells #[.slice (some ⟨g, o, none⟩) m cap] 41 (0, 0)) ∧ Rd W3 1 (.slice (some ⟨g, o, none⟩) m cap) m vs) :=
          Lib.hid ⟨hk3.1.trans hH.out.1, rd_same hH.out.2 hk3.2⟩
        have hJ4 := Lib.hid (show J (List.range (k + 1)) W3 by rw [List.range_succ]; exact hJ3)
        clear hJ3 hk3 hJ hR hy hH ck
        gi_wp2
        go_roundw
        case rel => exact ⟨k + 1, by omega, by go_num, hJ4.out, hH3⟩
        case measure => simp [intOf]; omega
      · gi_wp2
        refine bodyPost_ret (results_none rfl _ _ _) rfl ?_
        exact ⟨⟨_, rfl⟩, .inr ⟨_, trivial, hJx3⟩⟩
    · obtain rfl : k = m := by omega
      gi_wp2
      go_end0
      exact ⟨⟨_, rfl⟩, .inl ⟨_, rfl, hJ⟩⟩

theorem all_stops (n B1 : Nat) (oa : Option Addr) (m cap : Nat) (vs : List Value) (hm : m ≤ 4096) (hvs : ∀ u ∈ vs, ∃ a n c, u = .slice a n c) (w : World)
    (h1 : w.heap[B1]? = some (.cells #[.slice oa m cap] 41 (0, 0))) (h2 : Rd w 1 (.slice oa m cap) m vs) (hlt : ∀ ad, oa = some ad → ad.block < w.heap.size) :
    SeqStopsK Fence.wide n Tryz.prog 67 #[.pointer (some ⟨B1, 0, none⟩)] (fun x : Nat => #[.int .i64 ((x % m : Nat) : Int), vs.getD (x % m) (.slice none 0 0)]) (AllKp B1 oa) (fun ys => ys = List.range m) (fun _ => True) m w :=
  fun l J Jx W hW hJ _ hY h0 => all1_in n l B1 oa m cap vs J Jx _ hJ hm hvs hY W ((hW.block _ (lt_of_block h1)).trans h1) (rd_same h2 (fun ad e => hW.block _ (hlt ad e))) h0

set_option maxHeartbeats 400000 in
theorem allB_any (v : Value) (w : World) (hv : ∃ a n c, v = .slice a n c) :
    Calls Tryz.prog 43 #[v] w fun e w' => e = .returned (.func (.func 67) #[] #[.pointer (some ⟨w.heap.size, 0, none⟩)]) ∧ w' = w.alloc (.cells #[v] 41) := by
  obtain ⟨a, n, c, rfl⟩ := hv
  go_enter Tryz.func43, Tryz.ntmps43
  go_wp2
  go_ret
  exact ⟨rfl, rfl⟩
end Go.Proofs.YtaiicjhnhbkgmaaGreatDoor

/-
  ring.Found.
  Conditions: lists of at most 65536 bytes.
-/
namespace Go.Proofs.YtaiicjhnhbkgmaaGreatDoor
open Go.RowKit Go.Maps Go.ChangeMaps
set_option maxRecDepth 100000
set_option linter.unusedVariables false

/-- What a slot tells of a pool's uberblocks. -/
def foundL (pool : List UInt8) (i : Nat) (L : List UInt8) : List Ub := if (unpackU L).2 = 0 ∧ (unpackU L).1.pool = pool ∧ slotN (unpackU L).1.txg = (i : Int) + 1 then [(unpackU L).1] else []
def foundAt (hs : List (List UInt8)) (pool : List UInt8) (i : Nat) : List Ub := match hs[i]? with | some L => foundL pool i L | none => []
def foundA (hs : List (List UInt8)) (pool : List UInt8) : List Ub × Int := if hs.length = 4 then ((List.range 4).flatMap (foundAt hs pool), 0) else ([], 2)
theorem flat4 (f : Nat → List Ub) : (List.range 4).flatMap f = f 0 ++ (f 1 ++ (f 2 ++ (f 3 ++ []))) := rfl
theorem foundL_one (pool : List UInt8) (i : Nat) (L : List UInt8) : (foundL pool i L).length ≤ 1 := by
  unfold foundL; split
  · exact Nat.le_refl _
  · exact Nat.zero_le _
theorem foundAt_one (hs : List (List UInt8)) (pool : List UInt8) (i : Nat) : (foundAt hs pool i).length ≤ 1 := by
  unfold foundAt; split
  · exact foundL_one _ _ _
  · exact Nat.zero_le _
theorem found_four (hs : List (List UInt8)) (pool : List UInt8) : ((List.range 4).flatMap (foundAt hs pool)).length ≤ 4 := by
  have h0 := foundAt_one hs pool 0; have h1 := foundAt_one hs pool 1; have h2 := foundAt_one hs pool 2; have h3 := foundAt_one hs pool 3
  rw [flat4]; simp only [List.length_append, List.length_nil]; omega
def FoundPost (w : World) (r : List Ub × Int) (e : Ending) (w' : World) : Prop :=
  ∃ v qs, e = .returned (.tuple #[v, .int .i64 r.2]) ∧ w'.ownsRow w.heap.size 36 69 v qs.length (ubRow qs) ∧ qs.map (·.2) = r.1 ∧ UbsO w' w.heap.size qs ∧ Keep noBlk w w'
def FoI (ob : Nat) (w3 : World) (hs : List (List UInt8)) (pool : List UInt8) (pre : List Nat) (W : World) : Prop :=
  (∃ v qs, W.heap[ob]? = some (.cells #[v] 22 (0, 0)) ∧ W.ownsRow w3.heap.size 36 69 v qs.length (ubRow qs) ∧ qs.map (·.2) = pre.flatMap (fun i => foundAt hs pool (i % 4)) ∧ UbsO W w3.heap.size qs ∧ qs.length ≤ pre.length) ∧ Keep (fun k => k = ob) w3 W
theorem FoI.own {ob : Nat} {w3 : World} (hB : ob < w3.heap.size) (hs : List (List UInt8)) (pool : List UInt8) : OwnFrom w3.heap.size (FoI ob w3 hs pool) := by
  rintro pre W W' row ⟨⟨v, qs, h1, h2, h3, h4, h5⟩, hk⟩ hg hr
  have kg := Keep.of_grown hg
  have no : ∀ k cur e, W.heap[k]? = some (.cells cur e (0, 0)) → ¬ row = some k := fun k cur e hc e1 => by
    obtain ⟨_, o, ho, hcs⟩ := hr k e1
    rw [hc] at ho
    cases ho
    cases hcs
  refine ⟨⟨v, qs, kg.blk h1 (no _ _ _ h1), kg.owns h2 (fun k hb => by obtain ⟨cur, hc⟩ := owns_block h2 hb; exact no _ _ _ hc), h3, h4.far kg (fun q hq i hi => by obtain ⟨cur, hc⟩ := owns_block (h4 q hq).2.2.2 hi; exact no _ _ _ hc), h5⟩, hk.grown hg fun k e1 hlt => ?_⟩
  have := (hr k e1).1
  omega
theorem found_done {w w3 W : World} {L : List Ub} {v : Value} {qs : List (Value × Ub)} {D : Nat} {o o' : Obj} (ho : o.isCells = false) (hD : W.heap[D]? = some o) (h2 : W.ownsRow w3.heap.size 36 69 v qs.length (ubRow qs)) (h3 : qs.map (·.2) = L) (h4 : UbsO W w3.heap.size qs)
    (hk : Keep noBlk w W) (hs : w.heap.size ≤ w3.heap.size ∧ w3.heap.size ≤ D) : FoundPost w (L, 0) (.returned (.tuple #[v, .int .i64 0])) (W.putObj D o') := by
  have kd := Keep.of_grown (grownBy_putObj' W D o')
  have no : ∀ k cur e, W.heap[k]? = some (.cells cur e (0, 0)) → ¬ some D = some k := fun k cur e hc e1 => by
    cases e1
    rw [hD] at hc
    cases hc
    cases ho
  refine ⟨v, qs, rfl, ?_, h3, fun q hq => ?_, hk.trans' kd (fun _ _ h => h) (fun i hi e => by cases e; omega)⟩
  · exact ownsRow_mono (kd.owns h2 fun k hb => by obtain ⟨cur, hc⟩ := owns_block h2 hb; exact no _ _ _ hc) hs.1
  · obtain ⟨a, b, c, d⟩ := h4 q hq
    exact ⟨a, b, c, ownsRow_mono (kd.owns d fun k hb => by obtain ⟨cur, hc⟩ := owns_block d hb; exact no _ _ _ hc) hs.1⟩
theorem found_skip {ob B1 x : Nat} {oa : Option Addr} {w3 W W' : World} {hs : List (List UInt8)} {pool : List UInt8} {pre : List Nat} (hI : FoI ob w3 hs pool pre W) (k : Keep noBlk W W') (h0 : foundAt hs pool (x % 4) = []) (hB : B1 < w3.heap.size) (hlt : ∀ ad, oa = some ad → ad.block < w3.heap.size) :
    KeepsOthers W W' ∧ AllKp B1 oa W W' ∧ FoI ob w3 hs pool (pre ++ [x]) W' := by
  obtain ⟨⟨v, qs, h1, h2, h3, h4, h5⟩, hk⟩ := hI
  refine ⟨KeepsOthers_of_keep k (fun _ _ _ h => h.elim), ⟨k.block _ (by have := hk.size; omega) id, fun ad e => k.block _ (by have := hk.size; have := hlt ad e; omega) id⟩, ⟨v, qs, k.blk h1 id, k.owns h2 (fun _ _ => id), ?_, h4.keep k, by rw [List.length_append]; omega⟩, hk.trans' k (fun _ _ h => h) (fun _ _ h => h.elim)⟩
  rw [List.flatMap_append, List.flatMap_cons, List.flatMap_nil, h0, h3]; simp
theorem found_more {ob B1 x : Nat} {oa : Option Addr} {w3 W Wa Wb : World} {hs : List (List UInt8)} {pool : List UInt8} {pre : List Nat} {v v' : Value} {qs : List (Value × Ub)} {uv : Value} {U : Ub} (hob : ob < w3.heap.size) (h1 : W.heap[ob]? = some (.cells #[v] 22 (0, 0)))
    (h2 : W.ownsRow w3.heap.size 36 69 v qs.length (ubRow qs)) (h3 : qs.map (·.2) = pre.flatMap (fun i => foundAt hs pool (i % 4))) (h5 : qs.length ≤ pre.length) (hk : Keep (fun k => k = ob) w3 W) (k : Keep noBlk W Wa)
    (h4 : UbsO Wa w3.heap.size (qs ++ [(uv, U)])) (kb : Keep (fun j => v.ownBlock = some j) Wa Wb) (hw : Wb.ownsRow w3.heap.size 36 69 v' (qs.length + 1) (ubRow qs ++ ubCs uv U))
    (h0 : foundAt hs pool (x % 4) = [U]) (hB : B1 < w3.heap.size) (hBo : B1 ≠ ob) (hlt : ∀ ad, oa = some ad → ad.block < w3.heap.size ∧ ad.block ≠ ob) :
    KeepsOthers W (Wb.setCell ⟨ob, 0, none⟩ v') ∧ AllKp B1 oa W (Wb.setCell ⟨ob, 0, none⟩ v') ∧ FoI ob w3 hs pool (pre ++ [x]) (Wb.setCell ⟨ob, 0, none⟩ v') := by
  have h2a := k.owns h2 (fun _ _ => id)
  have far : ∀ j, v.ownBlock = some j → w3.heap.size ≤ j := fun j h => owns_base h2 h
  have kt : Keep (fun j => j = ob ∨ v.ownBlock = some j) W (Wb.setCell ⟨ob, 0, none⟩ v') := (k.trans' kb (fun _ _ h => h.elim) (fun i _ h => .inr h)).setCell (fun _ => .inl rfl) _
  have ks : Keep (fun j => j = ob) Wb (Wb.setCell ⟨ob, 0, none⟩ v') := Keep.setCell (S := fun k => k = ob) (p := ⟨ob, 0, none⟩) (Keep.refl _ _) (fun _ => rfl) _
  have hbb : Wb.heap[ob]? = some (.cells #[v] 22 (0, 0)) := kb.blk (k.blk h1 id) (fun h => by have := far _ h; omega)
  refine ⟨KeepsOthers_of_keep kt ?_, ⟨kt.block _ (by have := hk.size; omega) ?_, fun ad e => kt.block _ (by have := hk.size; have := (hlt ad e).1; omega) ?_⟩, ⟨v', qs ++ [(uv, U)], ?_, ?_, ?_, ?_, ?_⟩, hk.trans' kt (fun _ _ h => h) ?_⟩
  · rintro j o ho (rfl | h)
    · rw [h1] at ho; cases ho; rfl
    · obtain ⟨cur, hc⟩ := owns_block h2 h
      rw [hc] at ho; cases ho; rfl
  · rintro (h | h)
    · exact hBo h
    · have := far _ h; omega
  · rintro (h | h)
    · exact (hlt ad e).2 h
    · have := far _ h; have := (hlt ad e).1; omega
  · exact set_blk hbb 0 v'
  · rw [List.length_append, ubRow_append, ubRow_one]
    exact ks.owns hw fun j hb e => by have := owns_base hw hb; omega
  · rw [List.map_append, h3, List.flatMap_append, List.flatMap_cons, List.flatMap_nil, h0]; rfl
  · refine UbsO.far ?_ ks (fun q hq j hj e => ?_) (B := w3.heap.size)
    · exact UbsO.grow h4 h2a kb
    · have := owns_base (h4 q hq).2.2.2 hj; omega
  · rw [List.length_append, List.length_append]; simp; omega
  · rintro i hi (h | h)
    · exact h
    · have := far _ h; omega
theorem slices_of {w : World} {hs : List (List UInt8)} {vs : List Value} (h : ∀ (i : Nat) (L : List UInt8), hs[i]? = some L → ∃ u, vs[i]? = some u ∧ Rd w 1 u L.length (L.map vb)) (hl : vs.length = hs.length) : ∀ u ∈ vs, ∃ a n c, u = .slice a n c := by
  intro u hu
  obtain ⟨i, hi, rfl⟩ := List.getElem_of_mem hu
  obtain ⟨u2, h1, h2⟩ := h i (hs[i]'(by omega)) (List.getElem?_eq_getElem _)
  rw [List.getElem?_eq_getElem hi] at h1
  cases h1
  obtain ⟨a, c, he, -, -⟩ := h2.form
  exact ⟨a, _, c, he⟩
def FoAct (oa : Option Addr) (ca : Nat) (pcs : List Value) (pb ob B1 : Nat) (i : Int) (u : Value) : Act := { tmps := #[.slice oa 4 ca, .agg pcs.toArray, undef, .pointer (some ⟨pb, 0, none⟩), .slice none 0 0, .int .i64 0, .pointer (some ⟨ob, 0, none⟩), .int .i64 i, u, undef, undef, undef, undef, .slice oa 4 ca, .int .i64 4, .bool false, .slice oa 4 ca, .func (.func 67) #[] #[.pointer (some ⟨B1, 0, none⟩)], .int .i64 i, u, undef, undef, undef, undef, undef, undef, undef, undef, undef, undef, undef, undef, undef, undef, undef, undef, undef, undef, undef, undef, undef, undef, undef, undef, undef, undef, undef, undef, undef, undef, undef, undef], defers := [] }
theorem fold_two (T : Array Value) (p q : Tmp) (a b : Value) : ((#[p, q].zip #[a, b]).foldl (fun (t : Array Value) (x : Tmp × Value) => match x with | (p, v) => t.setIfInBounds p v) T) = (T.setIfInBounds p a).setIfInBounds q b := by simp

set_option maxHeartbeats 8000000 in
theorem found_any (w : World) (aF aR : Addr) (hg : ErrG w aF aR) (v : Value) (hs : List (List UInt8)) (hr : RowsB w v hs) (pool : List UInt8) (hpl : pool.length = 32) (h600 : ∀ L ∈ hs, L.length ≤ 65536) :
    Calls Tryz.prog 19 #[v, .agg (pool.map vb).toArray] w (FoundPost w (foundA hs pool)) := by
  obtain ⟨oa, ca, hv, hlm⟩ := hr.form
  subst hv
  have HG := Lib.hid hg; have HR := Lib.hid hr; have H6 := Lib.hid h600
  have hpc : (pool.map vb).length = 32 := by rw [List.length_map]; exact hpl
  have HPC := Lib.hid (oneCell_vb pool)
  obtain ⟨pcs, hpcs⟩ : ∃ l, pool.map vb = l := ⟨_, rfl⟩
  have HPS := Lib.hid hpcs
  rw [hpcs] at hpc HPC ⊢
  obtain ⟨n, hn⟩ : ∃ n, hs.length = n := ⟨_, rfl⟩
  have HN := Lib.hid hn
  rw [hn] at hlm ⊢
  unfold maxLen at hlm
  clear hg hr h600 hn hpcs
  obtain ⟨w1, hw1, k1, hb1, s1⟩ := alloc_facts w pcs.toArray 32
  by_cases h4 : n = 4
  case neg =>
    have hne : (¬ (n : Int) = 4) := by omega
    have HE : Hid (foundA hs pool = ([], 2)) := Lib.hid (by unfold foundA; rw [if_neg (by rw [HN.out]; exact h4)])
    rw [HE.out]
    go_enter Tryz.func19, Tryz.ntmps19
    go_wp2_with fail
    go_step3
    go_wp2_with fail
    go_ret2
    exact ⟨_, [], rfl, World.ownsRow_nil _ _ _ _, rfl, (fun q hq => by cases hq), k1⟩
  case pos =>
    subst h4
    have HE : Hid (foundA hs pool = ((List.range 4).flatMap (foundAt hs pool), 0)) := Lib.hid (by unfold foundA; rw [if_pos HN.out])
    rw [HE.out]
    refine callsIn_wide.1 (callsIn_of_wp_marks (F := Fence.wide) (n := 3) Tryz.func19 rfl trivial (wpIn_wide.2 ?_))
    simp only [Tryz.ntmps19, List.size_toArray, List.length_cons, List.length_nil, Nat.reduceAdd, Nat.reduceSub, Array.replicate_succ, Array.replicate_zero, List.push_toArray, List.append_toArray, List.nil_append, List.cons_append]
    obtain ⟨w2, hw2, k2, hb2, s2⟩ := alloc_facts w1 #[.slice none 0 0] 22
    obtain ⟨ob, hob⟩ : ∃ b, w1.heap.size = b := ⟨_, rfl⟩
    have HS1 := Lib.hid s1; have HS2 := Lib.hid s2; have HOB := Lib.hid hob
    clear s1 s2 hob
    go_wp2_with fail
    go_step3
    go_wp2_with fail
    go_step3
    go_wp2_with fail
    refine (allB_any _ _ ⟨_, _, _, rfl⟩).mono ?_
    rintro e w3 ⟨rfl, hw3⟩
    have k3 : Keep noBlk w2 w3 := by rw [hw3]; exact (Keep.refl _ _).alloc _
    have hb3 : w3.heap[w2.heap.size]? = some (.cells #[.slice oa 4 ca] 41 (0, 0)) := by rw [hw3]; exact heap_alloc_new _ _
    have s3 : w3.heap.size = w2.heap.size + 1 := by rw [hw3]; exact World.size_alloc _ _
    clear hw3
    have HS3 := Lib.hid s3
    clear s3
    go_wp2_with fail
    have s1 := HS1.out; have s2 := HS2.out; have s3 := HS3.out; have hob := HOB.out
    clear hw1 hw2 HS1 HS2 HS3
    have hk03 : Keep noBlk w w3 := (k1.trans k2).trans k3
    have hk13 : Keep noBlk w1 w3 := k2.trans k3
    rw [hob] at hb2 s2 ⊢
    have hP3 : w3.heap[w.heap.size]? = some (.cells pcs.toArray 32 (0, 0)) := hk13.blk hb1 id
    have hO3 : w3.heap[ob]? = some (.cells #[.slice none 0 0] 22 (0, 0)) := k3.blk hb2 id
    obtain ⟨vs, hrdw, hrows⟩ := HR.out.rows
    rw [HN.out] at hrdw
    have hrd3 := hrdw.keep hk03 (fun _ _ => id)
    have hsl := slices_of hrows (by have := hrd3.1; rw [HN.out]; omega)
    have hltA : ∀ ad, oa = some ad → ad.block < w3.heap.size := fun ad e => by
      obtain ⟨k, h1, h2⟩ := hrd3.lt (by have := hrd3.1; omega)
      subst e
      cases h1
      exact h2
    have hltO : ∀ ad, oa = some ad → ad.block ≠ ob := fun ad e => by
      obtain ⟨k, h1, h2⟩ := hrdw.lt (by have := hrdw.1; omega)
      subst e
      cases h1
      have := k1.size
      omega
    obtain ⟨B1, hB1⟩ : ∃ b, w2.heap.size = b := ⟨_, rfl⟩
    rw [hB1] at hb3 s3 ⊢
    have HRW : Hid (∀ (i : Nat) (L : List UInt8), hs[i]? = some L → ∃ u, vs[i]? = some u ∧ Rd w 1 u L.length (L.map vb)) := Lib.hid hrows
    have HK03 := Lib.hid hk03
    obtain ⟨pb, hpb⟩ : ∃ b, w.heap.size = b := ⟨_, rfl⟩
    have HPBN := Lib.hid hpb
    rw [hpb] at hP3 s1 ⊢
    have hpo : pb ≠ ob := by omega
    have hoB : ob < w3.heap.size := by omega
    have hwB : w.heap.size ≤ ob := by omega
    have HP3 := Lib.hid hP3
    clear k1 k2 k3 hk03 hk13 hb1 hb2 hrows hpb hP3
    refine wpIn_wide (n := 3).1 ?_
    refine' wpIn_rangeFunc_ownF rfl (by omega) (gf := 67) rfl trivial (enters_of Tryz.func67 (by kernel_rfl) rfl) (all_stops _ B1 oa 4 ca vs (by omega) hsl w3 hb3 hrd3 hltA) ?hKt ?hKb (Below.refl _ _) (fun _ => rfl) (FoI ob w3 hs pool) (fun _ _ _ => False) (FoI.own hoB hs pool) (fun c s A B row hs _ _ => hs) ?h0 (fun x => FoAct oa ca pcs pb ob B1 ((x % 4 : Nat) : Int) (vs.getD (x % 4) (.slice none 0 0))) ?assign ?body ?done ?stop
    case hKt => exact fun h k => ⟨k.1.trans h.1, fun ad e => (k.2 ad e).trans (h.2 ad e)⟩
    case hKb => exact fun W l o o' hl _ _ _ => ⟨World.putObj_heap_other (by omega), fun ad e => World.putObj_heap_other (by have := hltA ad e; omega)⟩
    case h0 => exact ⟨⟨.slice none 0 0, [], hO3, World.ownsRow_nil _ _ _ _, rfl, (fun q hq => by cases hq), Nat.le_refl _⟩, Keep.refl _ _⟩
    case assign =>
      intro l x W K hK
      rw [fold_two]
      unfold FoAct at hK
      generalize ((x % 4 : Nat) : Int) = i at hK ⊢
      generalize vs.getD (x % 4) (.slice none 0 0) = u at hK ⊢
      simp only [List.setIfInBounds_toArray, List.set_cons_zero, List.set_cons_succ]
      refine wpIn_seq ?_
      refine regionIn_plain (by kernel_rfl) (fun ⟨_, _, h⟩ => h) ?_
      go_wp2_with fail
      refine regionIn_plain (by kernel_rfl) (fun ⟨_, _, h⟩ => h) ?_
      go_wp2_with fail
      exact hK
    case stop => exact fun D c pre W _ _ h _ => h.elim
    case done =>
      intro D xs W hD hS hI hDd
      obtain ⟨⟨v, qs, h1, h2, h3, h4, h5⟩, hk⟩ := hI
      have c1 := cell_of_one h1
      obtain ⟨ar, cr, rfl, -, -⟩ := (Rd.of_owns h2).form
      have HDd := Lib.hid hDd
      subst hS
      have hkW : Keep noBlk w W := HK03.out.trans' hk (fun _ _ h => h) (fun i hi e => by omega)
      have HP : Hid (∀ (D : Nat) (o : Obj), o.isCells = false → W.heap[D]? = some o → w3.heap.size ≤ D → ∀ {o' : Obj}, FoundPost w ((List.range 4).flatMap (foundAt hs pool), 0) (.returned (.tuple #[.slice ar qs.length cr, .int .i64 0])) (W.putObj D o')) := Lib.hid (fun D o ho hD hB {o'} => found_done ho hD h2 h3 h4 hkW ⟨by omega, hB⟩)
      clear h1 h2 h3 h4 h5 hk hkW hDd
      go_wp2_with fail
      rw [Exit.noGoto_ret]
      refine ⟨by simp, .inl ⟨_, _, rfl, run_takeDeferred HDd.out, ?_⟩⟩
      refine ⟨_, results_tmp2 rfl _ _ _, ?_⟩
      exact HP.out D _ rfl HDd.out hD
    case body =>
      rintro l pre x W ⟨⟨v, qs, h1, h2, h3, h4, h5⟩, hk⟩ hlen
      have hx4 : x % 4 < 4 := Nat.mod_lt _ (by decide)
      obtain ⟨k, hk4⟩ : ∃ k, x % 4 = k := ⟨_, rfl⟩
      rw [hk4] at hx4 ⊢
      obtain ⟨L, hL⟩ : ∃ L, hs[k]? = some L := ⟨hs[k]'(by rw [HN.out]; exact hx4), List.getElem?_eq_getElem _⟩
      have hLb := H6.out L (List.mem_of_getElem? hL)
      obtain ⟨u, hu, hru⟩ := HRW.out _ _ hL
      have hkW : Keep noBlk w W := HK03.out.trans' hk (fun _ _ h => h) (fun i hi e => by omega)
      have hru := hru.keep hkW fun _ _ => id
      have HG := Lib.hid (HG.out.keep hkW)
      have HPB := Lib.hid (hk.blk HP3.out hpo)
      obtain ⟨ua, uc, hue, -, -⟩ := hru.form
      subst hue
      rw [List.getD_eq_getElem?_getD, hu, Option.getD_some]
      obtain ⟨n, hn⟩ : ∃ n, L.length = n := ⟨_, rfl⟩
      have HNL := Lib.hid hn
      rw [hn] at hru hLb ⊢
      obtain ⟨av, cv, hv, -, -⟩ := (Rd.of_owns h2).form
      subst hv
      obtain ⟨j, hj⟩ : ∃ j, qs.length = j := ⟨_, rfl⟩
      have HJ := Lib.hid hj
      have HI := Lib.hid (show FoI ob w3 hs pool pre W from ⟨⟨_, qs, h1, h2, h3, h4, h5⟩, hk⟩)
      rw [hj] at h1 h2 h5
      have hj4 : j < 4 := by omega
      have HFA : Hid (foundAt hs pool k = foundL pool k L) := Lib.hid (by unfold foundAt; rw [hL])
      have HRD := Lib.hid hru; have HQB := Lib.hid h1; have HQO := Lib.hid h2; have HQB0 := HQB; have HQO0 := HQO; have HQM := Lib.hid h3; have HQU := Lib.hid h4; have HQL := Lib.hid h5; have HKK := Lib.hid hk; have HKW := Lib.hid hkW
      have hkI := Keep.refl noBlk W
      have HKI := Lib.hid hkI
      clear h1 h2 h3 h4 h5 hk hkW hru hL hu hn hj hkI
      unfold FoAct
      refine wpIn_block ?_
      refine wpIn_seq ?_
      refine regionIn_plain (by kernel_rfl) (fun ⟨_, _, h⟩ => h) ?_
      obtain ⟨zc, hzc, hzl⟩ : ∃ zc, ubCs (.slice none 0 0) zUb = zc ∧ zc.length = 69 := ⟨_, rfl, rfl⟩
      have hzv : ∀ w, (zeroValue 36).run Tryz.prog w = .ok (.agg zc.toArray) w := by rw [← hzc]; exact zeroValUb
      have HZV := Lib.hid hzv; have HZC := Lib.hid hzc
      clear hzc hzv
      go_wp2_with fail
      refine ((uunpack_any W aF aR HG.out (.slice ua n uc) L (by rw [HNL.out]; exact HRD.out) (by rw [HNL.out]; exact hLb)).mono fun e w' h => UUnpackPost.V h).mono ?_
      rintro e wb ⟨v1, rfl, hu_, ho_, hk⟩
      have hsz1 := hk.size
      have HPB := Lib.hid (hk.blk HPB.out id)
      have HG := Lib.hid (HG.out.keep hk)
      have HRD := Lib.hid (HRD.out.keep hk fun _ _ => id)
      have HKI := Lib.hid (HKI.out.trans hk)
      have HQB := Lib.hid (hk.blk HQB.out id)
      have HQO := Lib.hid (hk.owns HQO.out fun _ _ => id)
      have HQU := Lib.hid (HQU.out.keep hk)
      clear hk
      obtain ⟨a1, c1, hv_, -, -⟩ := hu_.root.rd.form
      have hv2_ : v1 = .slice a1 ((unpackU L).1).root.addrs.length c1 := hv_
      clear hv_
      subst hv2_
      have hl1 := ubCs_len (v := .slice a1 ((unpackU L).1).root.addrs.length c1) hu_.root.sum hu_.pool
      have HC1 := Lib.hid (oneCell_ub (oa := a1) (n := ((unpackU L).1).root.addrs.length) (ca := c1) ((unpackU L).1))
      have HU1 := Lib.hid hu_
      have HO1 := Lib.hid ho_
      obtain ⟨lc1, hlc1⟩ : ∃ x, ubCs (.slice a1 ((unpackU L).1).root.addrs.length c1) ((unpackU L).1) = x := ⟨_, rfl⟩
      rw [hlc1] at hl1 HC1
      try rw [hlc1]
      have HLC1 := Lib.hid hlc1
      clear hlc1
      clear hu_ ho_
      have HF1 := Lib.hid (HO1.out.lt)
      go_wp2_with (first
        | ((with_reducible show wpList _ _ _ (⟨_, .alloc 36, _, _, _, _⟩ :: _) _ _); refine wpList_alloc_at rfl 36 rfl _ HZV.out zc.toArray rfl ?_)
        | ((with_reducible show wpList _ _ _ (⟨none, .store 36 (.tmp 9) (.tmp 23), _, _, _, _⟩ :: _) _ _)
           refine wpList_store_agg rfl 36 (.tmp 9) (.tmp 23) rfl wb.heap.size 0 lc1 rfl rfl zc.toArray _ (heap_alloc_new _ _) (by rw [hl1, List.size_toArray, hzl]; exact Nat.le_refl _) (sizeUbL hl1) HC1.out ?_
           intro wc hb5 hk5
           rw [spl_whole _ _ (by rw [hl1, List.size_toArray, hzl])] at hb5
           have hkb : Keep noBlk wb wc := ((Keep.refl noBlk wb).alloc _).trans' hk5 (fun _ _ h => h.elim) (fun i hi e => by omega)
           clear hk5
           obtain ⟨b1, hb_⟩ : ∃ b, wb.heap.size = b := ⟨_, rfl⟩
           rw [hb_] at hb5 ⊢
           have HBS1 := Lib.hid hb_; clear hb_
           have HB1 := Lib.hid hb5; clear hb5))
      have HPB := Lib.hid (hkb.blk HPB.out id)
      have HG := Lib.hid (HG.out.keep hkb)
      have HRD := Lib.hid (HRD.out.keep hkb fun _ _ => id)
      have HKI := Lib.hid (HKI.out.trans hkb)
      have HQB := Lib.hid (hkb.blk HQB.out id)
      have HQO := Lib.hid (hkb.owns HQO.out fun _ _ => id)
      have HQU := Lib.hid (HQU.out.keep hkb)
      have HU1 := Lib.hid (HU1.out.keep hkb fun _ _ => id)
      have HO1 := Lib.hid (hkb.owns HO1.out fun _ _ => id)
      clear hkb
      go_wp2_with fail
      obtain ⟨U, hU⟩ : ∃ U, (unpackU L).1 = U := ⟨_, rfl⟩
      obtain ⟨er, her⟩ : ∃ r, (unpackU L).2 = r := ⟨_, rfl⟩
      have HUE := Lib.hid hU; have HER := Lib.hid her
      rw [hU] at HLC1 HF1 HU1 HO1
      rw [her]
      have hB1w : B1 < w3.heap.size := by omega
      clear hU her
      by_cases h0 : er = 0
      · subst h0
        have hmay : U.may = true := by
          have h1 := unpackU_ok HER.out
          rw [← HUE.out, h1.2.1]; exact h1.2.2.1
        obtain ⟨ct, -, cl, cp⟩ := ub_mem (o := 0) HU1.out.root.sum (by rw [HLC1.out]; exact rangeAt_whole HB1.out)
        have hneq := fun w => neq_of_eql (eqID U.pool pool HU1.out.pool hpl w)
        have HPR := Lib.hid cp
        have hpl1 : (U.pool.map vb).length = 32 := by rw [List.length_map]; exact HU1.out.pool
        rw [HPS.out] at hneq
        obtain ⟨up, hup⟩ : ∃ l, U.pool.map vb = l := ⟨_, rfl⟩
        rw [hup] at hneq hpl1 HPR
        obtain ⟨bq, hbq⟩ : ∃ b, decide (U.pool = pool) = b := ⟨_, rfl⟩
        rw [hbq] at hneq
        simp only [Nat.zero_add] at ct cl HPR
        clear cp cl hup
        have arms : True := trivial
        cases bq
        · repeat refine wpIn_seq ?_
          refine regionIn_plain (by kernel_rfl) (fun ⟨_, _, h⟩ => h) ?_
          go_wp2_with (first
            | ((with_reducible show wpList _ _ _ (⟨_, .load 32 (.tmp 28), _, _, _, _⟩ :: _) _ _); refine wpList_load_g (by rfl) 32 (.tmp 28) rfl b1 37 rfl up _ HPR.out Tryz.underlying32 rfl (sizeIDL hpl1) ?_)
            | ((with_reducible show wpList _ _ _ (⟨_, .load 32 (.tmp 3), _, _, _, _⟩ :: _) _ _); refine wpList_load_g (by rfl) 32 (.tmp 3) rfl pb 0 rfl pcs _ (rangeAt_whole HPB.out) Tryz.underlying32 rfl (sizeIDL hpc) ?_))
          refine wpIn_cond_true rfl ?_
          refine wpIn_exit ?_
          exact found_skip HI.out HKI.out (by rw [hk4, HFA.out]; unfold foundL; rw [if_neg]; rintro ⟨-, h1, -⟩; rw [HUE.out] at h1; exact (of_decide_eq_false hbq) h1) hB1w hltA
        · repeat refine wpIn_seq ?_
          refine regionIn_plain (by kernel_rfl) (fun ⟨_, _, h⟩ => h) ?_
          go_wp2_with (first
            | ((with_reducible show wpList _ _ _ (⟨_, .load 32 (.tmp 28), _, _, _, _⟩ :: _) _ _); refine wpList_load_g (by rfl) 32 (.tmp 28) rfl b1 37 rfl up _ HPR.out Tryz.underlying32 rfl (sizeIDL hpl1) ?_)
            | ((with_reducible show wpList _ _ _ (⟨_, .load 32 (.tmp 3), _, _, _, _⟩ :: _) _ _); refine wpList_load_g (by rfl) 32 (.tmp 3) rfl pb 0 rfl pcs _ (rangeAt_whole HPB.out) Tryz.underlying32 rfl (sizeIDL hpc) ?_))
          refine wpIn_cond_false rfl ?_
          refine wpIn_skip ?_
          have hb := ub_bounds hmay
          have hsb : slotB U.txg = true := by unfold slotB; rw [decide_eq_true hb.1, decide_eq_true hb.2.1]; rfl
          repeat refine wpIn_seq ?_
          refine regionIn_plain (by kernel_rfl) (fun ⟨_, _, h⟩ => h) ?_
          go_wp2_with fail
          refine (slot_any wc U.txg (by omega) (by omega)).mono ?_
          rintro e wd ⟨rfl, hk⟩
          rw [hsb]
          obtain ⟨sl, hsl_⟩ : ∃ s, slotN U.txg = s := ⟨_, rfl⟩
          rw [hsl_]
          have HSL := Lib.hid hsl_
          clear hsl_ hb hsb
          have HPB := Lib.hid (hk.blk HPB.out id)
          have HG := Lib.hid (HG.out.keep hk)
          have HRD := Lib.hid (HRD.out.keep hk fun _ _ => id)
          have HKI := Lib.hid (HKI.out.trans hk)
          have HQB := Lib.hid (hk.blk HQB.out id)
          have HQO := Lib.hid (hk.owns HQO.out fun _ _ => id)
          have HQU := Lib.hid (HQU.out.keep hk)
          have HU1 := Lib.hid (HU1.out.keep hk fun _ _ => id)
          have HO1 := Lib.hid (hk.owns HO1.out fun _ _ => id)
          have HB1 := Lib.hid (hk.blk HB1.out id)
          clear hk
          go_wp2_with fail
          by_cases hse : sl = (k : Int) + 1
          · subst hse
            repeat refine wpIn_seq ?_
            refine regionIn_plain (by kernel_rfl) (fun ⟨_, _, h⟩ => h) ?_
            go_wp2_with fail
            refine wpIn_cond_false rfl ?_
            refine wpIn_skip ?_
            have hF1 : foundAt hs pool (x % 4) = [U] := by
              rw [hk4, HFA.out]; unfold foundL
              rw [if_pos ⟨HER.out, by rw [HUE.out]; exact of_decide_eq_true hbq, by rw [HUE.out, HSL.out]⟩, HUE.out]
            have HF2 := Lib.hid hF1
            have hcq := cell_of_one HQB.out
            have hfq := blk_free HQB.out 0
            have HU4 : Hid (UbsO wd w3.heap.size (qs ++ [(.slice a1 U.root.addrs.length c1, U)])) := Lib.hid (HQU.out.snoc HU1.out.pool HU1.out.root.sum HU1.out.root.ads (ownsRow_mono HO1.out (by have := HKK.out.size; omega)))
            have hzb2 : w3.heap.size ≤ wd.heap.size := by have := HKK.out.size; have := HKI.out.size; omega
            have HZB := Lib.hid hzb2
            clear hF1 hzb2 ct
            refine regionIn_plain (by kernel_rfl) (fun ⟨_, _, h⟩ => h) ?_
            go_wp2_with (first
              | ((with_reducible show wpList _ _ _ (⟨_, .load 36 (.tmp 9), _, _, _, _⟩ :: _) _ _); refine wpList_load_mid rfl 36 (.tmp 9) rfl b1 0 rfl lc1 _ (rangeAt_whole HB1.out) ubUnder rfl (sizeUbL hl1) ?_)
              | ((with_reducible show wpList _ _ _ (⟨_, .buildSlice _ 1 _, _, _, _, _⟩ :: _) _ _); refine wpList_build_one rfl 22 36 (.tmp 48) rfl Tryz.underlying22 infoUb (by decide) (lc1) hl1 (by decide) rfl ?_
                 have hkb : Keep noBlk wd (wd.alloc (.cells (lc1).toArray 36)) := (Keep.refl _ _).alloc _
                 have HRN := Lib.hid (rd_blk (n := 1) (size := 69) (heap_alloc_new wd (.cells (lc1).toArray 36)) hl1 (by unfold maxLen; omega))
                 have HKB := Lib.hid hkb
                 have hsb : wd.heap.size ≤ (wd.alloc (.cells (lc1).toArray 36)).heap.size := by rw [World.size_alloc]; omega
                 obtain ⟨X_w6, hX_w6⟩ : ∃ s, wd.heap.size = s := ⟨_, rfl⟩
                 rw [hX_w6] at HRN hsb ⊢
                 have hsc_w6 : wd.heap.size ≤ X_w6 := Nat.le_of_eq hX_w6
                 have HX_w6 := Lib.hid hX_w6; clear hX_w6
                 generalize hW4 : wd.alloc (.cells (lc1).toArray 36) = w6 at *
                 clear hW4 hkb)
              | (have HO6 := Lib.hid (HKB.out.owns HQO.out fun _ _ => id)
                 have hzb : w3.heap.size ≤ w6.heap.size := Nat.le_trans HZB.out HKB.out.size
                 (at_builtin; refine wpList_append_rd rfl (.tmp 47) (.tmp 49) 22 rfl w3.heap.size 36 (.agg (ubCs (.slice none 0 0) ⟨0, ⟨[], 0, 0, zeros32⟩, 0, zeros32⟩).toArray) 69 120 Tryz.underlying22 infoUb rfl (by decide) (.slice av j cv) (j) (ubRow qs) rfl HO6.out (.slice (some ⟨X_w6, 0, none⟩) 1 1) (1) (lc1) rfl HRN.out HC1.out (by unfold maxLen; omega) (by omega) (by omega) ?_
                  intro v' w7 ho5 hk5 hn5 hb5
                  obtain ⟨g', cap', rfl⟩ := ownsRow_succ ho5
                  have HO7 := Lib.hid ho5; have HK5 := Lib.hid hk5; have HB5 := Lib.hid hb5
                  clear ho5 hk5 hn5 hb5)
                 have hbq7 := HK5.out.blk (HKB.out.blk HQB.out id) (fun e => by have := owns_base HO6.out e; omega)
                 have hcq := cell_of_one hbq7
                 have hfq := blk_free hbq7 0
                 clear hbq7))
            refine found_more hoB HQB0.out (by rw [HJ.out]; exact HQO0.out) HQM.out (by rw [HJ.out]; exact HQL.out) HKK.out (HKI.out.trans HKB.out) (HU4.out.keep HKB.out) HK5.out (by rw [HJ.out, HLC1.out]; exact HO7.out) HF2.out hB1w (by omega) (fun ad e => ⟨hltA ad e, hltO ad e⟩)
          · have hbn : (sl != (k : Int) + 1) = true := by simpa using hse
            repeat refine wpIn_seq ?_
            refine regionIn_plain (by kernel_rfl) (fun ⟨_, _, h⟩ => h) ?_
            go_wp2_with fail
            try simp only [hbn]
            refine wpIn_cond_true rfl ?_
            refine wpIn_exit ?_
            exact found_skip HI.out HKI.out (by rw [hk4, HFA.out]; unfold foundL; rw [if_neg]; rintro ⟨-, -, h1⟩; rw [HUE.out, HSL.out] at h1; exact hse h1) hB1w hltA
      · repeat refine wpIn_seq ?_
        refine regionIn_plain (by kernel_rfl) (fun ⟨_, _, h⟩ => h) ?_
        go_wp2_with fail
        refine wpIn_cond_true rfl ?_
        refine wpIn_exit ?_
        exact found_skip HI.out HKI.out (by rw [hk4, HFA.out]; unfold foundL; rw [if_neg]; rintro ⟨h1, -, -⟩; exact h0 (HER.out.symm.trans h1)) hB1w hltA

end Go.Proofs.YtaiicjhnhbkgmaaGreatDoor
