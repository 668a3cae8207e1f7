/-
  Bytes in order: bytes.Compare, hash.Less, label.order, and the document's Less.
  Conditions: IDs of 32 bytes.
-/
import Derived.Test.YtdlegbcdmlmbpaaBase
import Derived.Test.YtdlegbcdmlmbpaaKeyID
import Derived.Test.YtdlegbcdmlmbpaaBytes
import Derived.Lib.BytesEntry
import Derived.Laws.Externs
import Derived.Sort.Grow
import Derived.Sort.Statements
import Derived.Test.YtdlegbcdmlmbpaaSum
namespace Go.Proofs.Ytdlegbcdmlmbpaa
open Go.RowKit Go.Sort
set_option maxRecDepth 100000
set_option linter.unusedVariables false

/-! ### The order of bytes -/
theorem cmp_refl : ∀ a : List UInt8, Lib.compareBytes a a = 0
  | [] => rfl
  | x :: a => by simp [Lib.compareBytes, cmp_refl a]
theorem cmp_eq0 : ∀ {a b : List UInt8}, Lib.compareBytes a b = 0 → a = b
  | [], [], _ => rfl
  | [], _ :: _, h => by simp [Lib.compareBytes] at h
  | _ :: _, [], h => by simp [Lib.compareBytes] at h
  | x :: a, y :: b, h => by
    unfold Lib.compareBytes at h
    by_cases h1 : x < y
    · rw [if_pos h1] at h; cases h
    · by_cases h2 : y < x
      · rw [if_neg h1, if_pos h2] at h; cases h
      · rw [if_neg h1, if_neg h2] at h
        rw [cmp_eq0 h, UInt8.le_antisymm (UInt8.not_lt.1 h2) (UInt8.not_lt.1 h1)]
theorem cmp_swap : ∀ a b : List UInt8, Lib.compareBytes b a = - Lib.compareBytes a b
  | [], [] => rfl
  | [], _ :: _ => rfl
  | _ :: _, [] => rfl
  | x :: a, y :: b => by
    unfold Lib.compareBytes
    by_cases h1 : x < y
    · have h2 : ¬ y < x := fun h => UInt8.lt_irrefl _ (UInt8.lt_trans h1 h)
      rw [if_pos h1, if_neg h2, if_pos h1]; rfl
    · by_cases h2 : y < x
      · rw [if_pos h2, if_neg h1, if_pos h2]
      · rw [if_neg h1, if_neg h2, if_neg h1, if_neg h2, cmp_swap a b]
theorem cmp_trans : ∀ {a b c : List UInt8}, Lib.compareBytes a b < 0 → Lib.compareBytes b c < 0 → Lib.compareBytes a c < 0
  | [], [], _, h, _ => by simp [Lib.compareBytes] at h
  | [], _ :: _, [], _, h => by simp [Lib.compareBytes] at h
  | [], _ :: _, _ :: _, _, _ => by simp [Lib.compareBytes]
  | _ :: _, [], _, h, _ => by simp [Lib.compareBytes] at h
  | _ :: _, _ :: _, [], _, h => by simp [Lib.compareBytes] at h
  | x :: a, y :: b, z :: c, h, k => by
    unfold Lib.compareBytes at h k ⊢
    by_cases h1 : x < y
    · by_cases k1 : y < z
      · rw [if_pos (UInt8.lt_trans h1 k1)]; decide
      · by_cases k2 : z < y
        · rw [if_neg k1, if_pos k2] at k; cases k
        · have e := UInt8.le_antisymm (UInt8.not_lt.1 k2) (UInt8.not_lt.1 k1)
          subst e; rw [if_pos h1]; decide
    · by_cases h2 : y < x
      · rw [if_neg h1, if_pos h2] at h; cases h
      · have e := UInt8.le_antisymm (UInt8.not_lt.1 h2) (UInt8.not_lt.1 h1)
        subst e
        rw [if_neg h1, if_neg h2] at h
        by_cases k1 : x < z
        · rw [if_pos k1]; decide
        · by_cases k2 : z < x
          · rw [if_neg k1, if_pos k2] at k; cases k
          · rw [if_neg k1, if_neg k2] at k ⊢
            exact cmp_trans h k

/-- Is a list of bytes ahead of another one? -/
def idLt (a b : List UInt8) : Bool := decide (Lib.compareBytes a b < 0)
theorem idLt_irrefl (a : List UInt8) : idLt a a = false := by simp [idLt, cmp_refl]
theorem idLt_trans {a b c : List UInt8} (h : idLt a b = true) (k : idLt b c = true) : idLt a c = true := by
  unfold idLt at *
  exact decide_eq_true (cmp_trans (of_decide_eq_true h) (of_decide_eq_true k))
theorem idLt_total {a b : List UInt8} (h : idLt a b = false) (k : idLt b a = false) : a = b := by
  unfold idLt at *
  have h1 := of_decide_eq_false h
  have h2 := of_decide_eq_false k
  rw [cmp_swap a b] at h2
  exact cmp_eq0 (by omega)
theorem idLt_asym {a b : List UInt8} (h : idLt a b = true) : idLt b a = false := by
  unfold idLt at *
  have h1 := of_decide_eq_true h
  rw [cmp_swap a b]
  exact decide_eq_false (by omega)
/-- What label.order tells. -/
def orderI (a b : List UInt8) : Int := if idLt a b = true then -1 else if idLt b a = true then 1 else 0

/-! ### The walks -/
theorem bytesOf_rd {w : World} {v : Value} {l : List UInt8} (h : Rd w 1 v l.length (l.map vb)) : (Extern.Bytes.bytesOf v).run Try.prog w = .ok (strB l) w := by
  obtain ⟨h0, a, cap, rfl, h1, h2, h3, h4⟩ := h
  rcases Nat.eq_zero_or_pos l.length with hz | hz
  · have : l = [] := List.eq_nil_of_length_eq_zero hz
    subst this
    cases a with
    | none => rfl
    | some a => rfl
  · obtain ⟨g, o, rfl, hc⟩ := h4 (by simpa using hz)
    have hl := Lib.run_loadBytesX (P := Try.prog) w (l.map fun b => (b.toNat : Int)) ⟨g, o, none⟩ .empty (fun j x hj => by
      rw [add_lit]
      rw [List.getElem?_map] at hj
      rcases hb : l[j]? with _ | b
      · rw [hb] at hj; cases hj
      · rw [hb] at hj
        cases hj
        exact hc j (vb b) (by rw [List.getElem?_map, hb]; rfl))
    rw [List.length_map] at hl
    unfold Extern.Bytes.bytesOf
    simp only
    rw [hl]
    congr 1
    unfold strB
    apply ByteArray.ext
    simp [Lib.bytesOf, Function.comp_def]
theorem cmp_run (w : World) (av bv : Value) (xs ys : List UInt8) (ha : Rd w 1 av xs.length (xs.map vb)) (hb : Rd w 1 bv ys.length (ys.map vb)) :
    (Extern.BytealgCompare.compare #[av, bv]).run Try.prog w = .ok (.int .i64 (Lib.compareBytes xs ys)) w := by
  rw [show Extern.BytealgCompare.compare #[av, bv] = (do pure (goInt (Extern.BytealgCompare.cmp (← Extern.Bytes.bytesOf av) (← Extern.Bytes.bytesOf bv)))) from rfl]
  simp only [Sem.run_bind, bytesOf_rd ha, bytesOf_rd hb, Result.andThen_ok, Sem.run_pure]
  rw [Lib.cmp_eq]
  rfl

set_option maxHeartbeats 400000 in
theorem bcompare_any (w : World) (av bv : Value) (xs ys : List UInt8) (ha : Rd w 1 av xs.length (xs.map vb)) (hb : Rd w 1 bv ys.length (ys.map vb)) :
    Calls Try.prog 96 #[av, bv] w (fun e w' => e = .returned (.int .i64 (Lib.compareBytes xs ys)) ∧ w' = w) := by
  have K := Lib.hid (cmp_run w av bv xs ys ha hb)
  clear ha hb
  have X := Lib.hid (fun args w => run_callFunc_extern (P := Try.prog) Try.func109 (by kernel_rfl) (by kernel_rfl) (by kernel_rfl) (e := Extern.BytealgCompare.compare) (by kernel_rfl) args w)
  generalize Lib.compareBytes xs ys = r at *
  go_enter Try.func96, Try.ntmps96
  go_wp2
  rw [X.out, K.out]
  simp only [Result.andThen]
  rw [Oper.upon_value]
  go_wp2
  go_ret
  exact ⟨rfl, rfl⟩

/-- New blocks and draws alone. -/
def Gr (w w' : World) : Prop := ∃ (q : Nat) (os : Array Obj), w' = grow (w.drewN q) os
theorem Gr.refl (w : World) : Gr w w := ⟨0, #[], by simp [grow]; rfl⟩
theorem Gr.trans {a b c : World} (h : Gr a b) (k : Gr b c) : Gr a c := by
  obtain ⟨q, os, rfl⟩ := h
  obtain ⟨q', os', rfl⟩ := k
  refine ⟨q + q', os ++ os', ?_⟩
  rw [← grow_grow, ← World.drewN_drewN]
  rfl
theorem Gr.alloc {a b : World} (h : Gr a b) (o : Obj) : Gr a (b.alloc o) := h.trans ⟨0, #[o], by rw [alloc_eq_grow]; rfl⟩
theorem Gr.drewN {a b : World} (h : Gr a b) (q : Nat) : Gr a (b.drewN q) := h.trans ⟨q, #[], (grow_empty _).symm⟩
theorem Gr.keep {a b : World} (h : Gr a b) : Keep noBlk a b := by
  obtain ⟨q, os, rfl⟩ := h
  refine ⟨rfl, rfl, rfl, by simp [grow], fun k hk _ => ?_⟩
  simp only [grow]
  rw [Array.getElem?_append_left (by exact hk)]
  rfl

/-- An array's block as a slice. -/
theorem rd_arr {w : World} {b n : Nat} {l : List UInt8} {t : TypeId} (hb : w.heap[b]? = some (.cells (l.map vb).toArray t (0, 0))) (hl : l.length = n) (hn : n ≤ maxLen) : Rd w 1 (.slice (some ⟨b, 0, none⟩) n n) l.length (l.map vb) := by
  subst hl
  exact ⟨by simp, _, l.length, rfl, Nat.le_refl _, hn, (by intro h; cases h), fun _ => ⟨b, 0, rfl, fun i u hu => blk_cell hb (by simpa using hu)⟩⟩

set_option maxHeartbeats 400000 in
theorem less_any (a b : List UInt8) (ha : a.length = 32) (hb : b.length = 32) (w : World) (r : Bool) (hr : idLt a b = r) : Calls Try.prog 86 #[.agg (a.map vb).toArray, .agg (b.map vb).toArray] w fun e w' => e = .returned (.bool r) ∧ Gr w w' := by
  have hal : Try.prog.arrayLen 23 = 32 := by kernel_rfl
  obtain ⟨w1, hw1⟩ : ∃ w1, w.alloc (.cells (a.map vb).toArray 23) = w1 := ⟨_, rfl⟩
  obtain ⟨w2, hw2⟩ : ∃ w2, w1.alloc (.cells (b.map vb).toArray 23) = w2 := ⟨_, rfl⟩
  have hb1 : w2.heap[w.heap.size]? = some (.cells (a.map vb).toArray 23 (0, 0)) := by
    rw [← hw2]; exact ((Keep.refl noBlk w1).alloc _).blk (by rw [← hw1]; exact heap_alloc_new _ _) id
  have hb2 : w2.heap[w.heap.size + 1]? = some (.cells (b.map vb).toArray 23 (0, 0)) := by
    rw [← hw2, show w.heap.size + 1 = w1.heap.size by rw [← hw1]; exact (World.size_alloc _ _).symm]; exact heap_alloc_new _ _
  have hg : Gr w w2 := by rw [← hw2, ← hw1]; exact ((Gr.refl _).alloc _).alloc _
  have C := Lib.hid fun q => bcompare_any (w2.drewN q) (.slice (some ⟨w.heap.size, 0, none⟩) 32 32) (.slice (some ⟨w.heap.size + 1, 0, none⟩) 32 32) a b
    (rd_arr (((Keep.refl noBlk w2).drewN q).blk hb1 id) ha (by unfold maxLen; omega)) (rd_arr (((Keep.refl noBlk w2).drewN q).blk hb2 id) hb (by unfold maxLen; omega))
  have HR : Hid (decide (Lib.compareBytes a b < 0) = r) := Lib.hid hr
  have HG := Lib.hid hg
  have hs1 : w1.heap.size = w.heap.size + 1 := by rw [← hw1]; exact World.size_alloc _ _
  generalize Lib.compareBytes a b = z at *
  generalize (a.map vb).toArray = av at *
  generalize (b.map vb).toArray = bv at *
  clear hr hg hb1 hb2 ha hb
  go_enter Try.func86, Try.ntmps86
  go_wp2_with fail
  clear hw1 hw2
  go_quiet ((go_at_call 96; exact Calls.quiet_of_same (C.out _)))
  go_wp2_with fail
  go_ret
  exact ⟨by rw [← HR.out]; rfl, HG.out.drewN _⟩

theorem load_id {w : World} {b : Nat} {a : List UInt8} (h : w.heap[b]? = some (.cells (a.map vb).toArray 23 (0, 0))) : w.rangeAt b 0 (a.map vb) := rangeAt_whole h

set_option maxHeartbeats 800000 in
theorem order_any (a b : List UInt8) (ha : a.length = 32) (hb : b.length = 32) (w : World) : Calls Try.prog 61 #[.agg (a.map vb).toArray, .agg (b.map vb).toArray] w fun e w' => e = .returned (.int .i64 (orderI a b)) ∧ Gr w w' := by
  have hva : (a.map vb).length = 32 := by rw [List.length_map]; exact ha
  have hvb : (b.map vb).length = 32 := by rw [List.length_map]; exact hb
  have HIA : Hid ((Try.prog.info? 23).map (·.size) = some (a.map vb).length) := Lib.hid (by rw [hva]; exact sizeID)
  have HIB : Hid ((Try.prog.info? 23).map (·.size) = some (b.map vb).length) := Lib.hid (by rw [hvb]; exact sizeID)
  obtain ⟨w1, hw1⟩ : ∃ w1, w.alloc (.cells (a.map vb).toArray 23) = w1 := ⟨_, rfl⟩
  obtain ⟨w2, hw2⟩ : ∃ w2, w1.alloc (.cells (b.map vb).toArray 23) = w2 := ⟨_, rfl⟩
  have hb1 : w2.heap[w.heap.size]? = some (.cells (a.map vb).toArray 23 (0, 0)) := by
    rw [← hw2]; exact ((Keep.refl noBlk w1).alloc _).blk (by rw [← hw1]; exact heap_alloc_new _ _) id
  have hb2 : w2.heap[w.heap.size + 1]? = some (.cells (b.map vb).toArray 23 (0, 0)) := by
    rw [← hw2, show w.heap.size + 1 = w1.heap.size by rw [← hw1]; exact (World.size_alloc _ _).symm]; exact heap_alloc_new _ _
  have hg : Gr w w2 := by rw [← hw2, ← hw1]; exact ((Gr.refl _).alloc _).alloc _
  have L1 := Lib.hid fun W r (h : idLt a b = r) => less_any a b ha hb W r h
  have L2 := Lib.hid fun W r (h : idLt b a = r) => less_any b a hb ha W r h
  have HG := Lib.hid hg
  have hs1 : w1.heap.size = w.heap.size + 1 := by rw [← hw1]; exact World.size_alloc _ _
  have HB1 := Lib.hid hb1; have HB2 := Lib.hid hb2
  have HO : Hid (orderI a b = if idLt a b = true then -1 else if idLt b a = true then 1 else 0) := Lib.hid rfl
  clear hb1 hb2 hg ha hb hva hvb
  generalize hx : idLt a b = x at *
  generalize hy : idLt b a = y at *
  have HX := Lib.hid hx; have HY := Lib.hid hy
  clear hx hy
  cases x
  · cases y <;>
    · go_enter Try.func61, Try.ntmps61
      go_wp2_with (first
        | ((with_reducible show wpList _ _ _ (⟨some 6, .load 23 (.tmp 2), _, _, _, _⟩ :: _) _ _); refine wpList_load_mid rfl 23 (.tmp 2) rfl w.heap.size 0 rfl (a.map vb) _ (load_id HB1.out) Try.underlying23 rfl HIA.out ?_)
        | ((with_reducible show wpList _ _ _ (⟨some 7, .load 23 (.tmp 3), _, _, _, _⟩ :: _) _ _); refine wpList_load_mid rfl 23 (.tmp 3) rfl (w.heap.size + 1) 0 rfl (b.map vb) _ (load_id HB2.out) Try.underlying23 rfl HIB.out ?_))
      clear hw1 hw2
      refine (L1.out _ _ rfl).mono ?_
      rintro e w3 ⟨rfl, hg3⟩
      have HB13 := Lib.hid (hg3.keep.blk HB1.out id); have HB23 := Lib.hid (hg3.keep.blk HB2.out id); have HG3 := Lib.hid hg3
      clear hg3
      go_wp2_with (first
        | ((with_reducible show wpList _ _ _ (⟨some 10, .load 23 (.tmp 3), _, _, _, _⟩ :: _) _ _); refine wpList_load_mid rfl 23 (.tmp 3) rfl (w.heap.size + 1) 0 rfl (b.map vb) _ (load_id HB23.out) Try.underlying23 rfl HIB.out ?_)
        | ((with_reducible show wpList _ _ _ (⟨some 11, .load 23 (.tmp 2), _, _, _, _⟩ :: _) _ _); refine wpList_load_mid rfl 23 (.tmp 2) rfl w.heap.size 0 rfl (a.map vb) _ (load_id HB13.out) Try.underlying23 rfl HIA.out ?_))
      refine (L2.out _ _ rfl).mono ?_
      rintro e w4 ⟨rfl, hg4⟩
      have HG4 := Lib.hid hg4
      clear hg4
      go_wp2_with fail
      go_ret
      exact ⟨by rw [HO.out]; rfl, (HG.out.trans HG3.out).trans HG4.out⟩
  · go_enter Try.func61, Try.ntmps61
    go_wp2_with (first
      | ((with_reducible show wpList _ _ _ (⟨some 6, .load 23 (.tmp 2), _, _, _, _⟩ :: _) _ _); refine wpList_load_mid rfl 23 (.tmp 2) rfl w.heap.size 0 rfl (a.map vb) _ (load_id HB1.out) Try.underlying23 rfl HIA.out ?_)
      | ((with_reducible show wpList _ _ _ (⟨some 7, .load 23 (.tmp 3), _, _, _, _⟩ :: _) _ _); refine wpList_load_mid rfl 23 (.tmp 3) rfl (w.heap.size + 1) 0 rfl (b.map vb) _ (load_id HB2.out) Try.underlying23 rfl HIB.out ?_))
    clear hw1 hw2
    refine (L1.out _ _ rfl).mono ?_
    rintro e w3 ⟨rfl, hg3⟩
    have HG3 := Lib.hid hg3
    clear hg3
    go_wp2_with fail
    go_ret
    exact ⟨by rw [HO.out]; rfl, HG.out.trans HG3.out⟩
end Go.Proofs.Ytdlegbcdmlmbpaa
