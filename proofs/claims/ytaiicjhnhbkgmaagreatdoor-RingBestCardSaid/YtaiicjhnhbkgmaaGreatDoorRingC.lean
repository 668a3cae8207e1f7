/-
  ring's entries: their order; two of them turned about.
  Conditions: none.
-/
import Derived.Test.YtaiicjhnhbkgmaaGreatDoorHeapP
import Derived.Handy
import Derived.Test.YtaiicjhnhbkgmaaGreatDoorRingA
import Derived.Test.YtaiicjhnhbkgmaaGreatDoorPtrH
import Derived.Test.YtaiicjhnhbkgmaaGreatDoorBytes
namespace Go.Proofs.YtaiicjhnhbkgmaaGreatDoor
open Go.RowKit Go.Maps Go.ChangeMaps
set_option maxRecDepth 100000
set_option linter.unusedVariables false

/-! ### Entries as cells -/
theorem bytesLess_eq : ∀ a b : List UInt8, Op.bytesLess a b = byLt a b
  | _, [] => by
    rename_i a
    cases a <;> rfl
  | [], y :: b => rfl
  | x :: a, y :: b => by
    unfold Op.bytesLess
    rw [bytesLess_eq a b]
    unfold byLt
    conv => rhs; unfold Lib.compareBytes
    by_cases h1 : x < y
    · rw [if_pos h1, decide_eq_true h1]; rfl
    · rw [if_neg h1, decide_eq_false h1, Bool.false_or]
      by_cases h2 : y < x
      · rw [if_pos h2]
        have hne : (x == y) = false := by
          rw [beq_eq_false_iff_ne]
          intro e; subst e; exact h1 h2
        rw [hne]; rfl
      · rw [if_neg h2]
        have he : x = y := UInt8.le_antisymm (UInt8.not_lt.1 h2) (UInt8.not_lt.1 h1)
        subst he
        rw [beq_self_eq_true, Bool.true_and]
def entCs (p : Value × Ub) : List Value := ubCs p.1 p.2 ++ [.string (strB (packU p.2))]
def entRow (es : List (Value × Ub)) : List Value := es.flatMap entCs
theorem entCs_len {p : Value × Ub} (h : p.2.root.sum.length = 32 ∧ p.2.pool.length = 32) : (entCs p).length = 70 := by
  unfold entCs; rw [List.length_append, ubCs_len h.1 h.2]; rfl
theorem entRow_len {es : List (Value × Ub)} (h : UbLens es) : (entRow es).length = es.length * 70 := flatIn_len fun p hp => entCs_len (h p hp)
theorem entRow_at {es : List (Value × Ub)} (h : UbLens es) {k : Nat} {p : Value × Ub} (hk : es[k]? = some p) {j : Nat} (hj : j < 70) : (entRow es)[k * 70 + j]? = (entCs p)[j]? :=
  flatIn_get (fun p hp => entCs_len (h p hp)) hk hj
theorem entRow_append (a b : List (Value × Ub)) : entRow (a ++ b) = entRow a ++ entRow b := by simp [entRow]
theorem entRow_one (p : Value × Ub) : entRow [p] = entCs p := by simp [entRow]
theorem entUnder : Tryz.prog.underlying 64 = some (.struct (Tryz.prog.fieldsOf 64)) := by kernel_rfl
theorem sizeEnt : (Tryz.prog.info? 64).map (·.size) = some 70 := by kernel_rfl
theorem sizeEntL {l : List Value} (h : l.length = 70) : (Tryz.prog.info? 64).map (·.size) = some l.length := by rw [h]; exact sizeEnt
theorem rd_ent {w : World} {v : Value} {es : List (Value × Ub)} (hl : UbLens es) (h : Rd w 70 v es.length (entRow es)) {k : Nat} {p : Value × Ub} (hk : es[k]? = some p) :
    ∃ g o cap, v = .slice (some ⟨g, o, none⟩) es.length cap ∧ w.rangeAt g (o + k * 70) (entCs p) := by
  obtain ⟨h0, a, cap, rfl, h1, h2, h3, h4⟩ := h
  have hlt := (List.getElem?_eq_some_iff.1 hk).1
  obtain ⟨g, o, rfl, hc⟩ := h4 (by rw [entRow_len hl]; omega)
  refine ⟨g, o, cap, rfl, fun j u hj => ?_⟩
  have hj2 : j < 70 := by have := (List.getElem?_eq_some_iff.1 hj).1; rwa [entCs_len (hl p (List.mem_of_getElem? hk))] at this
  have := hc (k * 70 + j) u (by rw [entRow_at hl hk hj2]; exact hj)
  rwa [← Nat.add_assoc] at this
theorem oneCell_ent {oa : Option Addr} {n ca : Nat} (u : Ub) : ∀ x ∈ entCs (.slice oa n ca, u), x.oneCell' = true := by
  intro x hx
  rcases List.mem_append.1 hx with hx | hx
  · exact oneCell_ub u x hx
  · obtain rfl : x = .string (strB (packU u)) := by simpa using hx
    rfl
/-- An element of a row of cells, stored anew. -/
theorem row_set {α : Type} {f : α → List Value} {sz : Nat} (l : List α) (x : α) (i : Nat) (hi : i < l.length) (hf : ∀ y ∈ l, (f y).length = sz) (hx : (f x).length = sz) (cur : Array Value) (hc : l.length * sz ≤ cur.size) (ht : cur.toList.take (l.length * sz) = l.flatMap f) :
    (spl cur (i * sz) (f x)).toList.take (l.length * sz) = (l.set i x).flatMap f := by
  have hf2 : ∀ y ∈ l.set i x, (f y).length = sz := fun y hy => by
    rcases List.mem_or_eq_of_mem_set hy with h | h
    · exact hf y h
    · rw [h]; exact hx
  have hb : i * sz + sz ≤ l.length * sz := by rw [← Nat.succ_mul]; exact Nat.mul_le_mul_right _ hi
  apply List.ext_getElem?
  intro j
  rw [List.getElem?_take]
  by_cases hj : j < l.length * sz
  · rw [if_pos hj]
    have h0 : 0 < sz := by
      rcases Nat.eq_zero_or_pos sz with h | h
      · subst h; simp at hj
      · exact h
    have e : j = (j / sz) * sz + j % sz := by rw [Nat.mul_comm]; exact (Nat.div_add_mod j sz).symm
    have hr : j % sz < sz := Nat.mod_lt _ h0
    have hq : j / sz < l.length := (Nat.div_lt_iff_lt_mul h0).2 hj
    obtain ⟨q, hq_⟩ : ∃ q, j / sz = q := ⟨_, rfl⟩
    obtain ⟨r, hr_⟩ : ∃ r, j % sz = r := ⟨_, rfl⟩
    rw [hq_, hr_] at e
    rw [hr_] at hr
    rw [hq_] at hq
    have hl : (l.set i x)[q]? = some (if i = q then x else l[q]) := by
      rw [List.getElem?_set]
      by_cases h : i = q
      · subst h; rw [if_pos rfl, if_pos hq, if_pos rfl]
      · rw [if_neg h, if_neg h, List.getElem?_eq_getElem hq]
    have hg := flatIn_get hf2 hl hr
    rw [Array.getElem?_toList, spl_get _ _ _ _ (by rw [hx]; omega), hx]
    rw [e, hg]
    by_cases h : i = q
    · subst h
      rw [if_pos (by omega), if_pos rfl, show i * sz + r - i * sz = r by omega]
    · have hn : ¬ (i * sz ≤ q * sz + r ∧ q * sz + r < i * sz + sz) := by
        intro ⟨a, b⟩
        rcases Nat.lt_or_gt_of_ne h with h | h
        · have : (i + 1) * sz ≤ q * sz := Nat.mul_le_mul_right _ h
          rw [Nat.succ_mul] at this; omega
        · have : (q + 1) * sz ≤ i * sz := Nat.mul_le_mul_right _ h
          rw [Nat.succ_mul] at this; omega
      rw [if_neg hn, if_neg h]
      have h3 := flatIn_get hf (List.getElem?_eq_getElem hq) hr
      rw [← h3, ← ht, List.getElem?_take, if_pos (by rw [← e]; exact hj), Array.getElem?_toList]
  · rw [if_neg hj]
    symm
    rw [List.getElem?_eq_none_iff, flatIn_len hf2, List.length_set]
    omega
theorem owns_set {w w' : World} {B : Nat} {g cap : Nat} {es : List (Value × Ub)} (hl : UbLens es) (h : w.ownsRow B 64 70 (.slice (some ⟨g, 0, none⟩) es.length cap) es.length (entRow es)) {i : Nat} (hi : i < es.length) {p : Value × Ub} (hp : p.2.root.sum.length = 32 ∧ p.2.pool.length = 32)
    {cur : Array Value} (hg : w.heap[g]? = some (.cells cur 64 (0, 0))) (hg' : w'.heap[g]? = some (.cells (spl cur (i * 70) (entCs p)) 64 (0, 0))) :
    w'.ownsRow B 64 70 (.slice (some ⟨g, 0, none⟩) (es.set i p).length cap) (es.set i p).length (entRow (es.set i p)) := by
  have hl2 : UbLens (es.set i p) := fun q hq => by
    rcases List.mem_or_eq_of_mem_set hq with h | h
    · exact hl q h
    · rw [h]; exact hp
  refine ⟨entRow_len hl2, .inr ?_⟩
  rcases h.2 with ⟨h1, -⟩ | ⟨g2, cap2, cur2, h1, h2, h3, h4, h5, h6, h7⟩
  · cases h1
  · injection h1 with h1 _ h1c
    injection h1 with h1
    injection h1 with h1
    subst h1; subst h1c
    rw [hg] at h3
    cases h3
    refine ⟨g, cap, _, rfl, h2, hg', by rw [List.length_set]; exact h4, h5, by rw [spl_size, h6], ?_⟩
    rw [List.length_set]
    exact row_set es p i hi (fun y hy => entCs_len (hl y hy)) (entCs_len hp) cur (by rw [h6]; exact Nat.mul_le_mul_right _ h4) h7
theorem owns_cells {w : World} {B n c : Nat} {a : Option Addr} {xs : List Value} (h : w.ownsRow B 64 70 (.slice a n c) n xs) (hn : 0 < n) : ∃ g cur, a = some ⟨g, 0, none⟩ ∧ w.heap[g]? = some (.cells cur 64 (0, 0)) ∧ n * 70 ≤ cur.size ∧ B ≤ g := by
  rcases h.2 with ⟨h1, -⟩ | ⟨g, cap, cur, h1, hb, hh, h3, h4, h5, -⟩
  · cases h1; omega
  · injection h1 with h1 _ h2
    refine ⟨g, cur, h1, hh, ?_, hb⟩
    rw [h5]
    exact Nat.mul_le_mul_right 70 h3
def ordE (x y : Value × Ub) : Int := if y.2.txg < x.2.txg then -1 else if x.2.txg < y.2.txg then 1 else Lib.compareBytes (packU x.2) (packU y.2)
theorem cmpB_range : ∀ a b : List UInt8, -1 ≤ Lib.compareBytes a b ∧ Lib.compareBytes a b ≤ 1
  | [], [] => by decide
  | [], _ :: _ => by simp [Lib.compareBytes]
  | _ :: _, [] => by simp [Lib.compareBytes]
  | x :: a, y :: b => by
    have := cmpB_range a b
    unfold Lib.compareBytes
    split
    · omega
    · split
      · omega
      · exact this
theorem ordE_less (x y : Value × Ub) : decide (ordE x y < 0) = lessE x y := by
  unfold ordE lessE ltU byLt
  by_cases h1 : y.2.txg < x.2.txg
  · rw [if_pos h1, decide_eq_true h1]; rfl
  · rw [if_neg h1, decide_eq_false h1, Bool.false_or]
    by_cases h2 : x.2.txg < y.2.txg
    · rw [if_pos h2]
      have : (x.2.txg == y.2.txg) = false := by rw [beq_eq_false_iff_ne]; omega
      rw [this]; rfl
    · rw [if_neg h2]
      have : (x.2.txg == y.2.txg) = true := by rw [beq_iff_eq]; omega
      rw [this, Bool.true_and]
theorem ordE_range (x y : Value × Ub) : -1 ≤ ordE x y ∧ ordE x y ≤ 1 := by
  have := cmpB_range (packU x.2) (packU y.2)
  unfold ordE
  split
  · omega
  · split <;> omega
/-! ### Comparing -/
def IntPost (w : World) (j : Int) (e : Ending) (w' : World) : Prop := e = .returned (.int .i64 j) ∧ Keep noBlk w w'
theorem nanI_any (w : World) (n : Int) : Calls Tryz.prog 159 #[.int .i64 n] w (TherePost w false) := by
  go_enter Tryz.func159, Tryz.ntmps159
  go_wp2_with fail
  go_ret
  exact ⟨by simp, Keep.refl _ _⟩
theorem nanS_any (w : World) (s : ByteArray) : Calls Tryz.prog 160 #[.string s] w (TherePost w false) := by
  go_enter Tryz.func160, Tryz.ntmps160
  go_wp2_with fail
  go_ret
  exact ⟨by simp, Keep.refl _ _⟩
def cmpZ (a b : Int) : Int := if a < b then -1 else if b < a then 1 else 0
theorem cmpI_any (w : World) (a b : Int) : Calls Tryz.prog 157 #[.int .i64 a, .int .i64 b] w (IntPost w (cmpZ a b)) := by
  go_enter Tryz.func157, Tryz.ntmps157
  go_wp2_with fail
  refine (nanI_any _ a).mono ?_
  rintro e w1 ⟨rfl, hk⟩
  have HK := Lib.hid hk
  clear hk
  go_wp2_with fail
  refine (nanI_any _ b).mono ?_
  rintro e w2 ⟨rfl, hk⟩
  have HK := Lib.hid (HK.out.trans hk)
  clear hk
  by_cases h1 : a < b
  · have hp : IntPost w (cmpZ a b) (.returned (.int .i64 (-1))) w2 := ⟨by unfold cmpZ; rw [if_pos h1], HK.out⟩
    have HP := Lib.hid hp; clear hp
    go_wp2_with fail
    go_ret
    exact HP.out
  · have h1d : decide (a < b) = false := decide_eq_false h1
    by_cases h2 : b < a
    · have hp : IntPost w (cmpZ a b) (.returned (.int .i64 1)) w2 := ⟨by unfold cmpZ; rw [if_neg h1, if_pos h2], HK.out⟩
      have HP := Lib.hid hp; clear hp
      go_wp2_with fail
      go_ret
      exact HP.out
    · have h2d : decide (b < a) = false := decide_eq_false h2
      have hp : IntPost w (cmpZ a b) (.returned (.int .i64 0)) w2 := ⟨by unfold cmpZ; rw [if_neg h1, if_neg h2], HK.out⟩
      have HP := Lib.hid hp; clear hp
      go_wp2_with fail
      go_ret
      exact HP.out
theorem strB_less (a b : List UInt8) : Op.bytesLess (strB a).toList (strB b).toList = byLt a b := by
  have e : ∀ l : List UInt8, (strB l).toList = l := fun l => by unfold strB; rw [ByteArray.toList_mk]
  rw [e, e, bytesLess_eq]
theorem cmpS_any (w : World) (xs ys : List UInt8) : Calls Tryz.prog 158 #[.string (strB xs), .string (strB ys)] w (IntPost w (Lib.compareBytes xs ys)) := by
  have hrng := cmpB_range xs ys
  have hlt := strB_less xs ys
  have heq := strB_eq xs ys
  obtain ⟨s1, hs1⟩ : ∃ s, strB xs = s := ⟨_, rfl⟩
  obtain ⟨s2, hs2⟩ : ∃ s, strB ys = s := ⟨_, rfl⟩
  rw [hs1, hs2] at hlt heq ⊢
  clear hs1 hs2
  go_enter Tryz.func158, Tryz.ntmps158
  go_wp2_with fail
  refine (nanS_any _ s1).mono ?_
  rintro e w1 ⟨rfl, hk⟩
  have HK := Lib.hid hk
  clear hk
  go_wp2_with fail
  refine (nanS_any _ s2).mono ?_
  rintro e w2 ⟨rfl, hk⟩
  have HK := Lib.hid (HK.out.trans hk)
  clear hk
  by_cases h1 : Lib.compareBytes xs ys < 0
  · rw [show byLt xs ys = true from decide_eq_true h1] at hlt
    have hp : IntPost w (Lib.compareBytes xs ys) (.returned (.int .i64 (-1))) w2 := ⟨by rw [show Lib.compareBytes xs ys = -1 by omega], HK.out⟩
    have HP := Lib.hid hp; clear hp heq hrng h1
    go_wp2_with fail
    go_ret
    exact HP.out
  · rw [show byLt xs ys = false from decide_eq_false h1] at hlt
    by_cases h2 : xs = ys
    · rw [decide_eq_true h2] at heq
      have hp : IntPost w (Lib.compareBytes xs ys) (.returned (.int .i64 0)) w2 := ⟨by rw [h2, cmp_reflU], HK.out⟩
      have HP := Lib.hid hp; clear hp hrng h1 h2
      go_wp2_with fail
      go_ret
      exact HP.out
    · rw [decide_eq_false h2] at heq
      have hz : Lib.compareBytes xs ys ≠ 0 := fun e => h2 (cmp_eq0U e)
      have hp : IntPost w (Lib.compareBytes xs ys) (.returned (.int .i64 1)) w2 := ⟨by rw [show Lib.compareBytes xs ys = 1 by omega], HK.out⟩
      have HP := Lib.hid hp; clear hp hrng hz h1 h2
      go_wp2_with fail
      go_ret
      exact HP.out
theorem or_any (w : World) (g : Nat) (a b : Int) (hb : w.heap[g]? = some (.cells #[.int .i64 a, .int .i64 b] 3 (0, 0))) : Calls Tryz.prog 156 #[.slice (some ⟨g, 0, none⟩) 2 2] w (IntPost w (if a = 0 then b else a)) := by
  have h0 := blk_cell (i := 0) (v := .int .i64 a) hb rfl
  have h1 := blk_cell (i := 1) (v := .int .i64 b) hb rfl
  clear hb
  by_cases ha : a = 0
  · subst ha
    rw [if_pos rfl]
    by_cases hb0 : b = 0
    · subst hb0
      go_enter Tryz.func156, Tryz.ntmps156
      go_wp2_with fail
      go_rounds 3
      go_ret
      exact ⟨rfl, Keep.refl _ _⟩
    · have hbd : (b == 0) = false := by simpa using hb0
      go_enter Tryz.func156, Tryz.ntmps156
      go_wp2_with fail
      go_rounds 3
      go_ret
      exact ⟨rfl, Keep.refl _ _⟩
  · rw [if_neg ha]
    have had : (a == 0) = false := by simpa using ha
    go_enter Tryz.func156, Tryz.ntmps156
    go_wp2_with fail
    go_rounds 3
    go_ret
    exact ⟨rfl, Keep.refl _ _⟩

set_option maxHeartbeats 8000000 in
theorem order_any (w : World) (va vb' : Value) (x y : Ub) (hx : x.root.sum.length = 32 ∧ x.pool.length = 32) (hy : y.root.sum.length = 32 ∧ y.pool.length = 32) : Calls Tryz.prog 155 #[.agg (entCs (va, x)).toArray, .agg (entCs (vb', y)).toArray] w (IntPost w (ordE (va, x) (vb', y))) := by
  obtain ⟨w1, hw1, k1, hb1, s1⟩ := alloc_facts w (entCs (va, x)).toArray 64
  obtain ⟨w2, hw2, k2, hb2, s2⟩ := alloc_facts w1 (entCs (vb', y)).toArray 64
  have hb1 := k2.blk hb1 id
  rw [s1] at hb2
  have HK := Lib.hid (k1.trans k2)
  have ha0 := blk_cell (i := 0) (v := .int .i64 x.txg) hb1 rfl
  have hb0 := blk_cell (i := 0) (v := .int .i64 y.txg) hb2 rfl
  have ha1 := blk_cell (i := 69) (v := .string (strB (packU x))) hb1 (by rw [List.getElem?_toArray]; unfold entCs; rw [List.getElem?_append_right (by rw [ubCs_len hx.1 hx.2]; omega), ubCs_len hx.1 hx.2]; rfl)
  have hb1' := blk_cell (i := 69) (v := .string (strB (packU y))) hb2 (by rw [List.getElem?_toArray]; unfold entCs; rw [List.getElem?_append_right (by rw [ubCs_len hy.1 hy.2]; omega), ubCs_len hy.1 hy.2]; rfl)
  obtain ⟨b, hb⟩ : ∃ b, w.heap.size = b := ⟨_, rfl⟩
  have hlt : b + 1 < w2.heap.size := by omega
  have hf1 : w2.frozen? ⟨b, 0, none⟩ = false := by rw [← hb]; exact blk_free hb1 0
  rw [hb] at ha0 hb0 ha1 hb1'
  have HP : Hid (∀ w', Keep noBlk w w' → IntPost w (ordE (va, x) (vb', y)) (.returned (.int .i64 (if cmpZ y.txg x.txg = 0 then Lib.compareBytes (packU x) (packU y) else cmpZ y.txg x.txg))) w') := Lib.hid (fun w' k => ⟨by
    unfold ordE cmpZ
    by_cases h1 : y.txg < x.txg
    · rw [if_pos h1, if_pos h1]; rfl
    · rw [if_neg h1, if_neg h1]
      by_cases h2 : x.txg < y.txg
      · rw [if_pos h2, if_pos h2]; rfl
      · rw [if_neg h2, if_neg h2, if_pos rfl], k⟩)
  obtain ⟨xt, hxt⟩ : ∃ t, x.txg = t := ⟨_, rfl⟩
  obtain ⟨yt, hyt⟩ : ∃ t, y.txg = t := ⟨_, rfl⟩
  obtain ⟨xs, hxs⟩ : ∃ t, packU x = t := ⟨_, rfl⟩
  obtain ⟨ys, hys⟩ : ∃ t, packU y = t := ⟨_, rfl⟩
  rw [hxt, hyt, hxs, hys] at HP
  rw [hxt] at ha0; rw [hyt] at hb0; rw [hxs] at ha1; rw [hys] at hb1'
  clear k1 k2 hb1 hb2 s2 hxt hyt hxs hys
  go_enter Tryz.func155, Tryz.ntmps155
  go_wp2_with fail
  clear hw1 hw2 s1 hb hf1
  obtain ⟨S, hS0⟩ : ∃ S : World → Prop, S = fun w' => Keep noBlk w2 w' := ⟨_, rfl⟩
  have HSE := Lib.hid (show ∀ w', S w' → Keep noBlk w2 w' from fun w' h => by rw [hS0] at h; exact h)
  have HSI := Lib.hid (show ∀ w', Keep noBlk w2 w' → S w' from fun w' h => by rw [hS0]; exact h)
  have hS : S w2.drew := by rw [hS0]; exact (Keep.refl _ _).drew
  clear hS0
  refine wp_region_held (S := S) (by kernel_rfl) ?_
  change wpAnyH _ _ _ _ _ _ _ _ w2.drew
  generalize w2.drew = wb at hS ⊢
  refine tkb 0 (.pointer (some ⟨(b + 1), 0, none⟩)) rfl hS ?_
  simp only [Act.put, List.setIfInBounds_toArray, List.set_cons_zero, List.set_cons_succ, List.getElem_toArray, List.getElem_cons_zero]
  refine tkb 1 (.pointer (some ⟨(b + 1), 0, none⟩)) rfl hS ?_
  simp only [Act.put, List.setIfInBounds_toArray, List.set_cons_zero, List.set_cons_succ, List.getElem_toArray, List.getElem_cons_succ, List.getElem_cons_zero]
  refine tkd 2 (.int .i64 yt) rfl (.inl ⟨by rfl, fun w' hw' => by have c := (HSE.out w' hw').cell hb0 id; go_simp⟩) hS ?_
  simp only [Act.put, List.setIfInBounds_toArray, List.set_cons_zero, List.set_cons_succ, List.getElem_toArray, List.getElem_cons_succ, List.getElem_cons_zero]
  refine tkb 3 (.pointer (some ⟨b, 0, none⟩)) rfl hS ?_
  simp only [Act.put, List.setIfInBounds_toArray, List.set_cons_zero, List.set_cons_succ, List.getElem_toArray, List.getElem_cons_succ, List.getElem_cons_zero]
  refine tkb 4 (.pointer (some ⟨b, 0, none⟩)) rfl hS ?_
  simp only [Act.put, List.setIfInBounds_toArray, List.set_cons_zero, List.set_cons_succ, List.getElem_toArray, List.getElem_cons_succ, List.getElem_cons_zero]
  refine tkd 5 (.int .i64 xt) rfl (.inl ⟨by rfl, fun w' hw' => by have c := (HSE.out w' hw').cell ha0 id; go_simp⟩) hS ?_
  simp only [Act.put, List.setIfInBounds_toArray, List.set_cons_zero, List.set_cons_succ, List.getElem_toArray, List.getElem_cons_succ, List.getElem_cons_zero]
  refine tkb 7 (.pointer (some ⟨b, 69, none⟩)) rfl hS ?_
  simp only [Act.put, List.setIfInBounds_toArray, List.set_cons_zero, List.set_cons_succ, List.getElem_toArray, List.getElem_cons_succ, List.getElem_cons_zero]
  refine tkd 8 (.string (strB xs)) rfl (.inl ⟨by rfl, fun w' hw' => by have c := (HSE.out w' hw').cell ha1 id; go_simp⟩) hS ?_
  simp only [Act.put, List.setIfInBounds_toArray, List.set_cons_zero, List.set_cons_succ, List.getElem_toArray, List.getElem_cons_succ, List.getElem_cons_zero]
  refine tkb 9 (.pointer (some ⟨(b + 1), 69, none⟩)) rfl hS ?_
  simp only [Act.put, List.setIfInBounds_toArray, List.set_cons_zero, List.set_cons_succ, List.getElem_toArray, List.getElem_cons_succ, List.getElem_cons_zero]
  refine tkd 10 (.string (strB ys)) rfl (.inl ⟨by rfl, fun w' hw' => by have c := (HSE.out w' hw').cell hb1' id; go_simp⟩) hS ?_
  simp only [Act.put, List.setIfInBounds_toArray, List.set_cons_zero, List.set_cons_succ, List.getElem_toArray, List.getElem_cons_succ, List.getElem_cons_zero]
  refine wpAnyH_one (k := 6) rfl (by kernel_rfl) ?_
  go_wp2_with fail
  refine (cmpI_any wb yt xt).mono ?_
  rintro e wc ⟨rfl, hk⟩
  have hS1 := HSI.out _ ((HSE.out _ hS).trans hk)
  clear hS hk
  go_wp2_with fail
  refine ⟨hS1, ?_⟩
  refine wpAnyH_one (k := 11) rfl (by kernel_rfl) ?_
  go_wp2_with fail
  refine (cmpS_any wc xs ys).mono ?_
  rintro e wd ⟨rfl, hk⟩
  have hS2 := HSI.out _ ((HSE.out _ hS1).trans hk)
  clear hS1 hk
  go_wp2_with fail
  refine ⟨hS2, ?_⟩
  refine wpAnyH_one (k := 12) rfl (by kernel_rfl) ?_
  obtain ⟨we, hw9, hk, hb9, hs9⟩ := alloc_facts wd #[.int .i64 (cmpZ yt xt), .int .i64 (Lib.compareBytes xs ys)] 3
  have HB9 := Lib.hid hb9
  clear hb9 hs9
  go_wp2_with fail
  try rw [hw9]
  clear hw9
  obtain ⟨b9, he_⟩ : ∃ e, wd.heap.size = e := ⟨_, rfl⟩
  rw [he_] at HB9 ⊢
  clear he_
  have hS3 := HSI.out _ ((HSE.out _ hS2).trans hk)
  clear hS2 hk
  refine ⟨hS3, ?_⟩
  obtain ⟨rr, hrr⟩ : ∃ r, (if cmpZ yt xt = 0 then Lib.compareBytes xs ys else cmpZ yt xt) = r := ⟨_, rfl⟩
  have HRR := Lib.hid hrr
  clear hrr
  refine wpAnyH_one (k := 13) rfl (by kernel_rfl) ?_
  go_wp2_with fail
  refine ((show Calls _ _ _ _ (IntPost _ rr) from by rw [← HRR.out]; exact or_any we b9 (cmpZ yt xt) (Lib.compareBytes xs ys) HB9.out)).mono ?_
  rintro e wf ⟨rfl, hk⟩
  have hS4 := HSI.out _ ((HSE.out _ hS3).trans hk)
  clear hS3 hk
  go_wp2_with fail
  refine ⟨hS4, ?_⟩
  refine tka 14 (.int .i64 rr) rfl hS4 ?_
  simp only [Act.put, List.setIfInBounds_toArray, List.set_cons_zero, List.set_cons_succ, List.getElem_toArray, List.getElem_cons_succ, List.getElem_cons_zero]
  refine wpAnyH_done (by kernel_rfl) ?_ _
  have HKR := Lib.hid (HSE.out _ hS4)
  clear hS4 HSE HSI
  have HK := Lib.hid (HK.out.trans HKR.out)
  go_wp2_with fail
  go_ret
  have hp := HP.out _ HK.out
  rw [HRR.out] at hp
  exact hp
set_option maxHeartbeats 8000000 in
theorem less_any (w : World) (v : Value) (es : List (Value × Ub)) (hr : Rd w 70 v es.length (entRow es)) (hl : UbLens es) (i k : Nat) (iv kv : Int) (hiv : iv = (i : Int)) (hkv : kv = (k : Int)) (hi : i < es.length) (hk : k < es.length) :
    Calls Tryz.prog 153 #[v, .int .i64 iv, .int .i64 kv] w (TherePost w (lessE (gD es i) (gD es k))) := by
  subst hiv; subst hkv
  have hxi := gD_get hi; have hxk := gD_get hk
  obtain ⟨⟨xv, xu⟩, hx⟩ : ∃ x, gD es i = x := ⟨_, rfl⟩
  obtain ⟨⟨yv, yu⟩, hy⟩ : ∃ y, gD es k = y := ⟨_, rfl⟩
  rw [hx] at hxi ⊢; rw [hy] at hxk ⊢
  have hxl := hl _ (List.mem_of_getElem? hxi); have hyl := hl _ (List.mem_of_getElem? hxk)
  obtain ⟨g, o, cap, hv, hata⟩ := rd_ent hl hr hxi
  obtain ⟨g2, o2, cap2, hv2, hatb⟩ := rd_ent hl hr hxk
  subst hv
  have e1 : g = g2 ∧ o = o2 := by cases hv2; exact ⟨rfl, rfl⟩
  obtain ⟨rfl, rfl⟩ := e1
  have hlx := entCs_len hxl; have hly := entCs_len hyl
  have C := Lib.hid (fun w' => order_any w' xv yv xu yu hxl hyl)
  obtain ⟨n, hn⟩ : ∃ n, es.length = n := ⟨_, rfl⟩
  rw [hn] at hi hk ⊢
  obtain ⟨lx, hlx_⟩ : ∃ x, entCs (xv, xu) = x := ⟨_, rfl⟩
  obtain ⟨ly, hly_⟩ : ∃ x, entCs (yv, yu) = x := ⟨_, rfl⟩
  rw [hlx_] at C hlx hata; rw [hly_] at C hly hatb
  obtain ⟨r, hr_⟩ : ∃ r, ordE (xv, xu) (yv, yu) = r := ⟨_, rfl⟩
  have HL : Hid (decide (r < 0) = lessE (xv, xu) (yv, yu)) := Lib.hid (by rw [← hr_]; exact ordE_less _ _)
  rw [hr_] at C
  have HATA := Lib.hid hata; have HATB := Lib.hid hatb; have HK := Lib.hid (Keep.refl noBlk w)
  have hki : (i : Int) < (n : Int) := by omega
  have hk0 : (0 : Int) ≤ (i : Int) := by omega
  have hki2 : (k : Int) < (n : Int) := by omega
  have hk02 : (0 : Int) ≤ (k : Int) := by omega
  clear hr hl hata hatb hv2 hxi hxk hx hy hlx_ hly_ hxl hyl hn hr_
  go_enter Tryz.func153, Tryz.ntmps153
  go_wp2_with fail
  obtain ⟨S, hS0⟩ : ∃ S : World → Prop, S = fun w' => Keep noBlk w w' := ⟨_, rfl⟩
  have HSE := Lib.hid (show ∀ w', S w' → Keep noBlk w w' from fun w' h => by rw [hS0] at h; exact h)
  have HSI := Lib.hid (show ∀ w', Keep noBlk w w' → S w' from fun w' h => by rw [hS0]; exact h)
  have hS : S w.drew := by rw [hS0]; exact (Keep.refl _ _).drew
  clear hS0
  refine wp_region_held (S := S) (by kernel_rfl) ?_
  change wpAnyH _ _ _ _ _ _ _ _ w.drew
  generalize w.drew = wb at hS ⊢
  refine tka 0 (.slice (some ⟨g, o, none⟩) n cap) rfl hS ?_
  simp only [Act.put, List.setIfInBounds_toArray, List.set_cons_zero, List.set_cons_succ, List.getElem_toArray, List.getElem_cons_zero]
  refine tka 1 (.int .i64 (i : Int)) rfl hS ?_
  simp only [Act.put, List.setIfInBounds_toArray, List.set_cons_zero, List.set_cons_succ, List.getElem_toArray, List.getElem_cons_succ, List.getElem_cons_zero]
  refine tkb 2 (.pointer (some ⟨g, o + i * 70, none⟩)) rfl hS ?_
  simp only [Act.put, List.setIfInBounds_toArray, List.set_cons_zero, List.set_cons_succ, List.getElem_toArray, List.getElem_cons_succ, List.getElem_cons_zero]
  refine tkd 3 (.agg (lx).toArray) rfl (yieldsIf_load_mid (by rfl) 64 (.tmp 9) rfl (g) (o + i * 70) rfl (lx) _ (fun w' h => (HSE.out w' h).rangeAt HATA.out) entUnder rfl (by first | exact sizeEntL hlx | exact sizeEntL hly)) hS ?_
  simp only [Act.put, List.setIfInBounds_toArray, List.set_cons_zero, List.set_cons_succ, List.getElem_toArray, List.getElem_cons_succ, List.getElem_cons_zero]
  refine tka 4 (.slice (some ⟨g, o, none⟩) n cap) rfl hS ?_
  simp only [Act.put, List.setIfInBounds_toArray, List.set_cons_zero, List.set_cons_succ, List.getElem_toArray, List.getElem_cons_succ, List.getElem_cons_zero]
  refine tka 5 (.int .i64 (k : Int)) rfl hS ?_
  simp only [Act.put, List.setIfInBounds_toArray, List.set_cons_zero, List.set_cons_succ, List.getElem_toArray, List.getElem_cons_succ, List.getElem_cons_zero]
  refine tkb 6 (.pointer (some ⟨g, o + k * 70, none⟩)) rfl hS ?_
  simp only [Act.put, List.setIfInBounds_toArray, List.set_cons_zero, List.set_cons_succ, List.getElem_toArray, List.getElem_cons_succ, List.getElem_cons_zero]
  refine tkd 7 (.agg (ly).toArray) rfl (yieldsIf_load_mid (by rfl) 64 (.tmp 13) rfl (g) (o + k * 70) rfl (ly) _ (fun w' h => (HSE.out w' h).rangeAt HATB.out) entUnder rfl (by first | exact sizeEntL hlx | exact sizeEntL hly)) hS ?_
  simp only [Act.put, List.setIfInBounds_toArray, List.set_cons_zero, List.set_cons_succ, List.getElem_toArray, List.getElem_cons_succ, List.getElem_cons_zero]
  refine wpAnyH_one (k := 8) rfl (by kernel_rfl) ?_
  go_wp2_with fail
  refine (C.out wb).mono ?_
  rintro e wc ⟨rfl, hk⟩
  have hS1 := HSI.out _ ((HSE.out _ hS).trans hk)
  clear hS hk
  go_wp2_with fail
  refine ⟨hS1, ?_⟩
  refine tkb 9 (.bool (decide (r < 0))) rfl hS1 ?_
  simp only [Act.put, List.setIfInBounds_toArray, List.set_cons_zero, List.set_cons_succ, List.getElem_toArray, List.getElem_cons_succ, List.getElem_cons_zero]
  refine tka 10 (.bool (decide (r < 0))) rfl hS1 ?_
  simp only [Act.put, List.setIfInBounds_toArray, List.set_cons_zero, List.set_cons_succ, List.getElem_toArray, List.getElem_cons_succ, List.getElem_cons_zero]
  refine wpAnyH_done (by kernel_rfl) ?_ _
  have HKR := Lib.hid (HSE.out _ hS1)
  clear hS1 HSE HSI
  have HK := Lib.hid (HK.out.trans HKR.out)
  go_wp2_with fail
  go_ret
  exact ⟨by rw [← HL.out]; rfl, HK.out⟩
set_option maxHeartbeats 8000000 in
theorem swap_any (w : World) (B g cap : Nat) (es : List (Value × Ub)) (ho : w.ownsRow B 64 70 (.slice (some ⟨g, 0, none⟩) es.length cap) es.length (entRow es)) (hl : UbLens es) (hone : ∀ e ∈ es, ∃ a n c, e.1 = .slice a n c) (i k : Nat) (iv kv : Int) (hiv : iv = (i : Int)) (hkv : kv = (k : Int)) (hi : i < es.length) (hk : k < es.length) :
    Calls Tryz.prog 154 #[.slice (some ⟨g, 0, none⟩) es.length cap, .int .i64 iv, .int .i64 kv] w fun e w' => e = .returned (.tuple #[]) ∧ w'.ownsRow B 64 70 (.slice (some ⟨g, 0, none⟩) es.length cap) es.length (entRow (swapL es i k)) ∧ Keep (fun j => j = g) w w' := by
  subst hiv; subst hkv
  have hxi := gD_get hi; have hxk := gD_get hk
  obtain ⟨x, hx⟩ : ∃ x, gD es i = x := ⟨_, rfl⟩
  obtain ⟨y, hy⟩ : ∃ y, gD es k = y := ⟨_, rfl⟩
  rw [hx] at hxi; rw [hy] at hxk
  have hxl := hl _ (List.mem_of_getElem? hxi); have hyl := hl _ (List.mem_of_getElem? hxk)
  have hr := Rd.of_owns ho
  obtain ⟨g1, o1, cap1, hv, hata⟩ := rd_ent hl hr hxi
  obtain ⟨g2, o2, cap2, hv2, hatb⟩ := rd_ent hl hr hxk
  have e1 : g = g1 ∧ 0 = o1 := by cases hv; exact ⟨rfl, rfl⟩
  obtain ⟨rfl, rfl⟩ := e1
  have e1 : g = g2 ∧ 0 = o2 := by cases hv2; exact ⟨rfl, rfl⟩
  obtain ⟨rfl, rfl⟩ := e1
  obtain ⟨g3, cur, hg3, hcur, hsz, -⟩ := owns_cells ho (by omega)
  have e1 : g = g3 := by cases hg3; rfl
  subst e1
  have hlx := entCs_len hxl; have hly := entCs_len hyl
  have h1x : ∀ u ∈ entCs x, u.oneCell' = true := by
    obtain ⟨a, n, c, h⟩ := hone x (List.mem_of_getElem? hxi)
    obtain ⟨xv, xu⟩ := x
    subst h
    exact oneCell_ent xu
  have h1y : ∀ u ∈ entCs y, u.oneCell' = true := by
    obtain ⟨a, n, c, h⟩ := hone y (List.mem_of_getElem? hxk)
    obtain ⟨yv, yu⟩ := y
    subst h
    exact oneCell_ent yu
  have HS : Hid (∀ wa wb : World, wa.heap[g]? = some (.cells (spl cur (i * 70) (entCs y)) 64 (0, 0)) → wb.heap[g]? = some (.cells (spl (spl cur (i * 70) (entCs y)) (k * 70) (entCs x)) 64 (0, 0)) →
      wb.ownsRow B 64 70 (.slice (some ⟨g, 0, none⟩) es.length cap) es.length (entRow (swapL es i k))) := Lib.hid (fun wa wb ha hb => by
    have h1 := owns_set hl ho hi hyl hcur ha
    have hl2 : UbLens (es.set i y) := fun q hq => by
      rcases List.mem_or_eq_of_mem_set hq with h | h
      · exact hl q h
      · rw [h]; exact hyl
    have h2 := owns_set hl2 h1 (by rw [List.length_set]; exact hk) hxl ha hb
    rw [List.length_set, List.length_set] at h2
    unfold swapL
    rw [hx, hy]
    exact h2)
  have hfi : i * 70 + 70 ≤ cur.size := by have : (i + 1) * 70 ≤ es.length * 70 := Nat.mul_le_mul_right _ hi; omega
  have hfk : k * 70 + 70 ≤ cur.size := by have : (k + 1) * 70 ≤ es.length * 70 := Nat.mul_le_mul_right _ hk; omega
  obtain ⟨n, hn⟩ : ∃ n, es.length = n := ⟨_, rfl⟩
  rw [hn] at hi hk HS ⊢
  obtain ⟨lx, hlx_⟩ : ∃ l, entCs x = l := ⟨_, rfl⟩
  obtain ⟨ly, hly_⟩ : ∃ l, entCs y = l := ⟨_, rfl⟩
  rw [hlx_] at hlx hata h1x HS; rw [hly_] at hly hatb h1y HS
  have HATA := Lib.hid hata; have HATB := Lib.hid hatb; have HK := Lib.hid (Keep.refl noBlk w); have HCUR := Lib.hid hcur; have H1X := Lib.hid h1x; have H1Y := Lib.hid h1y
  obtain ⟨sw, hsw⟩ : ∃ s, swapL es i k = s := ⟨_, rfl⟩
  rw [hsw] at HS ⊢
  have hki : (i : Int) < (n : Int) := by omega
  have hk0 : (0 : Int) ≤ (i : Int) := by omega
  have hki2 : (k : Int) < (n : Int) := by omega
  have hk02 : (0 : Int) ≤ (k : Int) := by omega
  clear hr hl hata hatb hv hv2 hxi hxk hx hy hlx_ hly_ hxl hyl hn hcur hone h1x h1y ho hsz hg3 hsw
  go_enter Tryz.func154, Tryz.ntmps154
  go_wp2_with fail
  obtain ⟨S, hS0⟩ : ∃ S : World → Prop, S = fun w' => Keep (fun j => j = g) w w' := ⟨_, rfl⟩
  have HSE := Lib.hid (show ∀ w', S w' → Keep (fun j => j = g) w w' from fun w' h => by rw [hS0] at h; exact h)
  have HSI := Lib.hid (show ∀ w', Keep (fun j => j = g) w w' → S w' from fun w' h => by rw [hS0]; exact h)
  have hS : S w.drew := by rw [hS0]; exact (Keep.refl _ _).drew
  clear hS0
  refine wp_region_held (S := S) (by kernel_rfl) ?_
  change wpAnyH _ _ _ _ _ _ _ _ w.drew
  have HCD : w.drew.heap[g]? = some (.cells cur 64 (0, 0)) := HCUR.out
  have HAD : w.drew.rangeAt g (i * 70) lx := by have h := HATA.out; rw [Nat.zero_add] at h; exact h
  have HBD : w.drew.rangeAt g (k * 70) ly := by have h := HATB.out; rw [Nat.zero_add] at h; exact h
  generalize w.drew = wb at hS HCD HAD HBD ⊢
  refine tka 0 (.slice (some ⟨g, 0, none⟩) n cap) rfl hS ?_
  simp only [Act.put, List.setIfInBounds_toArray, List.set_cons_zero, List.set_cons_succ, List.getElem_toArray, List.getElem_cons_zero]
  refine tka 1 (.int .i64 (i : Int)) rfl hS ?_
  simp only [Act.put, List.setIfInBounds_toArray, List.set_cons_zero, List.set_cons_succ, List.getElem_toArray, List.getElem_cons_succ, List.getElem_cons_zero]
  refine tka 2 (.slice (some ⟨g, 0, none⟩) n cap) rfl hS ?_
  simp only [Act.put, List.setIfInBounds_toArray, List.set_cons_zero, List.set_cons_succ, List.getElem_toArray, List.getElem_cons_succ, List.getElem_cons_zero]
  refine tka 3 (.int .i64 (k : Int)) rfl hS ?_
  simp only [Act.put, List.setIfInBounds_toArray, List.set_cons_zero, List.set_cons_succ, List.getElem_toArray, List.getElem_cons_succ, List.getElem_cons_zero]
  refine tka 4 (.slice (some ⟨g, 0, none⟩) n cap) rfl hS ?_
  simp only [Act.put, List.setIfInBounds_toArray, List.set_cons_zero, List.set_cons_succ, List.getElem_toArray, List.getElem_cons_succ, List.getElem_cons_zero]
  refine tka 5 (.int .i64 (k : Int)) rfl hS ?_
  simp only [Act.put, List.setIfInBounds_toArray, List.set_cons_zero, List.set_cons_succ, List.getElem_toArray, List.getElem_cons_succ, List.getElem_cons_zero]
  refine tkb 6 (.pointer (some ⟨g, k * 70, none⟩)) rfl hS ?_
  simp only [Act.put, List.setIfInBounds_toArray, List.set_cons_zero, List.set_cons_succ, List.getElem_toArray, List.getElem_cons_succ, List.getElem_cons_zero]
  refine tka 8 (.slice (some ⟨g, 0, none⟩) n cap) rfl hS ?_
  simp only [Act.put, List.setIfInBounds_toArray, List.set_cons_zero, List.set_cons_succ, List.getElem_toArray, List.getElem_cons_succ, List.getElem_cons_zero]
  refine tka 9 (.int .i64 (i : Int)) rfl hS ?_
  simp only [Act.put, List.setIfInBounds_toArray, List.set_cons_zero, List.set_cons_succ, List.getElem_toArray, List.getElem_cons_succ, List.getElem_cons_zero]
  refine tkb 10 (.pointer (some ⟨g, i * 70, none⟩)) rfl hS ?_
  simp only [Act.put, List.setIfInBounds_toArray, List.set_cons_zero, List.set_cons_succ, List.getElem_toArray, List.getElem_cons_succ, List.getElem_cons_zero]
  refine wpAnyH_two (k := 7) (l := 11) rfl rfl (by kernel_rfl) ?_ ?_
  · refine wpList_load_mid (by rfl) 64 (.tmp 12) (by rfl) g (k * 70) (by rfl) ly _ HBD entUnder rfl (sizeEntL hly) ?_
    go_wp2_with fail
    refine ⟨hS, ?_⟩
    refine wpAnyH_one (k := 11) rfl (by kernel_rfl) ?_
    refine wpList_load_mid (by rfl) 64 (.tmp 16) (by rfl) g (i * 70) (by rfl) lx _ HAD entUnder rfl (sizeEntL hlx) ?_
    go_wp2_with fail
    refine ⟨hS, ?_⟩
    refine tkb 12 (.pointer (some ⟨g, i * 70, none⟩)) rfl hS ?_
    simp only [Act.put, List.setIfInBounds_toArray, List.set_cons_zero, List.set_cons_succ, List.getElem_toArray, List.getElem_cons_succ, List.getElem_cons_zero]
    refine wpAnyH_one (k := 13) rfl (by kernel_rfl) ?_
    refine wpList_store_agg (by rfl) 64 (.tmp 18) (.tmp 13) (by rfl) g (i * 70) ly (by rfl) (by rfl) (cur) 64 HCD (by rw [hly]; exact hfi) (sizeEntL hly) H1Y.out ?_
    intro wc hb_ hk
    have HBA := Lib.hid hb_
    clear hb_
    have hS1 := HSI.out _ ((HSE.out _ hS).trans hk)
    clear hS hk
    go_wp2_with fail
    refine ⟨hS1, ?_⟩
    refine tkb 14 (.pointer (some ⟨g, k * 70, none⟩)) rfl hS1 ?_
    simp only [Act.put, List.setIfInBounds_toArray, List.set_cons_zero, List.set_cons_succ, List.getElem_toArray, List.getElem_cons_succ, List.getElem_cons_zero]
    refine wpAnyH_one (k := 15) rfl (by kernel_rfl) ?_
    refine wpList_store_agg (by rfl) 64 (.tmp 19) (.tmp 17) (by rfl) g (k * 70) lx (by rfl) (by rfl) (spl cur (i * 70) ly) 64 HBA.out (by rw [hlx, spl_size]; exact hfk) (sizeEntL hlx) H1X.out ?_
    intro wd hb_ hk
    have HBB := Lib.hid hb_
    clear hb_
    have hS2 := HSI.out _ ((HSE.out _ hS1).trans hk)
    clear hS1 hk
    go_wp2_with fail
    refine ⟨hS2, ?_⟩
    refine wpAnyH_done (by kernel_rfl) ?_ _
    have HKR := Lib.hid (HSE.out _ hS2)
    clear hS2 HSE HSI
    go_wp2_with fail
    go_end0
    exact ⟨rfl, HS.out _ _ HBA.out HBB.out, HKR.out⟩
  · refine wpList_load_mid (by rfl) 64 (.tmp 16) (by rfl) g (i * 70) (by rfl) lx _ HAD entUnder rfl (sizeEntL hlx) ?_
    go_wp2_with fail
    refine ⟨hS, ?_⟩
    refine wpAnyH_one (k := 7) rfl (by kernel_rfl) ?_
    refine wpList_load_mid (by rfl) 64 (.tmp 12) (by rfl) g (k * 70) (by rfl) ly _ HBD entUnder rfl (sizeEntL hly) ?_
    go_wp2_with fail
    refine ⟨hS, ?_⟩
    refine tkb 12 (.pointer (some ⟨g, i * 70, none⟩)) rfl hS ?_
    simp only [Act.put, List.setIfInBounds_toArray, List.set_cons_zero, List.set_cons_succ, List.getElem_toArray, List.getElem_cons_succ, List.getElem_cons_zero]
    refine wpAnyH_one (k := 13) rfl (by kernel_rfl) ?_
    refine wpList_store_agg (by rfl) 64 (.tmp 18) (.tmp 13) (by rfl) g (i * 70) ly (by rfl) (by rfl) (cur) 64 HCD (by rw [hly]; exact hfi) (sizeEntL hly) H1Y.out ?_
    intro wc hb_ hk
    have HBA := Lib.hid hb_
    clear hb_
    have hS1 := HSI.out _ ((HSE.out _ hS).trans hk)
    clear hS hk
    go_wp2_with fail
    refine ⟨hS1, ?_⟩
    refine tkb 14 (.pointer (some ⟨g, k * 70, none⟩)) rfl hS1 ?_
    simp only [Act.put, List.setIfInBounds_toArray, List.set_cons_zero, List.set_cons_succ, List.getElem_toArray, List.getElem_cons_succ, List.getElem_cons_zero]
    refine wpAnyH_one (k := 15) rfl (by kernel_rfl) ?_
    refine wpList_store_agg (by rfl) 64 (.tmp 19) (.tmp 17) (by rfl) g (k * 70) lx (by rfl) (by rfl) (spl cur (i * 70) ly) 64 HBA.out (by rw [hlx, spl_size]; exact hfk) (sizeEntL hlx) H1X.out ?_
    intro wd hb_ hk
    have HBB := Lib.hid hb_
    clear hb_
    have hS2 := HSI.out _ ((HSE.out _ hS1).trans hk)
    clear hS1 hk
    go_wp2_with fail
    refine ⟨hS2, ?_⟩
    refine wpAnyH_done (by kernel_rfl) ?_ _
    have HKR := Lib.hid (HSE.out _ hS2)
    clear hS2 HSE HSI
    go_wp2_with fail
    go_end0
    exact ⟨rfl, HS.out _ _ HBA.out HBB.out, HKR.out⟩

end Go.Proofs.YtaiicjhnhbkgmaaGreatDoor
