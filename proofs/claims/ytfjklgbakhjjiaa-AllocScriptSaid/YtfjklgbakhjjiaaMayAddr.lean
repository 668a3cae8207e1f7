/-
  Which addresses may be: the program's May and the document's; the document's Less; at.
  Conditions: none.
-/
import Derived.Test.YtfjklgbakhjjiaaSameAddr
namespace Go.Proofs.Ytfjklgbakhjjiaa
open Go.RowKit
set_option maxRecDepth 100000
set_option linter.unusedVariables false

def mayB (a : Ad) (devs sectors : Int) : Bool := decide (2 ≤ devs) && decide (devs ≤ 8) && decide (8 ≤ sectors) && decide (sectors ≤ 4096) && decide (0 ≤ a.dev) && decide (a.dev < devs) && decide (5 ≤ a.sec) && decide (a.sec < sectors)

set_option maxHeartbeats 4000000 in
theorem may_any (a : Ad) (devs sectors : Int) (w : World) : Calls Try.prog 32 #[adV a, .int .i64 devs, .int .i64 sectors] w fun e w' => e = .returned (.bool (mayB a devs sectors)) ∧ Keep noBlk w w' := by
  obtain ⟨w1, hw1, hk1, hb1, hs1⟩ := alloc_facts w (adCs a).toArray 50
  obtain ⟨dv, sc⟩ := a
  have c0 : w1.cell? ⟨w.heap.size, 0, none⟩ = some (.int .i64 dv) := blk_cell hb1 rfl
  have c1 : w1.cell? ⟨w.heap.size, 1, none⟩ = some (.int .i64 sc) := blk_cell hb1 rfl
  have HK := Lib.hid hk1
  obtain ⟨r, hr⟩ : ∃ r, mayB ⟨dv, sc⟩ devs sectors = r := ⟨_, rfl⟩
  have HR := Lib.hid hr
  rw [hr]
  clear hk1 hb1 hs1 hr
  unfold adV
  unfold adCs at hw1 ⊢
  by_cases h0 : 2 ≤ devs
  rotate_left
  · have e : r = false := by rw [← HR.out]; simp [mayB]; omega
    subst e
    go_enter Try.func32, Try.ntmps32
    go_wp2_with fail
    go_ret
    exact ⟨rfl, HK.out⟩
  by_cases h1 : devs ≤ 8
  rotate_left
  · have e : r = false := by rw [← HR.out]; simp [mayB]; omega
    subst e
    go_enter Try.func32, Try.ntmps32
    go_wp2_with fail
    go_ret
    exact ⟨rfl, HK.out⟩
  by_cases h2 : 8 ≤ sectors
  rotate_left
  · have e : r = false := by rw [← HR.out]; simp [mayB]; omega
    subst e
    go_enter Try.func32, Try.ntmps32
    go_wp2_with fail
    go_ret
    exact ⟨rfl, HK.out⟩
  by_cases h3 : sectors ≤ 4096
  rotate_left
  · have e : r = false := by rw [← HR.out]; simp [mayB]; omega
    subst e
    go_enter Try.func32, Try.ntmps32
    go_wp2_with fail
    go_ret
    exact ⟨rfl, HK.out⟩
  by_cases h4 : 0 ≤ dv
  rotate_left
  · have e : r = false := by rw [← HR.out]; simp [mayB]; omega
    subst e
    go_enter Try.func32, Try.ntmps32
    go_wp2_with fail
    go_ret
    exact ⟨rfl, HK.out⟩
  by_cases h5 : dv < devs
  rotate_left
  · have e : r = false := by rw [← HR.out]; simp [mayB]; omega
    subst e
    go_enter Try.func32, Try.ntmps32
    go_wp2_with fail
    go_ret
    exact ⟨rfl, HK.out⟩
  by_cases h6 : 5 ≤ sc
  rotate_left
  · have e : r = false := by rw [← HR.out]; simp [mayB]; omega
    subst e
    go_enter Try.func32, Try.ntmps32
    go_wp2_with fail
    go_ret
    exact ⟨rfl, HK.out⟩
  by_cases h7 : sc < sectors
  rotate_left
  · have e : r = false := by rw [← HR.out]; simp [mayB]; omega
    subst e
    go_enter Try.func32, Try.ntmps32
    go_wp2_with fail
    go_ret
    exact ⟨rfl, HK.out⟩
  have e : r = true := by rw [← HR.out]; simp [mayB]; omega
  subst e
  go_enter Try.func32, Try.ntmps32
  go_wp2_with fail
  go_ret
  exact ⟨rfl, HK.out⟩

set_option maxHeartbeats 4000000 in
theorem rmay_any (a : Ad) (devs sectors : Int) (w : World) : Calls Try.prog 63 #[adV a, .int .i64 devs, .int .i64 sectors] w fun e w' => e = .returned (.bool (mayB a devs sectors)) ∧ Keep noBlk w w' := by
  obtain ⟨w1, hw1, hk1, hb1, hs1⟩ := alloc_facts w (adCs a).toArray 50
  obtain ⟨dv, sc⟩ := a
  have c0 : w1.cell? ⟨w.heap.size, 0, none⟩ = some (.int .i64 dv) := blk_cell hb1 rfl
  have c1 : w1.cell? ⟨w.heap.size, 1, none⟩ = some (.int .i64 sc) := blk_cell hb1 rfl
  have HK := Lib.hid hk1
  obtain ⟨r, hr⟩ : ∃ r, mayB ⟨dv, sc⟩ devs sectors = r := ⟨_, rfl⟩
  have HR := Lib.hid hr
  rw [hr]
  clear hk1 hb1 hs1 hr
  unfold adV
  unfold adCs at hw1 ⊢
  by_cases h0 : 2 ≤ devs
  rotate_left
  · have e : r = false := by rw [← HR.out]; simp [mayB]; omega
    subst e
    go_enter Try.func63, Try.ntmps63
    go_wp2_with fail
    go_ret
    exact ⟨rfl, HK.out⟩
  by_cases h1 : devs ≤ 8
  rotate_left
  · have e : r = false := by rw [← HR.out]; simp [mayB]; omega
    subst e
    go_enter Try.func63, Try.ntmps63
    go_wp2_with fail
    go_ret
    exact ⟨rfl, HK.out⟩
  by_cases h2 : 8 ≤ sectors
  rotate_left
  · have e : r = false := by rw [← HR.out]; simp [mayB]; omega
    subst e
    go_enter Try.func63, Try.ntmps63
    go_wp2_with fail
    go_ret
    exact ⟨rfl, HK.out⟩
  by_cases h3 : sectors ≤ 4096
  rotate_left
  · have e : r = false := by rw [← HR.out]; simp [mayB]; omega
    subst e
    go_enter Try.func63, Try.ntmps63
    go_wp2_with fail
    go_ret
    exact ⟨rfl, HK.out⟩
  by_cases h4 : 0 ≤ dv
  rotate_left
  · have e : r = false := by rw [← HR.out]; simp [mayB]; omega
    subst e
    go_enter Try.func63, Try.ntmps63
    go_wp2_with fail
    go_ret
    exact ⟨rfl, HK.out⟩
  by_cases h5 : dv < devs
  rotate_left
  · have e : r = false := by rw [← HR.out]; simp [mayB]; omega
    subst e
    go_enter Try.func63, Try.ntmps63
    go_wp2_with fail
    go_ret
    exact ⟨rfl, HK.out⟩
  by_cases h6 : 5 ≤ sc
  rotate_left
  · have e : r = false := by rw [← HR.out]; simp [mayB]; omega
    subst e
    go_enter Try.func63, Try.ntmps63
    go_wp2_with fail
    go_ret
    exact ⟨rfl, HK.out⟩
  by_cases h7 : sc < sectors
  rotate_left
  · have e : r = false := by rw [← HR.out]; simp [mayB]; omega
    subst e
    go_enter Try.func63, Try.ntmps63
    go_wp2_with fail
    go_ret
    exact ⟨rfl, HK.out⟩
  have e : r = true := by rw [← HR.out]; simp [mayB]; omega
  subst e
  go_enter Try.func63, Try.ntmps63
  go_wp2_with fail
  go_ret
  exact ⟨rfl, HK.out⟩

set_option maxHeartbeats 2000000 in
theorem rless_any (a b : Ad) (w : World) : Calls Try.prog 64 #[adV a, adV b] w fun e w' => e = .returned (.bool (adLt a b)) ∧ Keep noBlk w w' := by
  obtain ⟨w2, hw2⟩ : ∃ w2, (w.alloc (.cells (adCs a).toArray 50)).alloc (.cells (adCs b).toArray 50) = w2 := ⟨_, rfl⟩
  have hb1 : w2.heap[w.heap.size]? = some (.cells (adCs a).toArray 50 (0, 0)) := by rw [← hw2]; exact heap_alloc2_old _ _ _
  have hb2 : w2.heap[w.heap.size + 1]? = some (.cells (adCs b).toArray 50 (0, 0)) := by rw [← hw2]; exact heap_alloc2_new _ _ _
  have HK := Lib.hid (show Keep noBlk w w2 by rw [← hw2]; exact ((Keep.refl _ _).alloc _).alloc _)
  obtain ⟨ad, ax⟩ := a
  obtain ⟨bd, bx⟩ := b
  have c0 : w2.cell? ⟨w.heap.size, 0, none⟩ = some (.int .i64 ad) := blk_cell hb1 rfl
  have c1 : w2.cell? ⟨w.heap.size, 1, none⟩ = some (.int .i64 ax) := blk_cell hb1 rfl
  have c2 : w2.cell? ⟨w.heap.size + 1, 0, none⟩ = some (.int .i64 bd) := blk_cell hb2 rfl
  have c3 : w2.cell? ⟨w.heap.size + 1, 1, none⟩ = some (.int .i64 bx) := blk_cell hb2 rfl
  obtain ⟨r, hr⟩ : ∃ r, adLt ⟨ad, ax⟩ ⟨bd, bx⟩ = r := ⟨_, rfl⟩
  have HR := Lib.hid hr
  rw [hr]
  clear hb1 hb2 hr
  unfold adV
  unfold adCs at hw2 ⊢
  by_cases h0 : ad < bd
  · have e : r = true := by rw [← HR.out]; simp [adLt]; omega
    subst e
    go_enter Try.func64, Try.ntmps64
    go_wp2_with fail
    go_ret
    exact ⟨rfl, HK.out⟩
  · by_cases h1 : ad = bd
    · subst h1
      by_cases h2 : ax < bx
      · have e : r = true := by rw [← HR.out]; simp [adLt]; omega
        subst e
        go_enter Try.func64, Try.ntmps64
        go_wp2_with fail
        go_ret
        exact ⟨rfl, HK.out⟩
      · have e : r = false := by rw [← HR.out]; simp [adLt]; omega
        subst e
        go_enter Try.func64, Try.ntmps64
        go_wp2_with fail
        go_ret
        exact ⟨rfl, HK.out⟩
    · have e : r = false := by rw [← HR.out]; simp [adLt]; omega
      subst e
      go_enter Try.func64, Try.ntmps64
      go_wp2_with fail
      go_ret
      exact ⟨rfl, HK.out⟩

theorem buildAd (a b : Int) (w : World) : (Instr.build 50 #[(0, .int .i64 a), (1, .int .i64 b)]).run Try.prog w = .ok (.agg #[.int .i64 a, .int .i64 b]) w := by kernel_rfl

end Go.Proofs.Ytfjklgbakhjjiaa
