/-
  Labels: which may be (the program's Check and the reference's).
  Conditions: the bounds on numbers that each theorem names.
-/
import Derived.Test.YtdlegbcdmlmbpaaBase
import Derived.Test.YtdlegbcdmlmbpaaPlain4
namespace Go.Proofs.Ytdlegbcdmlmbpaa
set_option linter.unusedVariables false
open Go.RowKit
set_option maxRecDepth 100000

set_option maxHeartbeats 400000 in
theorem within_any (n lo hi : Int) (w : World) (b : Bool) (hb : decide (lo ≤ n ∧ n ≤ hi) = b) :
    Calls Try.prog 46 #[.int .i64 n, .int .i64 lo, .int .i64 hi] w (fun e w' => e = .returned (.bool b) ∧ w = w') := by
  by_cases h1 : lo ≤ n
  · by_cases h2 : n ≤ hi
    · obtain rfl : true = b := by rw [← hb]; simp [h1, h2]
      clear hb
      have h3 : decide (lo ≤ n) = true := by simpa using h1
      have h4 : decide (n ≤ hi) = true := by simpa using h2
      go_enter Try.func46, Try.ntmps46
      go_wp2_with fail
      go_ret
      exact ⟨rfl, rfl⟩
    · obtain rfl : false = b := by rw [← hb]; simp [h1, h2]
      clear hb
      have h3 : decide (lo ≤ n) = true := by simpa using h1
      have h4 : decide (n ≤ hi) = false := by simpa using h2
      go_enter Try.func46, Try.ntmps46
      go_wp2_with fail
      go_ret
      exact ⟨rfl, rfl⟩
  · obtain rfl : false = b := by rw [← hb]; simp [h1]
    clear hb
    have h3 : decide (lo ≤ n) = false := by simpa using h1
    go_enter Try.func46, Try.ntmps46
    go_wp2_with fail
    go_ret
    exact ⟨rfl, rfl⟩

/-- Its numbers, as cells. -/
def Lab.nums (L : Lab) : List Value := [.int .i64 L.dev, .int .i64 L.devs, .int .i64 L.copies, .int .i64 L.sectors, .int .i64 L.life]
def Lab.cells (L : Lab) : List Value := L.pool.map vb ++ L.nums
theorem Lab.cells_length (L : Lab) (h : L.pool.length = 32) : L.cells.length = 37 := by simp [Lab.cells, Lab.nums, h]
theorem Lab.cells_num (L : Lab) (h : L.pool.length = 32) (i : Nat) : L.cells[32 + i]? = L.nums[i]? := by
  simp only [Lab.cells, List.getElem?_append, List.length_map, h]
  rw [if_neg (by omega), show 32 + i - 32 = i by omega]
theorem Lab.cells_pool (L : Lab) (h : L.pool.length = 32) (i : Nat) (hi : i < 32) : L.cells[i]? = (L.pool.map vb)[i]? := by
  simp [Lab.cells, List.getElem?_append, h, hi]

/-- The cells of a label, as the walks have them. -/
theorem Lab.at (L : Lab) (h : L.pool.length = 32) : L.cells.toArray[32]? = some (.int .i64 L.dev) ∧ L.cells.toArray[33]? = some (.int .i64 L.devs) ∧ L.cells.toArray[34]? = some (.int .i64 L.copies) ∧
    L.cells.toArray[35]? = some (.int .i64 L.sectors) ∧ L.cells.toArray[36]? = some (.int .i64 L.life) := by
  refine ⟨?_, ?_, ?_, ?_, ?_⟩ <;> rw [List.getElem?_toArray]
  · exact L.cells_num h 0
  · exact L.cells_num h 1
  · exact L.cells_num h 2
  · exact L.cells_num h 3
  · exact L.cells_num h 4

set_option maxHeartbeats 1000000 in
theorem check_no1 (cs : Array Value) (dev devs copies sectors life : Int) (w : World) (c0 : cs[32]? = some (.int .i64 dev)) (c1 : cs[33]? = some (.int .i64 devs)) (c2 : cs[34]? = some (.int .i64 copies)) (c3 : cs[35]? = some (.int .i64 sectors)) (c4 : cs[36]? = some (.int .i64 life))
    (h1 : ¬ (2 ≤ devs ∧ devs ≤ 8)) :
    Calls Try.prog 13 #[.agg cs] w (fun e w' => e = .returned (.int .i64 2) ∧ w.alloc (.cells cs 25) = w') := by
  go_enter Try.func13, Try.ntmps13
  go_wp2_with fail
  refine (within_any _ _ _ _ false (by simp; omega)).mono ?_
  rintro e w' ⟨rfl, rfl⟩
  go_wp2_with fail
  go_ret
  exact ⟨rfl, rfl⟩

set_option maxHeartbeats 1000000 in
theorem check_no2 (cs : Array Value) (dev devs copies sectors life : Int) (w : World) (c0 : cs[32]? = some (.int .i64 dev)) (c1 : cs[33]? = some (.int .i64 devs)) (c2 : cs[34]? = some (.int .i64 copies)) (c3 : cs[35]? = some (.int .i64 sectors)) (c4 : cs[36]? = some (.int .i64 life))
    (h1 : 2 ≤ devs ∧ devs ≤ 8) (h2 : ¬ (0 ≤ dev ∧ dev ≤ devs - 1)) :
    Calls Try.prog 13 #[.agg cs] w (fun e w' => e = .returned (.int .i64 2) ∧ w.alloc (.cells cs 25) = w') := by
  go_enter Try.func13, Try.ntmps13
  go_wp2_with fail
  refine (within_any _ _ _ _ true (by simp; omega)).mono ?_
  rintro e w' ⟨rfl, rfl⟩
  go_wp2_with fail
  refine (within_any _ _ _ _ false (by simp; omega)).mono ?_
  rintro e w' ⟨rfl, rfl⟩
  go_wp2_with fail
  go_ret
  exact ⟨rfl, rfl⟩

set_option maxHeartbeats 1000000 in
theorem check_no3 (cs : Array Value) (dev devs copies sectors life : Int) (w : World) (c0 : cs[32]? = some (.int .i64 dev)) (c1 : cs[33]? = some (.int .i64 devs)) (c2 : cs[34]? = some (.int .i64 copies)) (c3 : cs[35]? = some (.int .i64 sectors)) (c4 : cs[36]? = some (.int .i64 life))
    (h1 : 2 ≤ devs ∧ devs ≤ 8) (h2 : 0 ≤ dev ∧ dev ≤ devs - 1) (h3 : ¬ (1 ≤ copies ∧ copies ≤ 3 ∧ copies ≤ devs)) :
    Calls Try.prog 13 #[.agg cs] w (fun e w' => e = .returned (.int .i64 2) ∧ w.alloc (.cells cs 25) = w') := by
  go_enter Try.func13, Try.ntmps13
  go_wp2_with fail
  refine (within_any _ _ _ _ true (by simp; omega)).mono ?_
  rintro e w' ⟨rfl, rfl⟩
  go_wp2_with fail
  refine (within_any _ _ _ _ true (by simp; omega)).mono ?_
  rintro e w' ⟨rfl, rfl⟩
  go_wp2_with fail
  all_goals
    refine (within_any _ _ _ _ false (by simp; omega)).mono ?_
    rintro e w' ⟨rfl, rfl⟩
    go_wp2_with fail
    go_ret
    exact ⟨rfl, rfl⟩

set_option maxHeartbeats 1000000 in
theorem check_no4 (cs : Array Value) (dev devs copies sectors life : Int) (w : World) (c0 : cs[32]? = some (.int .i64 dev)) (c1 : cs[33]? = some (.int .i64 devs)) (c2 : cs[34]? = some (.int .i64 copies)) (c3 : cs[35]? = some (.int .i64 sectors)) (c4 : cs[36]? = some (.int .i64 life))
    (h1 : 2 ≤ devs ∧ devs ≤ 8) (h2 : 0 ≤ dev ∧ dev ≤ devs - 1) (h3 : 1 ≤ copies ∧ copies ≤ 3 ∧ copies ≤ devs) (h4 : ¬ (8 ≤ sectors ∧ sectors ≤ 4096)) :
    Calls Try.prog 13 #[.agg cs] w (fun e w' => e = .returned (.int .i64 2) ∧ w.alloc (.cells cs 25) = w') := by
  go_enter Try.func13, Try.ntmps13
  go_wp2_with fail
  refine (within_any _ _ _ _ true (by simp; omega)).mono ?_
  rintro e w' ⟨rfl, rfl⟩
  go_wp2_with fail
  refine (within_any _ _ _ _ true (by simp; omega)).mono ?_
  rintro e w' ⟨rfl, rfl⟩
  go_wp2_with fail
  all_goals
    refine (within_any _ _ _ _ true (by simp; omega)).mono ?_
    rintro e w' ⟨rfl, rfl⟩
    go_wp2_with fail
    refine (within_any _ _ _ _ false (by simp; omega)).mono ?_
    rintro e w' ⟨rfl, rfl⟩
    go_wp2_with fail
    go_ret
    exact ⟨rfl, rfl⟩

set_option maxHeartbeats 1000000 in
theorem check_no5 (cs : Array Value) (dev devs copies sectors life : Int) (w : World) (c0 : cs[32]? = some (.int .i64 dev)) (c1 : cs[33]? = some (.int .i64 devs)) (c2 : cs[34]? = some (.int .i64 copies)) (c3 : cs[35]? = some (.int .i64 sectors)) (c4 : cs[36]? = some (.int .i64 life))
    (h1 : 2 ≤ devs ∧ devs ≤ 8) (h2 : 0 ≤ dev ∧ dev ≤ devs - 1) (h3 : 1 ≤ copies ∧ copies ≤ 3 ∧ copies ≤ devs) (h4 : 8 ≤ sectors ∧ sectors ≤ 4096) (h5 : ¬ (0 ≤ life ∧ life ≤ 2147483648)) :
    Calls Try.prog 13 #[.agg cs] w (fun e w' => e = .returned (.int .i64 2) ∧ w.alloc (.cells cs 25) = w') := by
  go_enter Try.func13, Try.ntmps13
  go_wp2_with fail
  refine (within_any _ _ _ _ true (by simp; omega)).mono ?_
  rintro e w' ⟨rfl, rfl⟩
  go_wp2_with fail
  refine (within_any _ _ _ _ true (by simp; omega)).mono ?_
  rintro e w' ⟨rfl, rfl⟩
  go_wp2_with fail
  all_goals
    refine (within_any _ _ _ _ true (by simp; omega)).mono ?_
    rintro e w' ⟨rfl, rfl⟩
    go_wp2_with fail
    refine (within_any _ _ _ _ true (by simp; omega)).mono ?_
    rintro e w' ⟨rfl, rfl⟩
    go_wp2_with fail
    refine (within_any _ _ _ _ false (by simp; omega)).mono ?_
    rintro e w' ⟨rfl, rfl⟩
    go_wp2_with fail
    go_ret
    exact ⟨rfl, rfl⟩

set_option maxHeartbeats 1000000 in
theorem check_yes (cs : Array Value) (dev devs copies sectors life : Int) (w : World) (c0 : cs[32]? = some (.int .i64 dev)) (c1 : cs[33]? = some (.int .i64 devs)) (c2 : cs[34]? = some (.int .i64 copies)) (c3 : cs[35]? = some (.int .i64 sectors)) (c4 : cs[36]? = some (.int .i64 life))
    (h1 : 2 ≤ devs ∧ devs ≤ 8) (h2 : 0 ≤ dev ∧ dev ≤ devs - 1) (h3 : 1 ≤ copies ∧ copies ≤ 3 ∧ copies ≤ devs) (h4 : 8 ≤ sectors ∧ sectors ≤ 4096) (h5 : 0 ≤ life ∧ life ≤ 2147483648) :
    Calls Try.prog 13 #[.agg cs] w (fun e w' => e = .returned (.int .i64 0) ∧ w.alloc (.cells cs 25) = w') := by
  go_enter Try.func13, Try.ntmps13
  go_wp2_with fail
  refine (within_any _ _ _ _ true (by simp; omega)).mono ?_
  rintro e w' ⟨rfl, rfl⟩
  go_wp2_with fail
  refine (within_any _ _ _ _ true (by simp; omega)).mono ?_
  rintro e w' ⟨rfl, rfl⟩
  go_wp2_with fail
  all_goals
    refine (within_any _ _ _ _ true (by simp; omega)).mono ?_
    rintro e w' ⟨rfl, rfl⟩
    go_wp2_with fail
    refine (within_any _ _ _ _ true (by simp; omega)).mono ?_
    rintro e w' ⟨rfl, rfl⟩
    go_wp2_with fail
    refine (within_any _ _ _ _ true (by simp; omega)).mono ?_
    rintro e w' ⟨rfl, rfl⟩
    go_wp2_with fail
    go_ret
    exact ⟨rfl, rfl⟩

theorem check_any (L : Lab) (hl : L.pool.length = 32) (w : World) :
    Calls Try.prog 13 #[.agg L.cells.toArray] w (fun e w' => e = .returned (.int .i64 (if L.may then 0 else 2)) ∧ w.alloc (.cells L.cells.toArray 25) = w') := by
  obtain ⟨c0, c1, c2, c3, c4⟩ := L.at hl
  by_cases h1 : 2 ≤ L.devs ∧ L.devs ≤ 8
  · by_cases h2 : 0 ≤ L.dev ∧ L.dev ≤ L.devs - 1
    · by_cases h3 : 1 ≤ L.copies ∧ L.copies ≤ 3 ∧ L.copies ≤ L.devs
      · by_cases h4 : 8 ≤ L.sectors ∧ L.sectors ≤ 4096
        · by_cases h5 : 0 ≤ L.life ∧ L.life ≤ 2147483648
          · rw [show L.may = true by simp only [Lab.may, h1, h2, h3, h4, h5]; decide]; exact check_yes _ _ _ _ _ _ w c0 c1 c2 c3 c4 h1 h2 h3 h4 h5
          · rw [show L.may = false by simp only [Lab.may, h5]; simp]; exact check_no5 _ _ _ _ _ _ w c0 c1 c2 c3 c4 h1 h2 h3 h4 h5
        · rw [show L.may = false by simp only [Lab.may, h4]; simp]; exact check_no4 _ _ _ _ _ _ w c0 c1 c2 c3 c4 h1 h2 h3 h4
      · rw [show L.may = false by simp only [Lab.may, h3]; simp]; exact check_no3 _ _ _ _ _ _ w c0 c1 c2 c3 c4 h1 h2 h3
    · rw [show L.may = false by simp only [Lab.may, h2]; simp]; exact check_no2 _ _ _ _ _ _ w c0 c1 c2 c3 c4 h1 h2
  · rw [show L.may = false by simp only [Lab.may, h1]; simp]; exact check_no1 _ _ _ _ _ _ w c0 c1 c2 c3 c4 h1

def ChkPost (cs : Array Value) (dev devs copies sectors life : Int) (w : World) (e : Ending) (w' : World) : Prop :=
  e = .returned (.int .i64 (if Lab.may ⟨[], dev, devs, copies, sectors, life⟩ then 0 else 2)) ∧ w.alloc (.cells cs 25) = w'
set_option maxHeartbeats 2000000 in
theorem rcheck_raw (cs : Array Value) (dev devs copies sectors life : Int) (w : World) (c0 : cs[32]? = some (.int .i64 dev)) (c1 : cs[33]? = some (.int .i64 devs)) (c2 : cs[34]? = some (.int .i64 copies)) (c3 : cs[35]? = some (.int .i64 sectors)) (c4 : cs[36]? = some (.int .i64 life))
    :
    Calls Try.prog 14 #[.agg cs] w (ChkPost cs dev devs copies sectors life w) := by
  go_enter Try.func14, Try.ntmps14
  go_wp2_with fail
  all_goals
    go_ret
    refine ⟨?_, rfl⟩
    first
      | (rw [show Lab.may ⟨[], dev, devs, copies, sectors, life⟩ = false by simp only [Lab.may]; exact decide_eq_false (by omega)]; rfl)
      | (rw [show Lab.may ⟨[], dev, devs, copies, sectors, life⟩ = true by simp only [Lab.may]; exact decide_eq_true (by omega)]; rfl)
theorem rcheck_any (L : Lab) (hl : L.pool.length = 32) (w : World) :
    Calls Try.prog 14 #[.agg L.cells.toArray] w (fun e w' => e = .returned (.int .i64 (if L.may then 0 else 2)) ∧ w.alloc (.cells L.cells.toArray 25) = w') := by
  obtain ⟨c0, c1, c2, c3, c4⟩ := L.at hl
  exact rcheck_raw _ _ _ _ _ _ w c0 c1 c2 c3 c4
end Go.Proofs.Ytdlegbcdmlmbpaa
