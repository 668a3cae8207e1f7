/-
  Labels and pools compared by ==.
  Conditions: the lengths that each theorem names.
-/
import Derived.Test.YtdlegbcdmlmbpaaLabel1
import Derived.Stop.BytesEq
namespace Go.Proofs.Ytdlegbcdmlmbpaa
open Go.RowKit
set_option maxRecDepth 100000

theorem sizeOfU8 (w : World) : (sizeOf 5).run Try.prog w = .ok 1 w := by kernel_rfl
theorem eqID (xs ys : List UInt8) (hx : xs.length = 32) (hy : ys.length = 32) (w : World) : Sem.run Try.prog (binOp .eql 23 (.agg (xs.map vb).toArray) (.agg (ys.map vb).toArray)) w = .ok (.bool (decide (xs = ys))) w := by
  have := run_eql_bytes (P := Try.prog) w 23 5 32 Try.underlying23 Try.underlying5 sizeOfU8 xs ys hx hy
  rw [show decide (xs = ys) = (xs == ys) by rw [Bool.eq_iff_iff]; simp]
  exact this

/-- Fields, each by name, type and place. -/
def eqT (d : Nat) (xs ys : Array Value) : List (String × TypeId × Nat) → Sem Bool
  | [] => pure true
  | f :: fs =>
    if f.1 ≠ "_" then do
      let a ← part f.2.1 xs f.2.2
      let b ← part f.2.1 ys f.2.2
      let r ← Op.equalIn d f.2.1 a b
      if (!r) = true then pure false else eqT d xs ys fs
    else eqT d xs ys fs
theorem eqFields_eqT (d : Nat) (xs ys : Array Value) : ∀ (fs : List Field), Op.eqFields d xs ys fs = eqT d xs ys (fs.map fun f => (f.name, f.type, f.offset))
  | [] => rfl
  | f :: fs => by simp only [Op.eqFields, eqT, List.map_cons, eqFields_eqT d xs ys fs]
theorem labFields : (Try.prog.fieldsOf 25).toList.map (fun f => (f.name, f.type, f.offset)) = [("Pool", 23, 0), ("Dev", 3, 32), ("Devs", 3, 33), ("Copies", 3, 34), ("Sectors", 3, 35), ("Life", 3, 36)] := by kernel_rfl
theorem labUnder : Try.prog.underlying 25 = some (.struct (Try.prog.fieldsOf 25)) := by kernel_rfl
theorem labStood : Try.prog.stoodInHeld 25 = false := by kernel_rfl
theorem labGuard : Try.prog.eqGuardType Try.prog.depth 25 = false := by kernel_rfl
theorem idGuard : Try.prog.eqGuardType Try.prog.depth 23 = false := by kernel_rfl
theorem part_id (cs : Array Value) (w : World) : (part 23 cs 0).run Try.prog w = .ok (.agg (cs.extract 0 (0 + 32))) w := by kernel_rfl
theorem part_int (cs : Array Value) (off : Nat) (v : Value) (h : cs[off]? = some v) (w : World) : (part 3 cs off).run Try.prog w = .ok v w := by
  simp [part, isAgg, run_underlying Try.underlying3, h]
theorem lab_extract (L : Lab) (h : L.pool.length = 32) : L.cells.toArray.extract 0 (0 + 32) = (L.pool.map vb).toArray := by
  apply Array.ext_getElem?
  intro j
  simp only [List.extract_toArray, List.getElem?_toArray, List.extract_eq_take_drop, List.drop_zero, Nat.zero_add, Nat.sub_zero, List.getElem?_take]
  by_cases hj : j < 32
  · rw [if_pos hj, L.cells_pool h j hj]
  · rw [if_neg hj, List.getElem?_eq_none (by simp; omega)]

theorem eqLab (L M : Lab) (hL : L.pool.length = 32) (hM : M.pool.length = 32) (w : World) : Sem.run Try.prog (binOp .eql 25 (.agg L.cells.toArray) (.agg M.cells.toArray)) w =
    .ok (.bool (decide (L.pool = M.pool) && decide (L.dev = M.dev) && decide (L.devs = M.devs) && decide (L.copies = M.copies) && decide (L.sectors = M.sectors) && decide (L.life = M.life))) w := by
  obtain ⟨a0, a1, a2, a3, a4⟩ := L.at hL
  obtain ⟨b0, b1, b2, b3, b4⟩ := M.at hM
  rw [run_eql_struct, run_equalIn_agg w 9999 25 _ _ labUnder labStood, eqFields_eqT, labFields]
  have hp := run_equalIn_bytes (P := Try.prog) w 9997 23 5 32 Try.underlying23 Try.underlying5 sizeOfU8 L.pool M.pool hL hM
  have hp' : (Op.equalIn 9999 23 (.agg (L.pool.map vb).toArray) (.agg (M.pool.map vb).toArray)).run Try.prog w = .ok (L.pool == M.pool) w := hp
  have hi : ∀ x y : Int, (Op.equalIn 9999 3 (.int .i64 x) (.int .i64 y)).run Try.prog w = .ok (x == y) w := fun x y => run_equalIn_int w 9998 3 .i64 .i64 x y Try.underlying3
  have hd : ∀ x y : Int, (x == y) = decide (x = y) := fun x y => by rw [Bool.eq_iff_iff]; simp
  have hdp : (L.pool == M.pool) = decide (L.pool = M.pool) := by rw [Bool.eq_iff_iff]; simp
  simp only [eqT, ne_eq, String.reduceEq, not_false_eq_true, if_true, Sem.run_bind, Sem.run_ite, Sem.run_pure, part_id, lab_extract L hL, lab_extract M hM, Result.andThen_ok, hp', part_int _ 32 _ a0, part_int _ 32 _ b0, part_int _ 33 _ a1, part_int _ 33 _ b1, part_int _ 34 _ a2, part_int _ 34 _ b2, part_int _ 35 _ a3, part_int _ 35 _ b3, part_int _ 36 _ a4, part_int _ 36 _ b4, hi, hd, hdp]
  cases decide (L.pool = M.pool) <;> cases decide (L.dev = M.dev) <;> cases decide (L.devs = M.devs) <;> cases decide (L.copies = M.copies) <;> cases decide (L.sectors = M.sectors) <;> cases decide (L.life = M.life) <;> rfl
theorem neq_of_eql {P : Program} {w : World} {t : TypeId} {xs ys : Array Value} {b : Bool} (h : (binOp .eql t (.agg xs) (.agg ys)).run P w = .ok (.bool b) w) : (binOp .neq t (.agg xs) (.agg ys)).run P w = .ok (.bool (!b)) w := by
  rw [run_eql_struct] at h
  rw [run_neq_struct]
  cases hr : (Op.equalIn 10000 t (.agg xs) (.agg ys)).run P w with
  | ok x w' =>
    rw [hr] at h
    simp only [Result.andThen_ok, Result.ok.injEq, Value.bool.injEq] at h ⊢
    exact ⟨by rw [h.1], h.2⟩
  | halt x w' => rw [hr] at h; cases h
theorem eqSame (L : Lab) (hL : L.pool.length = 32) {lc : List Value} (h : L.cells = lc) (w : World) : (binOp .eql 25 (.agg lc.toArray) (.agg lc.toArray)).run Try.prog w = .ok (.bool true) w := by
  subst h
  have := eqLab L L hL hL w
  simp only [decide_true, Bool.and_true] at this
  exact this
end Go.Proofs.Ytdlegbcdmlmbpaa
