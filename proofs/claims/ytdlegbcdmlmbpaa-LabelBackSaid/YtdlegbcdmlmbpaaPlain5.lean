/-
  What a label's sector is read as.
  Conditions: none; no program is in sight.
-/
import Derived.Test.YtdlegbcdmlmbpaaPack2
import Derived.Test.YtdlegbcdmlmbpaaReader3
namespace Go.Proofs.Ytdlegbcdmlmbpaa

/-- The label that stands in bytes. -/
def labOf (b : List UInt8) : Lab :=
  ⟨(b.drop 8).take 32, beN ((b.drop 40).take 1), beN ((b.drop 41).take 1), beN ((b.drop 42).take 1), beN ((b.drop 43).take 2), beN ((b.drop 45).take 5)⟩
def zeroLab : Lab := ⟨List.replicate 32 0, 0, 0, 0, 0, 0⟩
/-- What Unpack tells. -/
def unpackR (b : List UInt8) : Lab × Int :=
  if b.length ≠ 256 then (zeroLab, 4) else if b = List.replicate 256 0 then (zeroLab, 6)
  else if (labOf b).may = true ∧ packB (labOf b) = b then (labOf b, 0) else (zeroLab, 11)

theorem labOf_pool (b : List UInt8) (h : b.length = 256) : (labOf b).pool.length = 32 := by simp [labOf, h]
theorem may_sectors {L : Lab} (h : L.may = true) : 8 ≤ L.sectors ∧ L.sectors ≤ 4096 := (of_decide_eq_true h).2.2.2.1
theorem may_life {L : Lab} (h : L.may = true) : 0 ≤ L.life ∧ L.life ≤ 2147483648 := (of_decide_eq_true h).2.2.2.2
theorem beN_byte (l : List UInt8) (h : l.length ≤ 1) : (beN l : Int) ≤ 255 := by
  have h1 := beN_lt l
  have h2 : 256 ^ l.length ≤ 256 ^ 1 := Nat.pow_le_pow_right (by omega) h
  omega
theorem zeroLab_cells : zeroLab.cells.toArray = Array.replicate 32 (.int .u8 0) ++ Array.replicate 5 (.int .i64 0) := rfl
end Go.Proofs.Ytdlegbcdmlmbpaa
