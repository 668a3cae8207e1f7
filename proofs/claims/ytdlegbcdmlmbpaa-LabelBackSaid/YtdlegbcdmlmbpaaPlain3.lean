/-
  The filling up of bytes to pieces of 64, as plain functions on lists.
  Conditions: none; no program is in sight.
-/
import Derived.Test.YtdlegbcdmlmbpaaPlain1
import Derived.Test.YtdlegbcdmlmbpaaPlain2
namespace Go.Proofs.Ytdlegbcdmlmbpaa

/-- How many zeros are filled in. -/
def padN (n : Nat) : Nat := (119 - n % 64) % 64
/-- How many pieces there are. -/
def many (n : Nat) : Nat := (n + 9 + padN n) / 64
theorem padN_lt (n : Nat) : padN n < 64 := Nat.mod_lt _ (by omega)
theorem padN_step (n k : Nat) (hk : k ≤ padN n) : (n + 1 + k) % 64 = 56 ↔ k = padN n := by unfold padN at *; omega
theorem many_eq (n : Nat) : n + 1 + padN n + 8 = 64 * many n := by unfold many padN; omega
theorem many_pos (n : Nat) : 0 < many n := by have := many_eq n; omega
/-- The bytes, filled up. -/
def filled (bs : List UInt8) : List UInt8 := bs ++ [128] ++ List.replicate (padN bs.length) 0 ++ be (8 * bs.length) 8
theorem filled_length (bs : List UInt8) : (filled bs).length = 64 * many bs.length := by
  rw [← many_eq]
  simp [filled, be_length]
  omega
/-- The i-th piece. -/
def piece (bs : List UInt8) (i : Nat) : List UInt8 := ((filled bs).drop (64 * i)).take 64
theorem piece_length (bs : List UInt8) (i : Nat) (h : i < many bs.length) : (piece bs i).length = 64 := by
  simp [piece, filled_length]
  omega
theorem piece_get (bs : List UInt8) (i j : Nat) (hj : j < 64) : (piece bs i)[j]? = (filled bs)[64 * i + j]? := by
  simp [piece, hj]
end Go.Proofs.Ytdlegbcdmlmbpaa
