/-
  The digest, as plain functions on whole numbers, in the very operations that the program's words are turned by.
  Conditions: none; no program is in sight.
-/
import Derived.WalkKit
import Derived.Test.YtaiicjhnhbkgmaaGreatDoorPlain1
namespace Go.Proofs.YtaiicjhnhbkgmaaGreatDoor
open Go.RowKit

def rot (x : Int) (n : Nat) : Int := bits .or .u32 (x / 2 ^ n) (x * 2 ^ (32 - n) % 4294967296)
theorem bits_or_comm (x y : Int) : bits .or .u32 x y = bits .or .u32 y x := by
  simp only [bits, BitVec.or_comm]
def xor32 (x y : Int) : Int := bits .xor .u32 x y
def and32 (x y : Int) : Int := bits .and .u32 x y
def add32 (x y : Int) : Int := IntKind.u32.wrap (x + y)

/-- The word of four bytes. -/
def word4 (a b c d : Int) : Int := bits .or .u32 (bits .or .u32 (bits .or .u32 (a * 16777216) (b * 65536)) (c * 256)) d
def sg0 (x : Int) : Int := xor32 (xor32 (rot x 7) (rot x 18)) (x / 8)
def sg1 (x : Int) : Int := xor32 (xor32 (rot x 17) (rot x 19)) (x / 1024)

/-- The i-th word of a piece. -/
def wrd (p : Nat → Int) (i : Nat) : Int :=
  if h : i < 16 then word4 (p (4 * i)) (p (4 * i + 1)) (p (4 * i + 2)) (p (4 * i + 3))
  else add32 (add32 (add32 (wrd p (i - 16)) (sg0 (wrd p (i - 15)))) (wrd p (i - 7))) (sg1 (wrd p (i - 2)))
termination_by i

/-- The eight words of a state. -/
structure St where
  a : Int
  b : Int
  c : Int
  d : Int
  e : Int
  f : Int
  g : Int
  h : Int
def St.l (s : St) : List Int := [s.a, s.b, s.c, s.d, s.e, s.f, s.g, s.h]
def not32 (x : Int) : Int := bits .xor .u32 IntKind.u32.max x
def tmp1 (s : St) (k x : Int) : Int :=
  add32 (add32 (add32 (add32 s.h (xor32 (xor32 (rot s.e 6) (rot s.e 11)) (rot s.e 25))) (xor32 (and32 s.e s.f) (and32 (not32 s.e) s.g))) k) x
def tmp2 (s : St) : Int := add32 (xor32 (xor32 (rot s.a 2) (rot s.a 13)) (rot s.a 22)) (xor32 (xor32 (and32 s.a s.b) (and32 s.a s.c)) (and32 s.b s.c))
def rnd (s : St) (k x : Int) : St := ⟨add32 (tmp1 s k x) (tmp2 s), s.a, s.b, s.c, add32 s.d (tmp1 s k x), s.e, s.f, s.g⟩

def vW (x : Int) : Value := .int .u32 x
def keyL : List Int := [1116352408, 1899447441, 3049323471, 3921009573, 961987163, 1508970993, 2453635748, 2870763221, 3624381080, 310598401, 607225278, 1426881987, 1925078388, 2162078206, 2614888103, 3248222580, 3835390401, 4022224774, 264347078, 604807628, 770255983, 1249150122, 1555081692, 1996064986, 2554220882, 2821834349, 2952996808, 3210313671, 3336571891, 3584528711, 113926993, 338241895, 666307205, 773529912, 1294757372, 1396182291, 1695183700, 1986661051, 2177026350, 2456956037, 2730485921, 2820302411, 3259730800, 3345764771, 3516065817, 3600352804, 4094571909, 275423344, 430227734, 506948616, 659060556, 883997877, 958139571, 1322822218, 1537002063, 1747873779, 1955562222, 2024104815, 2227730452, 2361852424, 2428436474, 2756734187, 3204031479, 3329325298]
def startL : List Int := [1779033703, 3144134277, 1013904242, 2773480762, 1359893119, 2600822924, 528734635, 1541459225]


/-- The state behind so many rounds over a piece. -/
def rnds (p : Nat → Int) (s : St) : Nat → St
  | 0 => s
  | i + 1 => rnd (rnds p s i) (keyL.getD i 0) (wrd p i)
/-- A state, turned by a piece. -/
def turn (p : Nat → Int) (s : St) : St :=
  let x := rnds p s 64
  ⟨add32 x.a s.a, add32 x.b s.b, add32 x.c s.c, add32 x.d s.d, add32 x.e s.e, add32 x.f s.f, add32 x.g s.g, add32 x.h s.h⟩
def St.at (s : St) (j : Nat) : Int := s.l.getD j 0
/-- A state's words, the first j of them with another state's added. -/
def sums (x s : St) (j : Nat) : List Int := (List.range 8).map fun m => if m < j then add32 (x.at m) (s.at m) else x.at m
theorem sums_zero (x s : St) : sums x s 0 = x.l := rfl
theorem sums_all (p : Nat → Int) (s : St) : sums (rnds p s 64) s 8 = (turn p s).l := rfl
theorem sums_length (x s : St) (j : Nat) : (sums x s j).length = 8 := by simp [sums]
theorem sums_step (x s : St) (j : Nat) : (sums x s j).set j (add32 (x.at j) (s.at j)) = sums x s (j + 1) := by
  apply List.ext_getElem
  · simp [sums]
  · intro i h1 h2
    simp only [List.getElem_set, sums, List.getElem_map, List.getElem_range]
    by_cases e : j = i
    · subst e; simp
    · rw [if_neg e]
      by_cases h : i < j
      · rw [if_pos h, if_pos (by omega)]
      · rw [if_neg h, if_neg (by omega)]
theorem sums_get (x s : St) (j : Nat) (h : j < 8) : (sums x s j)[j]? = some (x.at j) := by
  simp [sums, h]
theorem St.at_get (s : St) (j : Nat) (h : j < 8) : s.l[j]? = some (s.at j) := by
  have : j < s.l.length := h
  simp [St.at, this]
/-- The window of the last sixteen words, behind so many rounds. -/
def win (p : Nat → Int) : Nat → Array Value
  | 0 => Array.replicate 16 (.int .u32 0)
  | i + 1 => (win p i).setIfInBounds (i % 16) (vW (wrd p i))
theorem win_size (p : Nat → Int) (i : Nat) : (win p i).size = 16 := by
  induction i with
  | zero => simp [win]
  | succ i ih => simp [win, ih]
theorem win_get (p : Nat → Int) : ∀ (i j : Nat), j < i → i ≤ j + 16 → (win p i)[j % 16]? = some (vW (wrd p j))
  | 0, _, h, _ => by omega
  | i + 1, j, h, h2 => by
    rw [win]
    by_cases e : j = i
    · subst e
      have : j % 16 < (win p j).size := by rw [win_size]; omega
      simp [this]
    · rw [Array.getElem?_setIfInBounds_ne (by omega)]
      exact win_get p i j (by omega) (by omega)

end Go.Proofs.YtaiicjhnhbkgmaaGreatDoor

/-
  The filling up of bytes to pieces of 64, as plain functions on lists.
  Conditions: none; no program is in sight.
-/
namespace Go.Proofs.YtaiicjhnhbkgmaaGreatDoor

/-- How many zeros are filled in. -/
def padN (n : Nat) : Nat := (119 - n % 64) % 64
/-- How many pieces there are. -/
def many (n : Nat) : Nat := (n + 9 + padN n) / 64
theorem padN_lt (n : Nat) : padN n < 64 := Nat.mod_lt _ (by omega)
theorem padN_step (n k : Nat) (hk : k ≤ padN n) : (n + 1 + k) % 64 = 56 ↔ k = padN n := by unfold padN at *; omega
theorem many_eq (n : Nat) : n + 1 + padN n + 8 = 64 * many n := by unfold many padN; omega
theorem many_pos (n : Nat) : 0 < many n := by have := many_eq n; omega
/-- The bytes, filled up. -/
def filled (bs : List UInt8) : List UInt8 := bs ++ [128] ++ List.replicate (padN bs.length) 0 ++ be (8 * bs.length) 8
theorem filled_length (bs : List UInt8) : (filled bs).length = 64 * many bs.length := by
  rw [← many_eq]
  simp [filled, be_length]
  omega
/-- The i-th piece. -/
def piece (bs : List UInt8) (i : Nat) : List UInt8 := ((filled bs).drop (64 * i)).take 64
theorem piece_length (bs : List UInt8) (i : Nat) (h : i < many bs.length) : (piece bs i).length = 64 := by
  simp [piece, filled_length]
  omega
theorem piece_get (bs : List UInt8) (i j : Nat) (hj : j < 64) : (piece bs i)[j]? = (filled bs)[64 * i + j]? := by
  simp [piece, hj]
end Go.Proofs.YtaiicjhnhbkgmaaGreatDoor
