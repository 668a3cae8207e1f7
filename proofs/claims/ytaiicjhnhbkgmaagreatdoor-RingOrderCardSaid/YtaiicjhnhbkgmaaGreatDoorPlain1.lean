/-
  What a writer's and a reader's steps come to, as plain functions on lists of bytes.
  Conditions: none; no program is in sight.
-/
namespace Go.Proofs.YtaiicjhnhbkgmaaGreatDoor

/-- What a writer (its bytes, its error) has behind one more piece, or error. -/
def wst (s : List UInt8 × Int) (r : List UInt8 × Int) : List UInt8 × Int :=
  if s.2 = 0 then (if r.2 = 0 then (if 65536 < s.1.length + r.1.length then (s.1, 3) else (s.1 ++ r.1, 0)) else (s.1, r.2)) else s

theorem wst_len (s r : List UInt8 × Int) (h : s.1.length ≤ 65536) : (wst s r).1.length ≤ 65536 := by
  unfold wst
  split
  · split
    · split
      · exact h
      · simp only [List.length_append]; omega
    · exact h
  · exact h

/-- The j-th byte, the highest first, of a number of so many bytes. -/
def beAt (n size j : Nat) : UInt8 := UInt8.ofNat (n / 2 ^ (8 * (size - 1 - j)))
/-- A number as so many bytes. -/
def be (n size : Nat) : List UInt8 := (List.range size).map (beAt n size)
theorem be_length (n size : Nat) : (be n size).length = size := by simp [be]

theorem beAt_toNat (n s k : Nat) : ((beAt n s k).toNat : Int) = (n : Int) / 2 ^ (8 * (s - k - 1)) % 256 := by
  unfold beAt
  rw [show s - 1 - k = s - k - 1 by omega]
  simp
theorem range_succ_map {α : Type} (f : Nat → α) (k : Nat) : (List.range (k + 1)).map f = (List.range k).map f ++ [f k] := by simp [List.range_succ]

/-- What Num tells. -/
def numRes (n size : Int) : List UInt8 × Int :=
  if size < 1 ∨ 7 < size then ([], 2) else if n < 0 ∨ n / 2 ^ (8 * size).toNat ≠ 0 then ([], 5) else (be n.toNat size.toNat, 0)


/-- What Pad tells. -/
def padRes (to : Int) (l : List UInt8) : List UInt8 × Int :=
  if 65536 < to ∨ to < l.length then ([], 2) else (List.replicate (to.toNat - l.length) 0, 0)
theorem padRes_len (to : Int) (l : List UInt8) : (padRes to l).1.length ≤ 65536 := by
  unfold padRes
  split
  · simp
  · simp; omega

end Go.Proofs.YtaiicjhnhbkgmaaGreatDoor
