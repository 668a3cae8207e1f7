/-
  What a label's sector is, as a plain function on lists of bytes.
  Conditions: none; no program is in sight.
-/
import Derived.Test.YtaiicjhnhbkgmaaGreatDoorPlain1
namespace Go.Proofs.YtaiicjhnhbkgmaaGreatDoor

/-- A label. -/
structure Lab where
  pool : List UInt8
  dev : Int
  devs : Int
  copies : Int
  sectors : Int
  life : Int
/-- May it be? -/
def Lab.may (L : Lab) : Bool := decide ((2 ≤ L.devs ∧ L.devs ≤ 8) ∧ (0 ≤ L.dev ∧ L.dev ≤ L.devs - 1) ∧ (1 ≤ L.copies ∧ L.copies ≤ 3 ∧ L.copies ≤ L.devs) ∧ (8 ≤ L.sectors ∧ L.sectors ≤ 4096) ∧ (0 ≤ L.life ∧ L.life ≤ 2147483648))

def labHead : List UInt8 := [67, 65, 85, 76, 75, 69, 82, 49]
/-- What the k-th writes tell, behind so many bytes. -/
def labR (L : Lab) (k : Nat) (l : List UInt8) : List UInt8 × Int :=
  match k with
  | 0 => (labHead, 0)
  | 1 => (L.pool, 0)
  | 2 => numRes L.dev 1
  | 3 => numRes L.devs 1
  | 4 => numRes L.copies 1
  | 5 => numRes L.sectors 2
  | 6 => numRes L.life 5
  | _ => padRes 224 l
/-- What a writer has behind k writes. -/
def labS (L : Lab) : Nat → List UInt8 × Int
  | 0 => ([], 0)
  | k + 1 => wst (labS L k) (labR L k (labS L k).1)
theorem labS_len (L : Lab) : ∀ k, (labS L k).1.length ≤ 65536
  | 0 => by simp [labS]
  | k + 1 => wst_len _ _ (labS_len L k)
def labMid (L : Lab) : List UInt8 := labHead ++ L.pool ++ be L.dev.toNat 1 ++ be L.devs.toNat 1 ++ be L.copies.toNat 1 ++ be L.sectors.toNat 2 ++ be L.life.toNat 5
/-- What stands ahead of a label's digest. -/
def labBody (L : Lab) : List UInt8 := labMid L ++ List.replicate 174 0
theorem labMid_length (L : Lab) (h : L.pool.length = 32) : (labMid L).length = 50 := by simp [labMid, labHead, be_length, h]
theorem labBody_length (L : Lab) (h : L.pool.length = 32) : (labBody L).length = 224 := by
  unfold labBody; rw [List.length_append, List.length_replicate, labMid_length L h]

theorem numRes_ok {n size : Int} (h1 : 1 ≤ size) (h2 : size ≤ 7) (h3 : 0 ≤ n) (h4 : n < 2 ^ (8 * size).toNat) : numRes n size = (be n.toNat size.toNat, 0) := by
  unfold numRes
  rw [if_neg (by omega), if_neg]
  intro h
  rcases h with h | h
  · omega
  · exact h (Int.ediv_eq_zero_of_lt h3 h4)
theorem wst_ok (l b : List UInt8) (h : l.length + b.length ≤ 65536) : wst (l, 0) (b, 0) = (l ++ b, 0) := by
  simp only [wst]
  rw [if_pos trivial, if_pos trivial, if_neg (by omega)]

theorem labS_ok (L : Lab) (h : L.pool.length = 32) (hm : L.may = true) : labS L 8 = (labBody L, 0) := by
  have hm := of_decide_eq_true hm
  have e2 : labR L 2 (labS L 2).1 = (be L.dev.toNat 1, 0) := numRes_ok (by omega) (by omega) (by omega) (by simp; omega)
  have e3 : labR L 3 (labS L 3).1 = (be L.devs.toNat 1, 0) := numRes_ok (by omega) (by omega) (by omega) (by simp; omega)
  have e4 : labR L 4 (labS L 4).1 = (be L.copies.toNat 1, 0) := numRes_ok (by omega) (by omega) (by omega) (by simp; omega)
  have e5 : labR L 5 (labS L 5).1 = (be L.sectors.toNat 2, 0) := numRes_ok (by omega) (by omega) (by omega) (by simp; omega)
  have e6 : labR L 6 (labS L 6).1 = (be L.life.toNat 5, 0) := numRes_ok (by omega) (by omega) (by omega) (by simp; omega)
  have s1 : labS L 1 = (labHead, 0) := by
    show wst ([], 0) (labHead, 0) = _
    rw [wst_ok _ _ (by simp [labHead])]; rfl
  have s2 : labS L 2 = (labHead ++ L.pool, 0) := by
    show wst (labS L 1) (L.pool, 0) = _
    rw [s1, wst_ok _ _ (by simp [labHead, h])]
  have s3 : labS L 3 = (labHead ++ L.pool ++ be L.dev.toNat 1, 0) := by
    show wst (labS L 2) (labR L 2 (labS L 2).1) = _
    rw [e2, s2, wst_ok _ _ (by simp [labHead, h, be_length])]
  have s4 : labS L 4 = (labHead ++ L.pool ++ be L.dev.toNat 1 ++ be L.devs.toNat 1, 0) := by
    show wst (labS L 3) (labR L 3 (labS L 3).1) = _
    rw [e3, s3, wst_ok _ _ (by simp [labHead, h, be_length])]
  have s5 : labS L 5 = (labHead ++ L.pool ++ be L.dev.toNat 1 ++ be L.devs.toNat 1 ++ be L.copies.toNat 1, 0) := by
    show wst (labS L 4) (labR L 4 (labS L 4).1) = _
    rw [e4, s4, wst_ok _ _ (by simp [labHead, h, be_length])]
  have s6 : labS L 6 = (labHead ++ L.pool ++ be L.dev.toNat 1 ++ be L.devs.toNat 1 ++ be L.copies.toNat 1 ++ be L.sectors.toNat 2, 0) := by
    show wst (labS L 5) (labR L 5 (labS L 5).1) = _
    rw [e5, s5, wst_ok _ _ (by simp [labHead, h, be_length])]
  have s7 : labS L 7 = (labMid L, 0) := by
    show wst (labS L 6) (labR L 6 (labS L 6).1) = _
    rw [e6, s6, wst_ok _ _ (by simp [labHead, h, be_length])]; rfl
  have e7 : labR L 7 (labMid L) = (List.replicate 174 0, 0) := by
    show padRes 224 (labMid L) = _
    unfold padRes
    rw [labMid_length L h, if_neg (by omega)]; rfl
  show wst (labS L 7) (labR L 7 (labS L 7).1) = _
  rw [s7, e7, wst_ok _ _ (by rw [List.length_replicate, labMid_length L h]; omega)]; rfl
end Go.Proofs.YtaiicjhnhbkgmaaGreatDoor
