/-
  A label's sector is read as that label; what is read of a sector is packed as that sector.
  Conditions: none; no program is in sight.
-/
import Derived.Test.YtdlegbcdmlmbpaaPlain6
namespace Go.Proofs.Ytdlegbcdmlmbpaa
set_option linter.unusedVariables false

theorem be_snoc (n k : Nat) : be n (k + 1) = be (n / 256) k ++ [UInt8.ofNat n] := by
  unfold be
  rw [List.range_succ, List.map_append, List.map_cons, List.map_nil]
  congr 1
  · refine List.map_congr_left fun j hj => ?_
    rw [List.mem_range] at hj
    unfold beAt
    rw [show 8 * (k + 1 - 1 - j) = 8 * (k - 1 - j) + 8 by omega, Nat.pow_add, Nat.mul_comm, ← Nat.div_div_eq_div_mul]
  · unfold beAt
    simp
theorem beN_be (n : Nat) : ∀ k, beN (be n k) = n % 256 ^ k := by
  intro k
  induction k generalizing n with
  | zero => simp [be, beN, Nat.mod_one]
  | succ k ih =>
    rw [be_snoc, beN_snoc, ih]
    have h1 : (UInt8.ofNat n).toNat = n % 256 := by simp
    rw [h1, Nat.pow_succ, Nat.mul_comm (256 ^ k) 256, Nat.mod_mul]
    omega
theorem num_back {z : Int} {k : Nat} (h0 : 0 ≤ z) (h : z < 256 ^ k) : (beN (be z.toNat k) : Int) = z := by
  rw [beN_be, Nat.mod_eq_of_lt]
  · exact Int.toNat_of_nonneg h0
  · have : ((z.toNat : Nat) : Int) < ((256 ^ k : Nat) : Int) := by rw [Int.toNat_of_nonneg h0]; simpa using h
    exact_mod_cast this

theorem drop_take_mid {α : Type} (a m c : List α) {i n : Nat} (hi : a.length = i) (hn : m.length = n) : ((a ++ m ++ c).drop i).take n = m := by
  subst hi; subst hn
  rw [List.append_assoc, List.drop_left, List.take_left]
theorem labOf_pack (L : Lab) (hL : L.pool.length = 32) (hm : L.may = true) : labOf (packB L) = L := by
  have h := of_decide_eq_true hm
  obtain ⟨pool, dev, devs, copies, sectors, life⟩ := L
  dsimp only at hL h
  rw [packB_may _ hm]
  generalize digest (labBody ⟨pool, dev, devs, copies, sectors, life⟩) = D
  have l8 : labHead.length = 8 := rfl
  have b1 : ∀ z : Int, (be z.toNat 1).length = 1 := fun z => be_length _ _
  have b2 : (be sectors.toNat 2).length = 2 := be_length _ _
  have b5 : (be life.toNat 5).length = 5 := be_length _ _
  have e1 : labBody ⟨pool, dev, devs, copies, sectors, life⟩ ++ D = labHead ++ pool ++ (be dev.toNat 1 ++ be devs.toNat 1 ++ be copies.toNat 1 ++ be sectors.toNat 2 ++ be life.toNat 5 ++ List.replicate 174 0 ++ D) := by
    simp only [labBody, labMid, List.append_assoc]
  have e2 : labBody ⟨pool, dev, devs, copies, sectors, life⟩ ++ D = (labHead ++ pool) ++ be dev.toNat 1 ++ (be devs.toNat 1 ++ be copies.toNat 1 ++ be sectors.toNat 2 ++ be life.toNat 5 ++ List.replicate 174 0 ++ D) := by
    simp only [labBody, labMid, List.append_assoc]
  have e3 : labBody ⟨pool, dev, devs, copies, sectors, life⟩ ++ D = (labHead ++ pool ++ be dev.toNat 1) ++ be devs.toNat 1 ++ (be copies.toNat 1 ++ be sectors.toNat 2 ++ be life.toNat 5 ++ List.replicate 174 0 ++ D) := by
    simp only [labBody, labMid, List.append_assoc]
  have e4 : labBody ⟨pool, dev, devs, copies, sectors, life⟩ ++ D = (labHead ++ pool ++ be dev.toNat 1 ++ be devs.toNat 1) ++ be copies.toNat 1 ++ (be sectors.toNat 2 ++ be life.toNat 5 ++ List.replicate 174 0 ++ D) := by
    simp only [labBody, labMid, List.append_assoc]
  have e5 : labBody ⟨pool, dev, devs, copies, sectors, life⟩ ++ D = (labHead ++ pool ++ be dev.toNat 1 ++ be devs.toNat 1 ++ be copies.toNat 1) ++ be sectors.toNat 2 ++ (be life.toNat 5 ++ List.replicate 174 0 ++ D) := by
    simp only [labBody, labMid, List.append_assoc]
  have e6 : labBody ⟨pool, dev, devs, copies, sectors, life⟩ ++ D = (labHead ++ pool ++ be dev.toNat 1 ++ be devs.toNat 1 ++ be copies.toNat 1 ++ be sectors.toNat 2) ++ be life.toNat 5 ++ (List.replicate 174 0 ++ D) := by
    simp only [labBody, labMid, List.append_assoc]
  unfold labOf
  have d1 : ((labBody ⟨pool, dev, devs, copies, sectors, life⟩ ++ D).drop 8).take 32 = pool := by rw [e1]; exact drop_take_mid _ _ _ l8 hL
  have d2 : ((labBody ⟨pool, dev, devs, copies, sectors, life⟩ ++ D).drop 40).take 1 = be dev.toNat 1 := by rw [e2]; exact drop_take_mid _ _ _ (by simp [l8, hL]) (b1 _)
  have d3 : ((labBody ⟨pool, dev, devs, copies, sectors, life⟩ ++ D).drop 41).take 1 = be devs.toNat 1 := by rw [e3]; exact drop_take_mid _ _ _ (by simp [l8, hL, b1]) (b1 _)
  have d4 : ((labBody ⟨pool, dev, devs, copies, sectors, life⟩ ++ D).drop 42).take 1 = be copies.toNat 1 := by rw [e4]; exact drop_take_mid _ _ _ (by simp [l8, hL, b1]) (b1 _)
  have d5 : ((labBody ⟨pool, dev, devs, copies, sectors, life⟩ ++ D).drop 43).take 2 = be sectors.toNat 2 := by rw [e5]; exact drop_take_mid _ _ _ (by simp [l8, hL, b1]) b2
  have d6 : ((labBody ⟨pool, dev, devs, copies, sectors, life⟩ ++ D).drop 45).take 5 = be life.toNat 5 := by rw [e6]; exact drop_take_mid _ _ _ (by simp [l8, hL, b1, b2]) b5
  rw [d1, d2, d3, d4, d5, d6]
  rw [num_back (by omega) (by omega), num_back (by omega) (by omega), num_back (by omega) (by omega), num_back (by omega) (by omega), num_back (by omega) (by omega)]
theorem unpackR_pack (L : Lab) (hL : L.pool.length = 32) (hm : L.may = true) : unpackR (packB L) = (L, 0) := by
  unfold unpackR
  rw [if_neg (by rw [packB_len L hL hm]; simp), if_neg, if_pos]
  · rw [labOf_pack L hL hm]
  · rw [labOf_pack L hL hm]; exact ⟨hm, rfl⟩
  · intro e
    have := congrArg (fun l => l.take 8) e
    simp only [packB_head L hm] at this
    revert this
    decide
theorem unpackR_ok {b : List UInt8} (h : (unpackR b).2 = 0) : (unpackR b).1 = labOf b ∧ b.length = 256 ∧ (labOf b).may = true ∧ packB (labOf b) = b := by
  unfold unpackR at *
  by_cases h1 : b.length ≠ 256
  · rw [if_pos h1] at h; cases h
  · rw [if_neg h1] at h ⊢
    by_cases h2 : b = List.replicate 256 0
    · rw [if_pos h2] at h; cases h
    · rw [if_neg h2] at h ⊢
      by_cases h3 : (labOf b).may = true ∧ packB (labOf b) = b
      · rw [if_pos h3] at h ⊢; exact ⟨rfl, by omega, h3⟩
      · rw [if_neg h3] at h; cases h
theorem unpackR_no {b : List UInt8} (h : (unpackR b).2 ≠ 0) : (unpackR b).1 = zeroLab := by
  unfold unpackR at *
  by_cases h1 : b.length ≠ 256
  · rw [if_pos h1]
  · rw [if_neg h1] at h ⊢
    by_cases h2 : b = List.replicate 256 0
    · rw [if_pos h2]
    · rw [if_neg h2] at h ⊢
      by_cases h3 : (labOf b).may = true ∧ packB (labOf b) = b
      · rw [if_pos h3] at h; exact absurd rfl h
      · rw [if_neg h3]
end Go.Proofs.Ytdlegbcdmlmbpaa
