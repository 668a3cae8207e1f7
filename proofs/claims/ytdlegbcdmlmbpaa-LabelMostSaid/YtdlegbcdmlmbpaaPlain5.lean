/-
  What a label's sector is read as.
  Conditions: none; no program is in sight.
-/
import Derived.Test.YtdlegbcdmlmbpaaPack2
import Derived.Test.YtdlegbcdmlmbpaaReader3
namespace Go.Proofs.Ytdlegbcdmlmbpaa

/-- The label that stands in bytes. -/
def labOf (b : List UInt8) : Lab :=
  ⟨(b.drop 8).take 32, beN ((b.drop 40).take 1), beN ((b.drop 41).take 1), beN ((b.drop 42).take 1), beN ((b.drop 43).take 2), beN ((b.drop 45).take 5)⟩
def zeroLab : Lab := ⟨List.replicate 32 0, 0, 0, 0, 0, 0⟩
/-- What Unpack tells. -/
def unpackR (b : List UInt8) : Lab × Int :=
  if b.length ≠ 256 then (zeroLab, 4) else if b = List.replicate 256 0 then (zeroLab, 6)
  else if (labOf b).may = true ∧ packB (labOf b) = b then (labOf b, 0) else (zeroLab, 11)

theorem labOf_pool (b : List UInt8) (h : b.length = 256) : (labOf b).pool.length = 32 := by simp [labOf, h]
theorem may_sectors {L : Lab} (h : L.may = true) : 8 ≤ L.sectors ∧ L.sectors ≤ 4096 := (of_decide_eq_true h).2.2.2.1
theorem may_life {L : Lab} (h : L.may = true) : 0 ≤ L.life ∧ L.life ≤ 2147483648 := (of_decide_eq_true h).2.2.2.2
theorem beN_byte (l : List UInt8) (h : l.length ≤ 1) : (beN l : Int) ≤ 255 := by
  have h1 := beN_lt l
  have h2 : 256 ^ l.length ≤ 256 ^ 1 := Nat.pow_le_pow_right (by omega) h
  omega
theorem zeroLab_cells : zeroLab.cells.toArray = Array.replicate 32 (.int .u8 0) ++ Array.replicate 5 (.int .i64 0) := rfl
end Go.Proofs.Ytdlegbcdmlmbpaa

/-
  A label's sector of which bits are turned is none, but where the digest is the same; what a label's sector is read as.
  Conditions: none; no program is in sight.
-/
namespace Go.Proofs.Ytdlegbcdmlmbpaa

theorem vb_one {x y : UInt8} (h : vb x = vb y) : x = y := by
  unfold vb at h
  injection h with _ h4
  exact UInt8.toNat_inj.1 (by omega)
theorem vb_inj {a b : List UInt8} (h : a.map vb = b.map vb) : a = b := by
  induction a generalizing b with
  | nil => cases b with
    | nil => rfl
    | cons y b => simp at h
  | cons x a ih => cases b with
    | nil => simp at h
    | cons y b =>
      rw [List.map_cons, List.map_cons] at h
      injection h with h1 h2
      rw [vb_one h1, ih h2]
theorem rd_of_blk {w : World} {g n c : Nat} {k : List UInt8} {e : TypeId} {fr : Nat × Nat} (h : w.heap[g]? = some (.cells (k.map vb).toArray e fr)) (hn : n ≤ k.length) (hc : n ≤ c) (hm : c ≤ maxLen) :
    Rd w 1 (.slice (some ⟨g, 0, none⟩) n c) (k.take n).length ((k.take n).map vb) := by
  have hl : (k.take n).length = n := by rw [List.length_take]; omega
  refine ⟨by simp, _, c, by rw [hl], by rw [hl]; exact hc, hm, (by intro h; cases h), fun _ => ⟨g, 0, rfl, fun i u hu => ?_⟩⟩
  rw [Nat.zero_add]
  refine blk_cell h ?_
  rw [List.getElem?_toArray]
  rw [List.getElem?_map, List.getElem?_take] at hu
  rw [List.getElem?_map]
  split at hu
  · exact hu
  · cases hu
theorem packB_may (L : Lab) (hm : L.may = true) : packB L = labBody L ++ digest (labBody L) := by unfold packB; rw [hm]; rfl
theorem packB_len (L : Lab) (hL : L.pool.length = 32) (hm : L.may = true) : (packB L).length = 256 := by rw [packB_may L hm, List.length_append, labBody_length L hL, digest_length]
theorem packB_take (L : Lab) (hL : L.pool.length = 32) (hm : L.may = true) : (packB L).take 224 = labBody L := by
  rw [packB_may L hm, List.take_append_of_le_length (by rw [labBody_length L hL]; omega), List.take_of_length_le (by rw [labBody_length L hL]; omega)]
theorem packB_drop (L : Lab) (hL : L.pool.length = 32) (hm : L.may = true) : (packB L).drop 224 = digest ((packB L).take 224) := by
  rw [packB_take L hL hm, packB_may L hm, List.drop_append_of_le_length (by rw [labBody_length L hL]; omega), List.drop_of_length_le (by rw [labBody_length L hL]; omega), List.nil_append]
theorem packB_head (L : Lab) (hm : L.may = true) : (packB L).take 8 = labHead := by
  rw [packB_may L hm]
  unfold labBody labMid
  simp only [List.append_assoc]
  rw [List.take_append_of_le_length (by decide)]
  decide
/-- What is no label's sector, and not all 0, is damaged. -/
theorem unpackR_bad (b : List UInt8) (hl : b.length = 256) (hz : b ≠ List.replicate 256 0) (hd : b.drop 224 ≠ digest (b.take 224)) : unpackR b = (zeroLab, 11) := by
  unfold unpackR
  rw [if_neg (by omega), if_neg hz, if_neg]
  rintro ⟨hm, hp⟩
  have hL := labOf_pool b hl
  have := packB_drop (labOf b) hL hm
  rw [hp] at this
  exact hd this
/-- The sector of which one byte is turned. -/
def turnB (b : List UInt8) (at' : Nat) (m : UInt8) : List UInt8 := b.set at' (b.getD at' 0 ^^^ m)
theorem turnB_length (b : List UInt8) (i : Nat) (m : UInt8) : (turnB b i m).length = b.length := by simp [turnB]
theorem xor_ne (a m : UInt8) (hm : m ≠ 0) : a ^^^ m ≠ a := by
  intro h
  apply hm
  have : a ^^^ (a ^^^ m) = a ^^^ a := by rw [h]
  rwa [← UInt8.xor_assoc, UInt8.xor_self, UInt8.zero_xor] at this
theorem turned_bad (L : Lab) (hL : L.pool.length = 32) (hm : L.may = true) (i : Nat) (hi : i < 256) (m : UInt8) (h0 : m ≠ 0)
    (hd : i < 224 → digest ((turnB (packB L) i m).take 224) ≠ digest ((packB L).take 224)) : unpackR (turnB (packB L) i m) = (zeroLab, 11) := by
  have hl := packB_len L hL hm
  apply unpackR_bad
  · rw [turnB_length, hl]
  · intro hz
    have h8 := packB_head L hm
    have g : ∀ k, k < 8 → k ≠ i → labHead[k]? = some 0 := by
      intro k hk hki
      rw [← h8, List.getElem?_take, if_pos hk]
      have : (turnB (packB L) i m)[k]? = some 0 := by rw [hz, List.getElem?_replicate, if_pos (by omega)]
      rw [turnB, List.getElem?_set_ne (by omega)] at this
      exact this
    by_cases h : i = 0
    · have := g 1 (by omega) (by omega); revert this; decide
    · have := g 0 (by omega) (by omega); revert this; decide
  · rcases Nat.lt_or_ge i 224 with h | h
    · have e : (turnB (packB L) i m).drop 224 = (packB L).drop 224 := by
        unfold turnB
        rw [List.drop_set, if_pos h]
      rw [e, packB_drop L hL hm]
      exact fun q => hd h q.symm
    · have e : (turnB (packB L) i m).take 224 = (packB L).take 224 := by
        unfold turnB
        rw [List.take_set, List.set_eq_of_length_le]
        rw [List.length_take]; omega
      rw [e, ← packB_drop L hL hm]
      intro q
      have q2 := congrArg (fun l => l[i - 224]?) q
      simp only [List.getElem?_drop] at q2
      rw [show 224 + (i - 224) = i by omega, turnB, List.getElem?_set_self (by omega), List.getElem?_eq_getElem (by omega)] at q2
      have q3 := Option.some.inj q2
      rw [List.getD_eq_getElem?_getD, List.getElem?_eq_getElem (by omega), Option.getD_some] at q3
      exact xor_ne _ _ h0 q3
end Go.Proofs.Ytdlegbcdmlmbpaa

/-
  A label's sector is read as that label; what is read of a sector is packed as that sector.
  Conditions: none; no program is in sight.
-/
namespace Go.Proofs.Ytdlegbcdmlmbpaa
set_option linter.unusedVariables false

theorem be_snoc (n k : Nat) : be n (k + 1) = be (n / 256) k ++ [UInt8.ofNat n] := by
  unfold be
  rw [List.range_succ, List.map_append, List.map_cons, List.map_nil]
  congr 1
  · refine List.map_congr_left fun j hj => ?_
    rw [List.mem_range] at hj
    unfold beAt
    rw [show 8 * (k + 1 - 1 - j) = 8 * (k - 1 - j) + 8 by omega, Nat.pow_add, Nat.mul_comm, ← Nat.div_div_eq_div_mul]
  · unfold beAt
    simp
theorem beN_be (n : Nat) : ∀ k, beN (be n k) = n % 256 ^ k := by
  intro k
  induction k generalizing n with
  | zero => simp [be, beN, Nat.mod_one]
  | succ k ih =>
    rw [be_snoc, beN_snoc, ih]
    have h1 : (UInt8.ofNat n).toNat = n % 256 := by simp
    rw [h1, Nat.pow_succ, Nat.mul_comm (256 ^ k) 256, Nat.mod_mul]
    omega
theorem num_back {z : Int} {k : Nat} (h0 : 0 ≤ z) (h : z < 256 ^ k) : (beN (be z.toNat k) : Int) = z := by
  rw [beN_be, Nat.mod_eq_of_lt]
  · exact Int.toNat_of_nonneg h0
  · have : ((z.toNat : Nat) : Int) < ((256 ^ k : Nat) : Int) := by rw [Int.toNat_of_nonneg h0]; simpa using h
    exact_mod_cast this

theorem drop_take_mid {α : Type} (a m c : List α) {i n : Nat} (hi : a.length = i) (hn : m.length = n) : ((a ++ m ++ c).drop i).take n = m := by
  subst hi; subst hn
  rw [List.append_assoc, List.drop_left, List.take_left]
theorem labOf_pack (L : Lab) (hL : L.pool.length = 32) (hm : L.may = true) : labOf (packB L) = L := by
  have h := of_decide_eq_true hm
  obtain ⟨pool, dev, devs, copies, sectors, life⟩ := L
  dsimp only at hL h
  rw [packB_may _ hm]
  generalize digest (labBody ⟨pool, dev, devs, copies, sectors, life⟩) = D
  have l8 : labHead.length = 8 := rfl
  have b1 : ∀ z : Int, (be z.toNat 1).length = 1 := fun z => be_length _ _
  have b2 : (be sectors.toNat 2).length = 2 := be_length _ _
  have b5 : (be life.toNat 5).length = 5 := be_length _ _
  have e1 : labBody ⟨pool, dev, devs, copies, sectors, life⟩ ++ D = labHead ++ pool ++ (be dev.toNat 1 ++ be devs.toNat 1 ++ be copies.toNat 1 ++ be sectors.toNat 2 ++ be life.toNat 5 ++ List.replicate 174 0 ++ D) := by
    simp only [labBody, labMid, List.append_assoc]
  have e2 : labBody ⟨pool, dev, devs, copies, sectors, life⟩ ++ D = (labHead ++ pool) ++ be dev.toNat 1 ++ (be devs.toNat 1 ++ be copies.toNat 1 ++ be sectors.toNat 2 ++ be life.toNat 5 ++ List.replicate 174 0 ++ D) := by
    simp only [labBody, labMid, List.append_assoc]
  have e3 : labBody ⟨pool, dev, devs, copies, sectors, life⟩ ++ D = (labHead ++ pool ++ be dev.toNat 1) ++ be devs.toNat 1 ++ (be copies.toNat 1 ++ be sectors.toNat 2 ++ be life.toNat 5 ++ List.replicate 174 0 ++ D) := by
    simp only [labBody, labMid, List.append_assoc]
  have e4 : labBody ⟨pool, dev, devs, copies, sectors, life⟩ ++ D = (labHead ++ pool ++ be dev.toNat 1 ++ be devs.toNat 1) ++ be copies.toNat 1 ++ (be sectors.toNat 2 ++ be life.toNat 5 ++ List.replicate 174 0 ++ D) := by
    simp only [labBody, labMid, List.append_assoc]
  have e5 : labBody ⟨pool, dev, devs, copies, sectors, life⟩ ++ D = (labHead ++ pool ++ be dev.toNat 1 ++ be devs.toNat 1 ++ be copies.toNat 1) ++ be sectors.toNat 2 ++ (be life.toNat 5 ++ List.replicate 174 0 ++ D) := by
    simp only [labBody, labMid, List.append_assoc]
  have e6 : labBody ⟨pool, dev, devs, copies, sectors, life⟩ ++ D = (labHead ++ pool ++ be dev.toNat 1 ++ be devs.toNat 1 ++ be copies.toNat 1 ++ be sectors.toNat 2) ++ be life.toNat 5 ++ (List.replicate 174 0 ++ D) := by
    simp only [labBody, labMid, List.append_assoc]
  unfold labOf
  have d1 : ((labBody ⟨pool, dev, devs, copies, sectors, life⟩ ++ D).drop 8).take 32 = pool := by rw [e1]; exact drop_take_mid _ _ _ l8 hL
  have d2 : ((labBody ⟨pool, dev, devs, copies, sectors, life⟩ ++ D).drop 40).take 1 = be dev.toNat 1 := by rw [e2]; exact drop_take_mid _ _ _ (by simp [l8, hL]) (b1 _)
  have d3 : ((labBody ⟨pool, dev, devs, copies, sectors, life⟩ ++ D).drop 41).take 1 = be devs.toNat 1 := by rw [e3]; exact drop_take_mid _ _ _ (by simp [l8, hL, b1]) (b1 _)
  have d4 : ((labBody ⟨pool, dev, devs, copies, sectors, life⟩ ++ D).drop 42).take 1 = be copies.toNat 1 := by rw [e4]; exact drop_take_mid _ _ _ (by simp [l8, hL, b1]) (b1 _)
  have d5 : ((labBody ⟨pool, dev, devs, copies, sectors, life⟩ ++ D).drop 43).take 2 = be sectors.toNat 2 := by rw [e5]; exact drop_take_mid _ _ _ (by simp [l8, hL, b1]) b2
  have d6 : ((labBody ⟨pool, dev, devs, copies, sectors, life⟩ ++ D).drop 45).take 5 = be life.toNat 5 := by rw [e6]; exact drop_take_mid _ _ _ (by simp [l8, hL, b1, b2]) b5
  rw [d1, d2, d3, d4, d5, d6]
  rw [num_back (by omega) (by omega), num_back (by omega) (by omega), num_back (by omega) (by omega), num_back (by omega) (by omega), num_back (by omega) (by omega)]
theorem unpackR_pack (L : Lab) (hL : L.pool.length = 32) (hm : L.may = true) : unpackR (packB L) = (L, 0) := by
  unfold unpackR
  rw [if_neg (by rw [packB_len L hL hm]; simp), if_neg, if_pos]
  · rw [labOf_pack L hL hm]
  · rw [labOf_pack L hL hm]; exact ⟨hm, rfl⟩
  · intro e
    have := congrArg (fun l => l.take 8) e
    simp only [packB_head L hm] at this
    revert this
    decide
theorem unpackR_ok {b : List UInt8} (h : (unpackR b).2 = 0) : (unpackR b).1 = labOf b ∧ b.length = 256 ∧ (labOf b).may = true ∧ packB (labOf b) = b := by
  unfold unpackR at *
  by_cases h1 : b.length ≠ 256
  · rw [if_pos h1] at h; cases h
  · rw [if_neg h1] at h ⊢
    by_cases h2 : b = List.replicate 256 0
    · rw [if_pos h2] at h; cases h
    · rw [if_neg h2] at h ⊢
      by_cases h3 : (labOf b).may = true ∧ packB (labOf b) = b
      · rw [if_pos h3] at h ⊢; exact ⟨rfl, by omega, h3⟩
      · rw [if_neg h3] at h; cases h
theorem unpackR_no {b : List UInt8} (h : (unpackR b).2 ≠ 0) : (unpackR b).1 = zeroLab := by
  unfold unpackR at *
  by_cases h1 : b.length ≠ 256
  · rw [if_pos h1]
  · rw [if_neg h1] at h ⊢
    by_cases h2 : b = List.replicate 256 0
    · rw [if_pos h2]
    · rw [if_neg h2] at h ⊢
      by_cases h3 : (labOf b).may = true ∧ packB (labOf b) = b
      · rw [if_pos h3] at h; exact absurd rfl h
      · rw [if_neg h3]
end Go.Proofs.Ytdlegbcdmlmbpaa
