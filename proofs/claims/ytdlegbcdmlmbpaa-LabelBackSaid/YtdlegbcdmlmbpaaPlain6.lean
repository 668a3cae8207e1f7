/-
  A label's sector of which bits are turned is none, but where the digest is the same; what a label's sector is read as.
  Conditions: none; no program is in sight.
-/
import Derived.Test.YtdlegbcdmlmbpaaPlain5
namespace Go.Proofs.Ytdlegbcdmlmbpaa

theorem vb_one {x y : UInt8} (h : vb x = vb y) : x = y := by
  unfold vb at h
  injection h with _ h4
  exact UInt8.toNat_inj.1 (by omega)
theorem vb_inj {a b : List UInt8} (h : a.map vb = b.map vb) : a = b := by
  induction a generalizing b with
  | nil => cases b with
    | nil => rfl
    | cons y b => simp at h
  | cons x a ih => cases b with
    | nil => simp at h
    | cons y b =>
      rw [List.map_cons, List.map_cons] at h
      injection h with h1 h2
      rw [vb_one h1, ih h2]
theorem rd_of_blk {w : World} {g n c : Nat} {k : List UInt8} {e : TypeId} {fr : Nat × Nat} (h : w.heap[g]? = some (.cells (k.map vb).toArray e fr)) (hn : n ≤ k.length) (hc : n ≤ c) (hm : c ≤ maxLen) :
    Rd w 1 (.slice (some ⟨g, 0, none⟩) n c) (k.take n).length ((k.take n).map vb) := by
  have hl : (k.take n).length = n := by rw [List.length_take]; omega
  refine ⟨by simp, _, c, by rw [hl], by rw [hl]; exact hc, hm, (by intro h; cases h), fun _ => ⟨g, 0, rfl, fun i u hu => ?_⟩⟩
  rw [Nat.zero_add]
  refine blk_cell h ?_
  rw [List.getElem?_toArray]
  rw [List.getElem?_map, List.getElem?_take] at hu
  rw [List.getElem?_map]
  split at hu
  · exact hu
  · cases hu
theorem packB_may (L : Lab) (hm : L.may = true) : packB L = labBody L ++ digest (labBody L) := by unfold packB; rw [hm]; rfl
theorem packB_len (L : Lab) (hL : L.pool.length = 32) (hm : L.may = true) : (packB L).length = 256 := by rw [packB_may L hm, List.length_append, labBody_length L hL, digest_length]
theorem packB_take (L : Lab) (hL : L.pool.length = 32) (hm : L.may = true) : (packB L).take 224 = labBody L := by
  rw [packB_may L hm, List.take_append_of_le_length (by rw [labBody_length L hL]; omega), List.take_of_length_le (by rw [labBody_length L hL]; omega)]
theorem packB_drop (L : Lab) (hL : L.pool.length = 32) (hm : L.may = true) : (packB L).drop 224 = digest ((packB L).take 224) := by
  rw [packB_take L hL hm, packB_may L hm, List.drop_append_of_le_length (by rw [labBody_length L hL]; omega), List.drop_of_length_le (by rw [labBody_length L hL]; omega), List.nil_append]
theorem packB_head (L : Lab) (hm : L.may = true) : (packB L).take 8 = labHead := by
  rw [packB_may L hm]
  unfold labBody labMid
  simp only [List.append_assoc]
  rw [List.take_append_of_le_length (by decide)]
  decide
/-- What is no label's sector, and not all 0, is damaged. -/
theorem unpackR_bad (b : List UInt8) (hl : b.length = 256) (hz : b ≠ List.replicate 256 0) (hd : b.drop 224 ≠ digest (b.take 224)) : unpackR b = (zeroLab, 11) := by
  unfold unpackR
  rw [if_neg (by omega), if_neg hz, if_neg]
  rintro ⟨hm, hp⟩
  have hL := labOf_pool b hl
  have := packB_drop (labOf b) hL hm
  rw [hp] at this
  exact hd this
/-- The sector of which one byte is turned. -/
def turnB (b : List UInt8) (at' : Nat) (m : UInt8) : List UInt8 := b.set at' (b.getD at' 0 ^^^ m)
theorem turnB_length (b : List UInt8) (i : Nat) (m : UInt8) : (turnB b i m).length = b.length := by simp [turnB]
theorem xor_ne (a m : UInt8) (hm : m ≠ 0) : a ^^^ m ≠ a := by
  intro h
  apply hm
  have : a ^^^ (a ^^^ m) = a ^^^ a := by rw [h]
  rwa [← UInt8.xor_assoc, UInt8.xor_self, UInt8.zero_xor] at this
theorem turned_bad (L : Lab) (hL : L.pool.length = 32) (hm : L.may = true) (i : Nat) (hi : i < 256) (m : UInt8) (h0 : m ≠ 0)
    (hd : i < 224 → digest ((turnB (packB L) i m).take 224) ≠ digest ((packB L).take 224)) : unpackR (turnB (packB L) i m) = (zeroLab, 11) := by
  have hl := packB_len L hL hm
  apply unpackR_bad
  · rw [turnB_length, hl]
  · intro hz
    have h8 := packB_head L hm
    have g : ∀ k, k < 8 → k ≠ i → labHead[k]? = some 0 := by
      intro k hk hki
      rw [← h8, List.getElem?_take, if_pos hk]
      have : (turnB (packB L) i m)[k]? = some 0 := by rw [hz, List.getElem?_replicate, if_pos (by omega)]
      rw [turnB, List.getElem?_set_ne (by omega)] at this
      exact this
    by_cases h : i = 0
    · have := g 1 (by omega) (by omega); revert this; decide
    · have := g 0 (by omega) (by omega); revert this; decide
  · rcases Nat.lt_or_ge i 224 with h | h
    · have e : (turnB (packB L) i m).drop 224 = (packB L).drop 224 := by
        unfold turnB
        rw [List.drop_set, if_pos h]
      rw [e, packB_drop L hL hm]
      exact fun q => hd h q.symm
    · have e : (turnB (packB L) i m).take 224 = (packB L).take 224 := by
        unfold turnB
        rw [List.take_set, List.set_eq_of_length_le]
        rw [List.length_take]; omega
      rw [e, ← packB_drop L hL hm]
      intro q
      have q2 := congrArg (fun l => l[i - 224]?) q
      simp only [List.getElem?_drop] at q2
      rw [show 224 + (i - 224) = i by omega, turnB, List.getElem?_set_self (by omega), List.getElem?_eq_getElem (by omega)] at q2
      have q3 := Option.some.inj q2
      rw [List.getD_eq_getElem?_getD, List.getElem?_eq_getElem (by omega), Option.getD_some] at q3
      exact xor_ne _ _ h0 q3
end Go.Proofs.Ytdlegbcdmlmbpaa
