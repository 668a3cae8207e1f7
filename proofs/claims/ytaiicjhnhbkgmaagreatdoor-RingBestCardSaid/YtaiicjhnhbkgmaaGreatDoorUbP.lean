/-
  An uberblock's sector is read as it; a torn sector is none (plain laws on lists of bytes).
  Conditions: those told.
-/
import Derived.Test.YtaiicjhnhbkgmaaGreatDoorStepsU
import Derived.Test.YtaiicjhnhbkgmaaGreatDoorPtrE
namespace Go.Proofs.YtaiicjhnhbkgmaaGreatDoor
open Go.RowKit Go.Maps Go.ChangeMaps
set_option maxRecDepth 100000
set_option linter.unusedVariables false

theorem be_snocU (n k : Nat) : be n (k + 1) = be (n / 256) k ++ [UInt8.ofNat n] := by
  unfold be
  rw [List.range_succ, List.map_append, List.map_cons, List.map_nil]
  congr 1
  · refine List.map_congr_left fun j hj => ?_
    rw [List.mem_range] at hj
    unfold beAt
    rw [show 8 * (k + 1 - 1 - j) = 8 * (k - 1 - j) + 8 by omega, Nat.pow_add, Nat.mul_comm, ← Nat.div_div_eq_div_mul]
  · unfold beAt
    simp
theorem beN_beU (n : Nat) : ∀ k, beN (be n k) = n % 256 ^ k := by
  intro k
  induction k generalizing n with
  | zero => simp [be, beN, Nat.mod_one]
  | succ k ih =>
    rw [be_snocU, beN_snoc, ih]
    have h1 : (UInt8.ofNat n).toNat = n % 256 := by simp
    rw [h1, Nat.pow_succ, Nat.mul_comm (256 ^ k) 256, Nat.mod_mul]
    omega
theorem num_backU {z : Int} {k : Nat} (h0 : 0 ≤ z) (h : z < 256 ^ k) : (beN (be z.toNat k) : Int) = z := by
  rw [beN_beU, Nat.mod_eq_of_lt]
  · exact Int.toNat_of_nonneg h0
  · have : ((z.toNat : Nat) : Int) < ((256 ^ k : Nat) : Int) := by rw [Int.toNat_of_nonneg h0]; simpa using h
    exact_mod_cast this

theorem cut_mid {A B C : List UInt8} {i k : Nat} (h1 : A.length = i) (h2 : B.length = k) : ((A ++ (B ++ C)).drop i).take k = B := by
  subst h1 h2
  rw [List.drop_left, List.take_left]
theorem ptBytes_ad (p : Pt) (i : Nat) (h : i < 3) : ((ptBytes p).drop (1 + 3 * i)).take 1 = be (p.addrs.getD i zAd).dev.toNat 1 ∧ ((ptBytes p).drop (1 + 3 * i + 1)).take 2 = be (p.addrs.getD i zAd).sec.toNat 2 := by
  have h3 : i = 0 ∨ i = 1 ∨ i = 2 := by omega
  rcases h3 with rfl | rfl | rfl <;> exact ⟨rfl, rfl⟩
theorem adOf_back {p : Pt} (hm : p.may = true) {i : Nat} (h : i < 3) : adOf (ptBytes p) i = p.addrs.getD i zAd := by
  obtain ⟨h1, h2⟩ := ptBytes_ad p i h
  obtain ⟨d, s, hd, hd8, hs⟩ := ad_nat (pt_bounds hm).2.1 i
  unfold adOf
  rw [h1, h2, hd]
  have e1 := num_backU (z := (d : Int)) (k := 1) (by omega) (by omega)
  have e2 := num_backU (z := (s : Int)) (k := 2) (by omega) (by omega)
  show (⟨_, _⟩ : Ad) = _
  rw [e1, e2]
theorem ptOf_back {p : Pt} (hs : p.sum.length = 32) (hm : p.may = true) : ptOf (ptBytes p) = p := by
  obtain ⟨b1, b2, b3, b4, b5, b6⟩ := pt_bounds hm
  have hc : beN ((ptBytes p).take 1) = p.addrs.length := by
    have h0 : (ptBytes p).take 1 = be p.addrs.length 1 := rfl
    have := num_backU (z := (p.addrs.length : Int)) (k := 1) (by omega) (by omega)
    rw [h0]
    rw [Int.toNat_natCast] at this
    exact_mod_cast this
  have ha : adsOf (ptBytes p) 3 = p.addrs := by
    unfold adsOf
    rw [hc, Nat.min_eq_left b1]
    apply List.ext_getElem?
    intro i
    rw [List.getElem?_map]
    by_cases hi : i < p.addrs.length
    · rw [List.getElem?_range hi, Option.map_some, adOf_back hm (by omega), List.getD_eq_getElem?_getD, List.getElem?_eq_getElem hi]
      rfl
    · rw [List.getElem?_eq_none (by simpa using hi), List.getElem?_eq_none (by omega)]
      rfl
  have l3 : (ptHead p 3).length = 10 := ptHead_len p 3
  have e1 : ((ptBytes p).drop 10).take 4 = be p.birth.toNat 4 := by
    unfold ptBytes
    rw [List.append_assoc, List.append_assoc]
    exact cut_mid l3 (be_length _ _)
  have e2 : ((ptBytes p).drop 14).take 1 = be p.level.toNat 1 := by
    unfold ptBytes
    rw [List.append_assoc]
    exact cut_mid (by rw [List.length_append, l3, be_length]) (be_length _ _)
  have e3 : (ptBytes p).drop 15 = p.sum := by
    unfold ptBytes
    have : (ptHead p 3 ++ be p.birth.toNat 4 ++ be p.level.toNat 1).length = 15 := by rw [List.length_append, List.length_append, l3, be_length, be_length]
    rw [← this, List.drop_left]
  unfold ptOf
  rw [ha, e1, e2, e3, num_backU b3 (by omega), num_backU b5 (by omega)]
theorem ubS_mid (u : Ub) (k : Nat) : ∀ j, k < j → ∃ R, ubS u j = ubS u k ++ (ubW u k ++ R)
  | 0, h => absurd h (by omega)
  | j + 1, h => by
    by_cases e : k = j
    · subst e; exact ⟨[], by rw [List.append_nil]; rfl⟩
    · obtain ⟨R, hR⟩ := ubS_mid u k j (by omega)
      refine ⟨R ++ ubW u j, ?_⟩
      show ubS u j ++ ubW u j = _
      rw [hR]
      simp only [List.append_assoc]
theorem packU_mid {u : Ub} (hm : u.may = true) {k : Nat} (hk : k < 6) : ∃ R, packU u = ubS u k ++ (ubW u k ++ R) := by
  obtain ⟨R, hR⟩ := ubS_mid u k 6 hk
  refine ⟨R ++ digest (ubBody u), ?_⟩
  unfold packU
  rw [hm, if_pos rfl]
  show ubS u 6 ++ _ = _
  rw [hR]
  simp only [List.append_assoc]
theorem ubOf_back {u : Ub} (h1 : u.pool.length = 32) (h2 : u.root.sum.length = 32) (hm : u.may = true) : ubOf (packU u) = u := by
  obtain ⟨a0, a1, a2, a3, a4, a5, a6⟩ := ubS_lens h1 h2
  obtain ⟨b1, b2, b3, b4, b5⟩ := ub_bounds hm
  obtain ⟨R1, e1⟩ := packU_mid hm (k := 1) (by omega)
  obtain ⟨R2, e2⟩ := packU_mid hm (k := 2) (by omega)
  obtain ⟨R3, e3⟩ := packU_mid hm (k := 3) (by omega)
  obtain ⟨R4, e4⟩ := packU_mid hm (k := 4) (by omega)
  have c1 : ((packU u).drop 8).take 32 = u.pool := by rw [e1]; exact cut_mid a1 h1
  have c2 : ((packU u).drop 40).take 5 = be u.txg.toNat 5 := by rw [e2]; exact cut_mid a2 (be_length _ _)
  have c3 : ((packU u).drop 45).take 3 = be u.len.toNat 3 := by rw [e3]; exact cut_mid a3 (be_length _ _)
  have c4 : rootB (packU u) = ptBytes u.root := by unfold rootB; rw [e4]; exact cut_mid a4 (ptBytes_len h2)
  unfold ubOf txgOf lenOf
  rw [c1, c2, c3, c4, ptOf_back h2 b5, num_backU (by omega) (by omega), num_backU (by omega) (by omega)]
theorem packU_0 {u : Ub} (hm : u.may = true) : (packU u).take 8 = ubHead := by
  obtain ⟨R, e⟩ := packU_mid hm (k := 0) (by omega)
  rw [e]
  exact cut_mid (A := []) (i := 0) rfl rfl
theorem not_noughts {b : List UInt8} (h : b.take 8 = ubHead) : ¬ b = List.replicate 256 0 := by
  rintro rfl
  revert h
  decide
theorem unpackU_back {u : Ub} (h1 : u.pool.length = 32) (h2 : u.root.sum.length = 32) (hm : u.may = true) : unpackU (packU u) = (u, 0) := by
  unfold unpackU
  rw [if_neg (by rw [packU_len h1 h2 hm]; simp), if_neg (not_noughts (packU_0 hm)), if_pos]
  · rw [ubOf_back h1 h2 hm]
  · rw [ubOf_back h1 h2 hm]; exact ⟨hm, rfl⟩
/-- What is told is a sector's own, or nothing. -/
theorem unpackU_ok {b : List UInt8} (h : (unpackU b).2 = 0) : b.length = 256 ∧ unpackU b = (ubOf b, 0) ∧ (ubOf b).may = true ∧ packU (ubOf b) = b := by
  unfold unpackU at h ⊢
  by_cases h1 : b.length ≠ 256
  · rw [if_pos h1] at h; exact absurd h (by decide)
  · rw [if_neg h1] at h ⊢
    by_cases h2 : b = List.replicate 256 0
    · rw [if_pos h2] at h; exact absurd h (by decide)
    · rw [if_neg h2] at h ⊢
      by_cases h3 : (ubOf b).may = true ∧ packU (ubOf b) = b
      · rw [if_pos h3] at h ⊢; exact ⟨by omega, rfl, h3⟩
      · rw [if_neg h3] at h; exact absurd h (by decide)
theorem unpackU_no {b : List UInt8} (h : (unpackU b).2 ≠ 0) : (unpackU b).1 = zUb := by
  unfold unpackU at h ⊢
  by_cases h1 : b.length ≠ 256
  · rw [if_pos h1]
  · rw [if_neg h1] at h ⊢
    by_cases h2 : b = List.replicate 256 0
    · rw [if_pos h2]
    · rw [if_neg h2] at h ⊢
      by_cases h3 : (ubOf b).may = true ∧ packU (ubOf b) = b
      · rw [if_pos h3] at h; exact absurd rfl h
      · rw [if_neg h3]
theorem packU_cut {u : Ub} (h1 : u.pool.length = 32) (h2 : u.root.sum.length = 32) (hm : u.may = true) : (packU u).drop 224 = digest ((packU u).take 224) := by
  unfold packU
  rw [hm, if_pos rfl, ← ubBody_len h1 h2, List.drop_left, List.take_left]
theorem zUb_pool : zUb.pool.length = 32 := rfl
theorem zUb_sum : zUb.root.sum.length = 32 := rfl
/-- P9.3: of a torn sector no third one is told. -/
theorem torn_plain {u : Ub} (h1 : u.pool.length = 32) (h2 : u.root.sum.length = 32) (hm : u.may = true) {b s : List UInt8} {t : Nat} (hb : (∃ v : Ub, v.pool.length = 32 ∧ v.root.sum.length = 32 ∧ v.may = true ∧ b = packU v) ∨ b = List.replicate 256 0)
    (ht : t ≤ 256) (hs : s = (packU u).take t ++ b.drop t) (na : ¬ s = packU u) (nb : ¬ s = b)
    (hd : ¬ s.take 224 = (packU u).take 224 → ¬ s.take 224 = b.take 224 → ¬ digest (s.take 224) = s.drop 224) : unpackU s = (zUb, 11) := by
  have la := packU_len h1 h2 hm
  have lb : b.length = 256 := by
    rcases hb with ⟨v, v1, v2, vm, rfl⟩ | rfl
    · exact packU_len v1 v2 vm
    · exact List.length_replicate
  have ls : s.length = 256 := by rw [hs, List.length_append, List.length_take, List.length_drop, la, lb]; omega
  have hz : ¬ s = List.replicate 256 0 := by
    intro e
    rcases Nat.eq_zero_or_pos t with h0 | h0
    · subst h0
      exact nb (by rw [hs]; simp)
    · have ha0 : (packU u)[0]? = some 67 := by
        have := congrArg (fun l => l[0]?) (packU_0 hm)
        simpa [ubHead] using this
      have hs0 : s[0]? = some 67 := by
        rw [hs, List.getElem?_append_left (by rw [List.length_take, la]; omega), List.getElem?_take, if_pos h0]
        exact ha0
      rw [e] at hs0
      simp at hs0
  unfold unpackU
  rw [if_neg (by rw [ls]; simp), if_neg hz, if_neg]
  rintro ⟨xm, xp⟩
  have xc := packU_cut (ubOf_pool ls) (ubOf_sum ls) xm
  have x0 := packU_0 xm
  rw [xp] at xc x0
  have join : ∀ z : List UInt8, z.drop 224 = digest (z.take 224) → s.take 224 = z.take 224 → s = z := fun z hz e => by
    rw [← List.take_append_drop 224 s, xc, e, ← hz, List.take_append_drop]
  by_cases e1 : s.take 224 = (packU u).take 224
  · exact na (join _ (packU_cut h1 h2 hm) e1)
  · by_cases e2 : s.take 224 = b.take 224
    · rcases hb with ⟨v, v1, v2, vm, rfl⟩ | rfl
      · exact nb (join _ (packU_cut v1 v2 vm) e2)
      · have := congrArg (fun l => l.take 8) e2
        simp only [List.take_take] at this
        rw [show min 8 224 = 8 from rfl, x0] at this
        revert this
        decide
    · exact hd e1 e2 xc.symm
end Go.Proofs.YtaiicjhnhbkgmaaGreatDoor
