/-
  Bits in words: set and has.
  Conditions: fewer than 64 of them.
-/
import Derived.Test.YtmilgaoilglmjaaGen
namespace Go.Proofs.Ytmilgaoilglmjaa
open Go.RowKit Go.Maps Go.ChangeMaps
set_option maxRecDepth 100000
set_option linter.unusedVariables false

/-- A word as a cell. -/
def wv (x : BitVec 64) : Value := .int .u64 (x.toNat : Int)
theorem ofInt_toNat (x : BitVec 64) : BitVec.ofInt 64 (x.toNat : Int) = x := by simp
theorem wrap_u64 (n : Nat) (h : n < 18446744073709551616) : IntKind.u64.wrap (n : Int) = (n : Int) := by
  show ((n : Int) % 18446744073709551616) = n
  omega
theorem u64_lt (x : BitVec 64) : x.toNat < 18446744073709551616 := x.isLt
theorem bits_or (x y : BitVec 64) : bits .or .u64 (x.toNat : Int) (y.toNat : Int) = ((x ||| y).toNat : Int) := by
  show IntKind.u64.wrap ((BitVec.ofInt 64 (x.toNat : Int) ||| BitVec.ofInt 64 (y.toNat : Int)).toNat : Int) = _
  rw [ofInt_toNat, ofInt_toNat, wrap_u64 _ (u64_lt _)]
theorem bits_and (x y : BitVec 64) : bits .and .u64 (x.toNat : Int) (y.toNat : Int) = ((x &&& y).toNat : Int) := by
  show IntKind.u64.wrap ((BitVec.ofInt 64 (x.toNat : Int) &&& BitVec.ofInt 64 (y.toNat : Int)).toNat : Int) = _
  rw [ofInt_toNat, ofInt_toNat, wrap_u64 _ (u64_lt _)]
theorem bits_andNot (x y : BitVec 64) : bits .andNot .u64 (x.toNat : Int) (y.toNat : Int) = ((x &&& ~~~y).toNat : Int) := by
  show IntKind.u64.wrap ((BitVec.ofInt 64 (x.toNat : Int) &&& ~~~BitVec.ofInt 64 (y.toNat : Int)).toNat : Int) = _
  rw [ofInt_toNat, ofInt_toNat, wrap_u64 _ (u64_lt _)]
theorem shl_one (i : Nat) (h : i < 64) : IntKind.u64.wrap ((2 : Int) ^ i) = ((BitVec.twoPow 64 i).toNat : Int) := by
  rw [BitVec.toNat_twoPow, Nat.mod_eq_of_lt (Nat.pow_lt_pow_right (by decide) h)]
  have : ((2 : Int) ^ i) = ((2 ^ i : Nat) : Int) := by simp
  rw [this, wrap_u64 _ (Nat.pow_lt_pow_right (by decide) h)]
theorem shr_any (x : BitVec 64) (i : Nat) : (x.toNat : Int) / 2 ^ i = ((x >>> i).toNat : Int) := by
  rw [BitVec.toNat_ushiftRight, Nat.shiftRight_eq_div_pow]
  simp
theorem set_bit (x : BitVec 64) (i j : Nat) (hi : i < 64) : (x ||| BitVec.twoPow 64 i).getLsbD j = (x.getLsbD j || decide (i = j)) := by
  rw [BitVec.getLsbD_or, BitVec.getLsbD_twoPow]
  simp [hi]
theorem has_bit (x : BitVec 64) (i : Nat) : decide (((x >>> i &&& 1#64).toNat : Int) = 1) = x.getLsbD i := by
  have h : x >>> i &&& 1#64 = if x.getLsbD i then 1#64 else 0#64 := by
    apply BitVec.eq_of_getLsbD_eq
    intro j hj
    rw [BitVec.getLsbD_and, BitVec.getLsbD_ushiftRight]
    by_cases h0 : j = 0
    · subst h0
      cases x.getLsbD i <;> simp
    · have : (1#64).getLsbD j = false := by simp [BitVec.getLsbD_one, h0]
      rw [this]
      cases x.getLsbD i <;> simp [BitVec.getLsbD_one, h0]
  rw [h]
  cases x.getLsbD i <;> rfl
/-- Are all bits of one in another one? Is one set? -/
def subB (x y : BitVec 64) : Bool := decide (x &&& ~~~y = 0#64)
def someB (x : BitVec 64) : Bool := !decide (x = 0#64)
theorem zero_iff (x : BitVec 64) : (x.toNat : Int) = 0 ↔ x = 0#64 := ⟨fun h => BitVec.eq_of_toNat_eq (by simpa using h), fun h => by rw [h]; rfl⟩
theorem subB_iff (x y : BitVec 64) : subB x y = true ↔ ∀ j, j < 64 → x.getLsbD j = true → y.getLsbD j = true := by
  unfold subB
  rw [decide_eq_true_iff]
  constructor
  · intro h0 j hj hx
    have := congrArg (fun b => b.getLsbD j) h0
    simp only [BitVec.getLsbD_and, BitVec.getLsbD_not, hx, BitVec.getLsbD_zero, Bool.true_and] at this
    cases hy : y.getLsbD j
    · rw [hy] at this; simp [hj] at this
    · rfl
  · intro h
    apply BitVec.eq_of_getLsbD_eq
    intro j hj
    rw [BitVec.getLsbD_and, BitVec.getLsbD_not, BitVec.getLsbD_zero]
    cases hx : x.getLsbD j
    · rfl
    · rw [h j hj hx]; simp
theorem someB_iff (x : BitVec 64) : someB x = true ↔ ∃ j, j < 64 ∧ x.getLsbD j = true := by
  unfold someB
  rw [Bool.not_eq_true', decide_eq_false_iff_not]
  constructor
  · intro h
    refine Classical.byContradiction fun hn => h ?_
    apply BitVec.eq_of_getLsbD_eq
    intro j hj
    rw [BitVec.getLsbD_zero]
    cases hx : x.getLsbD j
    · rfl
    · exact absurd ⟨j, hj, hx⟩ hn
  · rintro ⟨j, hj, hx⟩ h
    rw [h, BitVec.getLsbD_zero] at hx
    cases hx

/-- A word of its own. -/
def Bt (w : World) (g : Nat) (x : BitVec 64) : Prop := w.heap[g]? = some (.cells #[wv x] 71 (0, 0))
def SetPost (w : World) (g : Nat) (x : BitVec 64) (e : Ending) (w' : World) : Prop := e = .returned (.tuple #[]) ∧ Bt w' g x ∧ Keep (fun k => k = g) w w'

set_option maxHeartbeats 2000000 in
theorem bset_any (w : World) (g i : Nat) (x : BitVec 64) (hb : Bt w g x) (hi : i < 64) : Calls Try.prog 57 #[.slice (some ⟨g, 0, none⟩) 1 1, .int .i64 (i : Int)] w (SetPost w g (x ||| BitVec.twoPow 64 i)) := by
  have hc : w.cell? ⟨g, 0, none⟩ = some (.int .u64 (x.toNat : Int)) := blk_cell hb rfl
  have hf := blk_free hb 0
  have h1 := shl_one i hi
  have h2 := bits_or x (BitVec.twoPow 64 i)
  have HB := Lib.hid hb
  obtain ⟨xv, hxv⟩ : ∃ n : Int, (x.toNat : Int) = n := ⟨_, rfl⟩
  obtain ⟨s, hs⟩ : ∃ n : Int, ((BitVec.twoPow 64 i).toNat : Int) = n := ⟨_, rfl⟩
  obtain ⟨r, hr⟩ : ∃ n : Int, ((x ||| BitVec.twoPow 64 i).toNat : Int) = n := ⟨_, rfl⟩
  have HR : Hid (Value.int .u64 r = wv (x ||| BitVec.twoPow 64 i)) := Lib.hid (by rw [← hr]; rfl)
  rw [hxv] at hc h2
  rw [hs] at h1 h2
  rw [hr] at h2
  clear hb hxv hs hr
  have hq : (i : Int) / 64 = 0 := by omega
  have hm : (i : Int) % 64 = (i : Int) := by omega
  have hi0 : (0 : Int) ≤ (i : Int) := by omega
  have hi1 : (i : Int) ≤ 64 := by omega
  go_enter Try.func57, Try.ntmps57
  have hm0 : (0 : Int) ≤ (i : Int) % 64 := by omega
  have hm1 : (i : Int) % 64 ≤ 64 := by omega
  have hmt : ((i : Int) % 64).toNat = i := by omega
  have hmd : (i : Int).tmod 64 = (i : Int) := by rw [Int.tmod_eq_emod_of_nonneg (by omega)]; omega
  have hqd : (i : Int).tdiv 64 = 0 := by rw [Int.tdiv_eq_ediv_of_nonneg (by omega)]; omega
  have hw0 : IntKind.i64.wrap 0 = 0 := by decide
  go_still_tail 10, (by kernel_rfl)
  go_wp2_with fail
  go_end0
  exact ⟨rfl, by unfold Bt; rw [← HR.out]; exact set_blk HB.out 0 _, ((Keep.refl (fun k => k = g) w).setCell (p := ⟨g, 0, none⟩) (fun _ => rfl) _).drew⟩
theorem bhas_any (w : World) (g i : Nat) (x : BitVec 64) (hb : Bt w g x) (hi : i < 64) : Calls Try.prog 47 #[.slice (some ⟨g, 0, none⟩) 1 1, .int .i64 (i : Int)] w fun e w' => e = .returned (.bool (x.getLsbD i)) ∧ w = w' := by
  have hc : w.cell? ⟨g, 0, none⟩ = some (.int .u64 (x.toNat : Int)) := blk_cell hb rfl
  have h1 := shr_any x i
  have h2 := bits_and (x >>> i) 1#64
  have h3 := has_bit x i
  obtain ⟨xv, hxv⟩ : ∃ n : Int, (x.toNat : Int) = n := ⟨_, rfl⟩
  obtain ⟨s, hs⟩ : ∃ n : Int, ((x >>> i).toNat : Int) = n := ⟨_, rfl⟩
  obtain ⟨r, hr⟩ : ∃ n : Int, ((x >>> i &&& 1#64).toNat : Int) = n := ⟨_, rfl⟩
  obtain ⟨b, hbb⟩ : ∃ b, x.getLsbD i = b := ⟨_, rfl⟩
  have e1 : (((1#64 : BitVec 64).toNat : Nat) : Int) = 1 := rfl
  rw [e1] at h2
  rw [hxv] at hc h1
  rw [hs] at h1 h2
  rw [hr] at h2 h3
  rw [hbb] at h3 ⊢
  have h3' : (r == 1) = b := h3
  clear hb hxv hs hr hbb e1
  have hq : (i : Int) / 64 = 0 := by omega
  have hm : (i : Int) % 64 = (i : Int) := by omega
  have hi0 : (0 : Int) ≤ (i : Int) := by omega
  have hi1 : (i : Int) ≤ 64 := by omega
  go_enter Try.func47, Try.ntmps47
  go_wp2_with fail
  go_ret
  exact ⟨rfl, rfl⟩

set_option maxHeartbeats 2000000 in
theorem bwithin_any (w : World) (g g' : Nat) (x y : BitVec 64) (hb : Bt w g x) (hb' : Bt w g' y) : Calls Try.prog 41 #[.slice (some ⟨g, 0, none⟩) 1 1, .slice (some ⟨g', 0, none⟩) 1 1] w fun e w' => e = .returned (.bool (subB x y)) ∧ Keep noBlk w w' := by
  have hc : w.cell? ⟨g, 0, none⟩ = some (.int .u64 (x.toNat : Int)) := blk_cell hb rfl
  have hc' : w.cell? ⟨g', 0, none⟩ = some (.int .u64 (y.toNat : Int)) := blk_cell hb' rfl
  have h2 := bits_andNot x y
  have h3 : decide (((x &&& ~~~y).toNat : Int) = 0) = subB x y := by rw [subB, Bool.eq_iff_iff, decide_eq_true_iff, decide_eq_true_iff]; exact zero_iff _
  obtain ⟨xv, hxv⟩ : ∃ n : Int, (x.toNat : Int) = n := ⟨_, rfl⟩
  obtain ⟨yv, hyv⟩ : ∃ n : Int, (y.toNat : Int) = n := ⟨_, rfl⟩
  obtain ⟨r, hr⟩ : ∃ n : Int, ((x &&& ~~~y).toNat : Int) = n := ⟨_, rfl⟩
  obtain ⟨b, hbb⟩ : ∃ b, subB x y = b := ⟨_, rfl⟩
  rw [hxv] at hc h2
  rw [hyv] at hc' h2
  rw [hr] at h2 h3
  rw [hbb] at h3 ⊢
  have H3 := Lib.hid h3
  have HC := Lib.hid hc; have HC' := Lib.hid hc'
  clear hb hb' hxv hyv hr hbb h3 hc hc'
  go_enter Try.func41, Try.ntmps41
  go_wp2_with fail
  go_loopw [8] (fun i wr => ∃ k : Nat, k ≤ 1 ∧ i = .int .i64 k ∧ Hid (k = 1 → r = 0) ∧ Hid (Keep noBlk w wr)) (fun i _ => 1 - (intOf i).toNat)
  case atStart => exact ⟨0, by omega, rfl, Lib.hid (fun h => by omega), Lib.hid (Keep.refl _ _)⟩
  case round =>
  obtain ⟨k, hk, rfl, HZ, HKR⟩ := hrel
  by_cases hlt : k < 1
  · obtain rfl : k = 0 := by omega
    have HCR := Lib.hid (HKR.out.cell HC.out id); have HCR' := Lib.hid (HKR.out.cell HC'.out id)
    by_cases h0 : r = 0
    · subst h0
      go_wp2_with fail
      have HKM := Lib.hid HKR.out
      obtain ⟨S, hS0⟩ : ∃ S : World → Prop, S = fun w' => Keep noBlk wr w' := ⟨_, rfl⟩
      have HSE := Lib.hid (show ∀ w', S w' → Keep noBlk wr w' from fun w' h => by rw [hS0] at h; exact h)
      have HSI := Lib.hid (show ∀ w', Keep noBlk wr w' → S w' from fun w' h => by rw [hS0]; exact h)
      have hS : S wr.drew := by rw [hS0]; exact (Keep.refl _ _).drew
      clear hS0
      refine wp_region_held (S := S) (by kernel_rfl) ?_
      change wpAnyH _ _ _ _ _ _ _ _ wr.drew
      generalize wr.drew = w1 at hS ⊢
      refine wpAnyH_take (i := 0) (v := .slice (some ⟨g, 0, none⟩) 1 1) rfl (by kernel_rfl) (by kernel_rfl) (by kernel_rfl) (fun _ _ _ h => h) (.inl ⟨by rfl, fun _ _ => rfl⟩) hS ?_
      simp only [Act.put, List.setIfInBounds_toArray, List.set_cons_zero, List.set_cons_succ, List.getElem_toArray, List.getElem_cons_zero]
      refine wpAnyH_take (i := 1) (v := .int .i64 0) rfl (by kernel_rfl) (by kernel_rfl) (by kernel_rfl) (fun _ _ _ h => h) (.inl ⟨by rfl, fun _ _ => rfl⟩) hS ?_
      simp only [Act.put, List.setIfInBounds_toArray, List.set_cons_zero, List.set_cons_succ, List.getElem_toArray, List.getElem_cons_succ, List.getElem_cons_zero]
      refine wpAnyH_take (i := 2) (v := .pointer (some ⟨g, 0, none⟩)) rfl (by kernel_rfl) (by kernel_rfl) (by kernel_rfl) (fun _ _ _ h => h) (.inl ⟨by rfl, fun _ _ => by go_simp⟩) hS ?_
      simp only [Act.put, List.setIfInBounds_toArray, List.set_cons_zero, List.set_cons_succ, List.getElem_toArray, List.getElem_cons_succ, List.getElem_cons_zero]
      refine wpAnyH_take (i := 3) (v := .int .u64 xv) rfl (by kernel_rfl) (by kernel_rfl) (by kernel_rfl) (fun _ _ _ h => h) (.inl ⟨by rfl, fun w' hw' => by have c := (HSE.out w' hw').cell HCR.out id; go_simp⟩) hS ?_
      simp only [Act.put, List.setIfInBounds_toArray, List.set_cons_zero, List.set_cons_succ, List.getElem_toArray, List.getElem_cons_succ, List.getElem_cons_zero]
      refine wpAnyH_take (i := 4) (v := .slice (some ⟨g', 0, none⟩) 1 1) rfl (by kernel_rfl) (by kernel_rfl) (by kernel_rfl) (fun _ _ _ h => h) (.inl ⟨by rfl, fun _ _ => rfl⟩) hS ?_
      simp only [Act.put, List.setIfInBounds_toArray, List.set_cons_zero, List.set_cons_succ, List.getElem_toArray, List.getElem_cons_succ, List.getElem_cons_zero]
      refine wpAnyH_take (i := 5) (v := .int .i64 0) rfl (by kernel_rfl) (by kernel_rfl) (by kernel_rfl) (fun _ _ _ h => h) (.inl ⟨by rfl, fun _ _ => rfl⟩) hS ?_
      simp only [Act.put, List.setIfInBounds_toArray, List.set_cons_zero, List.set_cons_succ, List.getElem_toArray, List.getElem_cons_succ, List.getElem_cons_zero]
      refine wpAnyH_take (i := 6) (v := .pointer (some ⟨g', 0, none⟩)) rfl (by kernel_rfl) (by kernel_rfl) (by kernel_rfl) (fun _ _ _ h => h) (.inl ⟨by rfl, fun _ _ => by go_simp⟩) hS ?_
      simp only [Act.put, List.setIfInBounds_toArray, List.set_cons_zero, List.set_cons_succ, List.getElem_toArray, List.getElem_cons_succ, List.getElem_cons_zero]
      refine wpAnyH_take (i := 7) (v := .int .u64 yv) rfl (by kernel_rfl) (by kernel_rfl) (by kernel_rfl) (fun _ _ _ h => h) (.inl ⟨by rfl, fun w' hw' => by have c := (HSE.out w' hw').cell HCR'.out id; go_simp⟩) hS ?_
      simp only [Act.put, List.setIfInBounds_toArray, List.set_cons_zero, List.set_cons_succ, List.getElem_toArray, List.getElem_cons_succ, List.getElem_cons_zero]
      refine wpAnyH_take (i := 8) (v := .int .u64 0) rfl (by kernel_rfl) (by kernel_rfl) (by kernel_rfl) (fun _ _ _ h => h) (.inl ⟨by rfl, fun _ _ => by go_simp⟩) hS ?_
      simp only [Act.put, List.setIfInBounds_toArray, List.set_cons_zero, List.set_cons_succ, List.getElem_toArray, List.getElem_cons_succ, List.getElem_cons_zero]
      refine wpAnyH_take (i := 9) (v := .bool false) rfl (by kernel_rfl) (by kernel_rfl) (by kernel_rfl) (fun _ _ _ h => h) (.inl ⟨by rfl, fun _ _ => by go_simp⟩) hS ?_
      simp only [Act.put, List.setIfInBounds_toArray, List.set_cons_zero, List.set_cons_succ, List.getElem_toArray, List.getElem_cons_succ, List.getElem_cons_zero]
      refine wpAnyH_done (by kernel_rfl) ?_ _
      have HKR := Lib.hid (HSE.out _ hS)
      clear hS HSE HSI
      have HKM := Lib.hid (HKM.out.trans HKR.out)
      clear h2
      go_wp2_with fail
      go_roundw
      case rel => exact ⟨1, by omega, rfl, Lib.hid (by simp), HKM⟩
      case measure => simp [intOf]
    · have hd : (r != 0) = true := by simp [h0]
      have hd0 : decide (r = 0) = false := decide_eq_false h0
      go_wp2_with fail
      have HKM := Lib.hid HKR.out
      obtain ⟨S, hS0⟩ : ∃ S : World → Prop, S = fun w' => Keep noBlk wr w' := ⟨_, rfl⟩
      have HSE := Lib.hid (show ∀ w', S w' → Keep noBlk wr w' from fun w' h => by rw [hS0] at h; exact h)
      have HSI := Lib.hid (show ∀ w', Keep noBlk wr w' → S w' from fun w' h => by rw [hS0]; exact h)
      have hS : S wr.drew := by rw [hS0]; exact (Keep.refl _ _).drew
      clear hS0
      refine wp_region_held (S := S) (by kernel_rfl) ?_
      change wpAnyH _ _ _ _ _ _ _ _ wr.drew
      generalize wr.drew = w1 at hS ⊢
      refine wpAnyH_take (i := 0) (v := .slice (some ⟨g, 0, none⟩) 1 1) rfl (by kernel_rfl) (by kernel_rfl) (by kernel_rfl) (fun _ _ _ h => h) (.inl ⟨by rfl, fun _ _ => rfl⟩) hS ?_
      simp only [Act.put, List.setIfInBounds_toArray, List.set_cons_zero, List.set_cons_succ, List.getElem_toArray, List.getElem_cons_zero]
      refine wpAnyH_take (i := 1) (v := .int .i64 0) rfl (by kernel_rfl) (by kernel_rfl) (by kernel_rfl) (fun _ _ _ h => h) (.inl ⟨by rfl, fun _ _ => rfl⟩) hS ?_
      simp only [Act.put, List.setIfInBounds_toArray, List.set_cons_zero, List.set_cons_succ, List.getElem_toArray, List.getElem_cons_succ, List.getElem_cons_zero]
      refine wpAnyH_take (i := 2) (v := .pointer (some ⟨g, 0, none⟩)) rfl (by kernel_rfl) (by kernel_rfl) (by kernel_rfl) (fun _ _ _ h => h) (.inl ⟨by rfl, fun _ _ => by go_simp⟩) hS ?_
      simp only [Act.put, List.setIfInBounds_toArray, List.set_cons_zero, List.set_cons_succ, List.getElem_toArray, List.getElem_cons_succ, List.getElem_cons_zero]
      refine wpAnyH_take (i := 3) (v := .int .u64 xv) rfl (by kernel_rfl) (by kernel_rfl) (by kernel_rfl) (fun _ _ _ h => h) (.inl ⟨by rfl, fun w' hw' => by have c := (HSE.out w' hw').cell HCR.out id; go_simp⟩) hS ?_
      simp only [Act.put, List.setIfInBounds_toArray, List.set_cons_zero, List.set_cons_succ, List.getElem_toArray, List.getElem_cons_succ, List.getElem_cons_zero]
      refine wpAnyH_take (i := 4) (v := .slice (some ⟨g', 0, none⟩) 1 1) rfl (by kernel_rfl) (by kernel_rfl) (by kernel_rfl) (fun _ _ _ h => h) (.inl ⟨by rfl, fun _ _ => rfl⟩) hS ?_
      simp only [Act.put, List.setIfInBounds_toArray, List.set_cons_zero, List.set_cons_succ, List.getElem_toArray, List.getElem_cons_succ, List.getElem_cons_zero]
      refine wpAnyH_take (i := 5) (v := .int .i64 0) rfl (by kernel_rfl) (by kernel_rfl) (by kernel_rfl) (fun _ _ _ h => h) (.inl ⟨by rfl, fun _ _ => rfl⟩) hS ?_
      simp only [Act.put, List.setIfInBounds_toArray, List.set_cons_zero, List.set_cons_succ, List.getElem_toArray, List.getElem_cons_succ, List.getElem_cons_zero]
      refine wpAnyH_take (i := 6) (v := .pointer (some ⟨g', 0, none⟩)) rfl (by kernel_rfl) (by kernel_rfl) (by kernel_rfl) (fun _ _ _ h => h) (.inl ⟨by rfl, fun _ _ => by go_simp⟩) hS ?_
      simp only [Act.put, List.setIfInBounds_toArray, List.set_cons_zero, List.set_cons_succ, List.getElem_toArray, List.getElem_cons_succ, List.getElem_cons_zero]
      refine wpAnyH_take (i := 7) (v := .int .u64 yv) rfl (by kernel_rfl) (by kernel_rfl) (by kernel_rfl) (fun _ _ _ h => h) (.inl ⟨by rfl, fun w' hw' => by have c := (HSE.out w' hw').cell HCR'.out id; go_simp⟩) hS ?_
      simp only [Act.put, List.setIfInBounds_toArray, List.set_cons_zero, List.set_cons_succ, List.getElem_toArray, List.getElem_cons_succ, List.getElem_cons_zero]
      refine wpAnyH_take (i := 8) (v := .int .u64 r) rfl (by kernel_rfl) (by kernel_rfl) (by kernel_rfl) (fun _ _ _ h => h) (.inl ⟨by rfl, fun _ _ => by go_simp⟩) hS ?_
      simp only [Act.put, List.setIfInBounds_toArray, List.set_cons_zero, List.set_cons_succ, List.getElem_toArray, List.getElem_cons_succ, List.getElem_cons_zero]
      refine wpAnyH_take (i := 9) (v := .bool true) rfl (by kernel_rfl) (by kernel_rfl) (by kernel_rfl) (fun _ _ _ h => h) (.inl ⟨by rfl, fun _ _ => by go_simp⟩) hS ?_
      simp only [Act.put, List.setIfInBounds_toArray, List.set_cons_zero, List.set_cons_succ, List.getElem_toArray, List.getElem_cons_succ, List.getElem_cons_zero]
      refine wpAnyH_done (by kernel_rfl) ?_ _
      have HKR := Lib.hid (HSE.out _ hS)
      clear hS HSE HSI
      have HKM := Lib.hid (HKM.out.trans HKR.out)
      have hbf : b = false := by rw [← H3.out]; exact hd0
      subst hbf
      clear h2
      go_wp2_with fail
      go_ret
      exact ⟨rfl, HKM.out⟩
  · obtain rfl : k = 1 := by omega
    have hr0 := HZ.out rfl
    have hbt : b = true := by rw [← H3.out]; exact decide_eq_true hr0
    subst hbt
    clear hr0
    go_wp2_with fail
    go_ret
    exact ⟨rfl, HKR.out⟩
end Go.Proofs.Ytmilgaoilglmjaa
