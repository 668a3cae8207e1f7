/-
  The document's Freed, Unique, All, Referenced, Shared.
  Conditions: at most 20 holders of at most 100 addresses.
-/
import Derived.Test.YtmilgaoilglmjaaRefU
import Derived.Test.YtmilgaoilglmjaaRSetAddr
namespace Go.Proofs.Ytmilgaoilglmjaa
open Go.RowKit Go.Maps Go.ChangeMaps
set_option maxRecDepth 100000
set_option linter.unusedVariables false

theorem tgI_in (dr : List Int) (i : Nat) : tgI dr false i = true ↔ (i : Int) ∈ dr := by unfold tgI; simp
theorem tgI_out (dr : List Int) (i : Nat) : tgI dr true i = true ↔ (i : Int) ∉ dr := by unfold tgI; simp
theorem flat_at {hs : List (List Ad)} {a : Ad} : a ∈ hs.flatten ↔ ∃ (j : Nat) (L : List Ad), hs[j]? = some L ∧ a ∈ L := by
  constructor
  · intro h
    obtain ⟨L, hL, ha⟩ := List.mem_flatten.1 h
    obtain ⟨j, hj⟩ := List.getElem?_of_mem hL
    exact ⟨j, L, hj, ha⟩
  · rintro ⟨j, L, hj, ha⟩
    exact List.mem_flatten.2 ⟨L, List.mem_of_getElem? hj, ha⟩
theorem at_lt {hs : List (List Ad)} {j : Nat} {L : List Ad} (h : hs[j]? = some L) : j < hs.length := (List.getElem?_eq_some_iff.1 h).1
theorem mem_tg (hs : List (List Ad)) (dr : List Int) (out : Bool) (a : Ad) : a ∈ tgR hs dr out hs.length ↔ ∃ (j : Nat) (L : List Ad), tgI dr out j = true ∧ hs[j]? = some L ∧ a ∈ L := by
  rw [mem_tgR]
  constructor
  · rintro ⟨j, -, h1, L, h2, h3⟩; exact ⟨j, L, h1, h2, h3⟩
  · rintro ⟨j, L, h1, h2, h3⟩; exact ⟨j, at_lt h2, h1, L, h2, h3⟩
theorem sub_word {hs : List (List Ad)} (h64 : hs.length ≤ 64) (dr : List Int) (a : Ad) : subB (hw hs a) (wordOf hs.length dr) = true ↔ ∀ (j : Nat) (L : List Ad), hs[j]? = some L → a ∈ L → (j : Int) ∈ dr := by
  rw [subB_iff]
  constructor
  · intro h j L hj ha
    have hlt := at_lt hj
    exact ((wordOf_bit _ h64 dr j (by omega)).1 (h j (by omega) ((hw_bit hs h64 a j (by omega)).2 ⟨L, hj, ha⟩))).2
  · intro h j hj hb
    obtain ⟨L, hL, ha⟩ := (hw_bit hs h64 a j hj).1 hb
    exact (wordOf_bit _ h64 dr j hj).2 ⟨at_lt hL, h j L hL ha⟩
theorem word_sub {hs : List (List Ad)} (h64 : hs.length ≤ 64) (dr : List Int) (a : Ad) : subB (wordOf hs.length dr) (hw hs a) = true ↔ ∀ (j : Nat) (L : List Ad), hs[j]? = some L → (j : Int) ∈ dr → a ∈ L := by
  rw [subB_iff]
  constructor
  · intro h j L hj hd
    have hlt := at_lt hj
    obtain ⟨L', hL', ha⟩ := (hw_bit hs h64 a j (by omega)).1 (h j (by omega) ((wordOf_bit _ h64 dr j (by omega)).2 ⟨hlt, hd⟩))
    rw [hj] at hL'
    cases hL'
    exact ha
  · intro h j hj hb
    obtain ⟨hlt, hd⟩ := (wordOf_bit _ h64 dr j hj).1 hb
    exact (hw_bit hs h64 a j hj).2 ⟨hs[j], List.getElem?_eq_getElem hlt, h j _ (List.getElem?_eq_getElem hlt) hd⟩
theorem word_some {hs : List (List Ad)} (h64 : hs.length ≤ 64) (dr : List Int) : someB (wordOf hs.length dr) = true ↔ ∃ (j : Nat) (L : List Ad), hs[j]? = some L ∧ (j : Int) ∈ dr := by
  rw [someB_iff]
  constructor
  · rintro ⟨j, hj, hb⟩
    obtain ⟨hlt, hd⟩ := (wordOf_bit _ h64 dr j hj).1 hb
    exact ⟨j, _, List.getElem?_eq_getElem hlt, hd⟩
  · rintro ⟨j, L, hj, hd⟩
    have hlt := at_lt hj
    exact ⟨j, by omega, (wordOf_bit _ h64 dr j (by omega)).2 ⟨hlt, hd⟩⟩
theorem freed_eq {hs : List (List Ad)} (h64 : hs.length ≤ 64) (dr : List Int) :
    canon ((canon (tgR hs dr false hs.length)).filter fun x => !decide (x ∈ canon (tgR hs dr true hs.length))) = canon (hs.flatten.filter fun a => subB (hw hs a) (wordOf hs.length dr)) := canon_congr fun a => by
  rw [List.mem_filter, List.mem_filter, mem_canon, mem_tg, sub_word h64, flat_at]
  simp only [Bool.not_eq_true', decide_eq_false_iff_not, mem_canon, mem_tg]
  constructor
  · rintro ⟨⟨j, L, -, h2, h3⟩, h4⟩
    exact ⟨⟨j, L, h2, h3⟩, fun i M hi ha => Classical.byContradiction fun hc => h4 ⟨i, M, (tgI_out _ _).2 hc, hi, ha⟩⟩
  · rintro ⟨⟨j, L, h2, h3⟩, h4⟩
    exact ⟨⟨j, L, (tgI_in _ _).2 (h4 j L h2 h3), h2, h3⟩, fun ⟨i, M, h5, h6, h7⟩ => (tgI_out _ _).1 h5 (h4 i M h6 h7)⟩
theorem all_eq (hs : List (List Ad)) : canon (tgR hs [] true hs.length) = canon hs.flatten := canon_congr fun a => by
  rw [mem_tg, flat_at]
  constructor
  · rintro ⟨j, L, -, h⟩; exact ⟨j, L, h⟩
  · rintro ⟨j, L, h⟩; exact ⟨j, L, (tgI_out _ _).2 (by simp), h⟩
theorem ref_eq {hs : List (List Ad)} (h64 : hs.length ≤ 64) (i : Int) : canon (tgR hs [i] false hs.length) = canon (hs.flatten.filter fun a => refB hs.length i (hw hs a)) := canon_congr fun a => by
  rw [mem_tg, List.mem_filter, flat_at]
  unfold refB
  simp only [Bool.and_eq_true, decide_eq_true_eq]
  constructor
  · rintro ⟨j, L, h1, h2, h3⟩
    have hd := (tgI_in _ _).1 h1
    rw [List.mem_singleton] at hd
    subst hd
    have hlt := at_lt h2
    exact ⟨⟨j, L, h2, h3⟩, by omega, (hw_bit hs h64 a _ (by omega)).2 ⟨L, h2, h3⟩⟩
  · rintro ⟨-, ⟨h1, h2⟩, h3⟩
    obtain ⟨L, hL, ha⟩ := (hw_bit hs h64 a _ (by omega)).1 h3
    exact ⟨i.toNat, L, (tgI_in _ _).2 (by rw [List.mem_singleton]; omega), hL, ha⟩
/-- What the drained holders below k share. -/
def shR (hs : List (List Ad)) (dr : List Int) (k : Nat) : List Ad := canon ((tgR hs dr false hs.length).filter fun a => (List.range k).all fun j => !decide ((j : Int) ∈ dr) || decide (a ∈ hs.getD j []))
theorem shR_zero (hs : List (List Ad)) (dr : List Int) : shR hs dr 0 = canon (tgR hs dr false hs.length) := by unfold shR; congr 1; exact List.filter_eq_self.2 (by simp)
theorem mem_shR (hs : List (List Ad)) (dr : List Int) (k : Nat) (a : Ad) : a ∈ shR hs dr k ↔ a ∈ tgR hs dr false hs.length ∧ ∀ j, j < k → (j : Int) ∈ dr → a ∈ hs.getD j [] := by
  unfold shR
  rw [mem_canon, List.mem_filter, List.all_eq_true]
  refine and_congr_right fun _ => ?_
  constructor
  · intro h j hj hd
    have := h j (List.mem_range.2 hj)
    simpa [hd] using this
  · intro h j hj
    have this := h j (List.mem_range.1 hj)
    by_cases hd : (j : Int) ∈ dr
    · rw [Bool.or_eq_true]; exact Or.inr (decide_eq_true (this hd))
    · simp [hd]
theorem shR_skip {hs : List (List Ad)} {dr : List Int} {k : Nat} (h : (k : Int) ∉ dr) : shR hs dr (k + 1) = shR hs dr k := by
  have e : shR hs dr (k + 1) = canon (shR hs dr (k + 1)) := canon_eq (canon_rises _) fun _ => Iff.rfl
  have e' : shR hs dr k = canon (shR hs dr k) := canon_eq (canon_rises _) fun _ => Iff.rfl
  rw [e, e']
  refine canon_congr fun a => ?_
  rw [mem_shR, mem_shR]
  refine and_congr_right fun _ => ⟨fun h1 j hj => h1 j (by omega), fun h1 j hj hd => ?_⟩
  rcases Nat.lt_succ_iff_lt_or_eq.1 hj with h2 | h2
  · exact h1 j h2 hd
  · exact absurd (h2 ▸ hd) h
theorem shR_both {hs : List (List Ad)} {dr : List Int} {k : Nat} {L : List Ad} (hL : hs[k]? = some L) (h : (k : Int) ∈ dr) : canon ((shR hs dr k).filter fun x => decide (x ∈ L)) = shR hs dr (k + 1) := by
  have e : shR hs dr (k + 1) = canon (shR hs dr (k + 1)) := canon_eq (canon_rises _) fun _ => Iff.rfl
  rw [e]
  refine canon_congr fun a => ?_
  rw [List.mem_filter, mem_shR, mem_shR, decide_eq_true_eq, and_assoc]
  have hg : hs.getD k [] = L := by rw [List.getD_eq_getElem?_getD, hL]; rfl
  refine and_congr_right fun _ => ⟨fun h1 j hj hd => ?_, fun h1 => ⟨fun j hj => h1 j (by omega), ?_⟩⟩
  · rcases Nat.lt_succ_iff_lt_or_eq.1 hj with h2 | h2
    · exact h1.1 j h2 hd
    · subst h2; rw [hg]; exact h1.2
  · rw [← hg]; exact h1 k (by omega) h
theorem shared_eq {hs : List (List Ad)} (h64 : hs.length ≤ 64) (dr : List Int) : shR hs dr hs.length = canon (hs.flatten.filter fun a => (someB (wordOf hs.length dr) && subB (wordOf hs.length dr) (hw hs a))) := by
  have e : shR hs dr hs.length = canon (shR hs dr hs.length) := canon_eq (canon_rises _) fun _ => Iff.rfl
  rw [e]
  refine canon_congr fun a => ?_
  rw [mem_shR, List.mem_filter, Bool.and_eq_true, word_some h64, word_sub h64, flat_at, mem_tg]
  constructor
  · rintro ⟨⟨j, L, h1, h2, h3⟩, h4⟩
    refine ⟨⟨j, L, h2, h3⟩, ⟨j, L, h2, (tgI_in _ _).1 h1⟩, fun i M hi hd => ?_⟩
    have := h4 i (at_lt hi) hd
    rwa [List.getD_eq_getElem?_getD, hi] at this
  · rintro ⟨-, ⟨j, L, h2, h3⟩, h4⟩
    refine ⟨⟨j, L, (tgI_in _ _).2 h3, h2, h4 j L h2 h3⟩, fun i hi hd => ?_⟩
    rw [List.getD_eq_getElem?_getD, List.getElem?_eq_getElem hi]
    exact h4 i _ (List.getElem?_eq_getElem hi) hd
theorem tg_len {hs : List (List Ad)} (h20 : hs.length ≤ 20) (h100 : ∀ L ∈ hs, L.length ≤ 100) (dr : List Int) (out : Bool) : (canon (tgR hs dr out hs.length)).length ≤ 2000 := by
  have h1 := canon_len (tgR hs dr out hs.length)
  have h2 := tgR_len h100 dr out hs.length
  omega
theorem sh_len {hs : List (List Ad)} (h20 : hs.length ≤ 20) (h100 : ∀ L ∈ hs, L.length ≤ 100) (dr : List Int) (k : Nat) : (shR hs dr k).length ≤ 2000 := by
  have h1 := canon_len ((tgR hs dr false hs.length).filter fun a => (List.range k).all fun j => !decide ((j : Int) ∈ dr) || decide (a ∈ hs.getD j []))
  have h2 := tgR_len h100 dr false hs.length
  have h3 := List.length_filter_le (fun a => (List.range k).all fun j => !decide ((j : Int) ∈ dr) || decide (a ∈ hs.getD j [])) (tgR hs dr false hs.length)
  unfold shR
  omega

set_option maxHeartbeats 4000000 in
theorem rfreed_any (w : World) (v vd : Value) (hs : List (List Ad)) (dr : List Int) (hr : Rows2 w v hs) (h20 : hs.length ≤ 20) (h100 : ∀ L ∈ hs, L.length ≤ 100) (hrd : Rd w 1 vd dr.length (dr.map fun x => .int .i64 x)) : Calls Try.prog 17 #[v, vd] w (ListPost w (canon (hs.flatten.filter fun a => subB (hw hs a) (wordOf hs.length dr)))) := by
  rw [← freed_eq (by omega)]
  have H1 := Lib.hid (together_any w v vd hs dr false hr h20 h100 hrd)
  have H2 := Lib.hid (fun w' (k : Keep noBlk w w') => together_any w' v vd hs dr true (hr.keep k) h20 h100 (hrd.keep k fun _ _ => id))
  have l1 := tg_len h20 h100 dr false
  obtain ⟨A, hA⟩ : ∃ A, canon (tgR hs dr false hs.length) = A := ⟨_, rfl⟩
  obtain ⟨B, hB⟩ : ∃ B, canon (tgR hs dr true hs.length) = B := ⟨_, rfl⟩
  rw [hA] at H1 l1 ⊢
  rw [hB] at H2 ⊢
  obtain ⟨U, hU⟩ : ∃ U, canon (A.filter fun x => !decide (x ∈ B)) = U := ⟨_, rfl⟩
  have HU := Lib.hid hU
  rw [hU]
  obtain ⟨oa, ca, rfl, hlm⟩ := hr.form
  obtain ⟨n, hn⟩ : ∃ n, hs.length = n := ⟨_, rfl⟩
  obtain ⟨da, dc, rfl, -, -⟩ := hrd.form
  obtain ⟨dn, hdn⟩ : ∃ n, dr.length = n := ⟨_, rfl⟩
  rw [hn] at H1 H2
  rw [hdn] at H1 H2
  rw [hn, hdn]
  clear hr hrd hlm hn hdn hA hB hU h100 h20
  have HL := Lib.hid l1
  clear l1
  go_enter Try.func17, Try.ntmps17
  go_wp2_with fail
  refine H1.out.mono ?_
  rintro e w1 ⟨v1, rfl, ho1, hk1⟩
  obtain ⟨a1, c1, rfl, -, -⟩ := (Rd.of_owns ho1).form
  have HO1 := Lib.hid ho1; have HK1 := Lib.hid hk1
  clear ho1 hk1 H1
  go_wp2_with fail
  refine (H2.out w1 HK1.out).mono ?_
  rintro e w2 ⟨v2, rfl, ho2, hk2⟩
  obtain ⟨a2, c2, rfl, -, -⟩ := (Rd.of_owns ho2).form
  have HRA := Lib.hid ((Rd.of_owns HO1.out).keep hk2 fun _ _ => id); have HRB := Lib.hid (Rd.of_owns ho2); have HK2 := Lib.hid (HK1.out.trans hk2)
  clear ho2 hk2 H2 HO1 HK1
  go_wp2_with fail
  refine (told_u (rminus_any w2 _ _ A B HRA.out HRB.out (by have := HL.out; omega)) HU.out).mono ?_
  rintro e wf ⟨v, rfl, ho2, hk4⟩
  obtain ⟨va, vc, rfl, -, -⟩ := (Rd.of_owns ho2).form
  have HOF := Lib.hid (ownsRow_mono ho2 HK2.out.size); have HKF := Lib.hid (HK2.out.trans hk4)
  clear ho2 hk4
  go_wp2_with fail
  go_ret
  exact ⟨_, rfl, HOF.out, HKF.out⟩

set_option maxHeartbeats 4000000 in
theorem runique_any (w : World) (v : Value) (hs : List (List Ad)) (i : Int) (hr : Rows2 w v hs) (h20 : hs.length ≤ 20) (h100 : ∀ L ∈ hs, L.length ≤ 100) : Calls Try.prog 15 #[v, .int .i64 i] w (ListPost w (canon (hs.flatten.filter fun a => subB (hw hs a) (wordOf hs.length [i])))) := by
  obtain ⟨w2, hw2, hk2, hb2, hs2⟩ := alloc_facts w #[.int .i64 i] 3
  have C := rfreed_any w2 v (.slice (some ⟨w.heap.size, 0, none⟩) 1 1) hs [i] (hr.keep hk2) h20 h100 (rd_blk (n := 1) (size := 1) (vs := [.int .i64 i]) hb2 rfl (by unfold maxLen; omega))
  obtain ⟨U, hU⟩ : ∃ U, canon (hs.flatten.filter fun a => subB (hw hs a) (wordOf hs.length [i])) = U := ⟨_, rfl⟩
  rw [hU] at C ⊢
  have C := Lib.hid C
  obtain ⟨oa, ca, rfl, hlm⟩ := hr.form
  obtain ⟨n, hn⟩ : ∃ n, hs.length = n := ⟨_, rfl⟩
  have HK2 := Lib.hid hk2; have HW2 := Lib.hid hw2
  have hsz := hk2.size
  rw [hn] at C ⊢
  clear hr hlm hn hU hk2 hb2 hs2 hw2 h100 h20
  go_enter Try.func15, Try.ntmps15
  go_wp2_with fail
  rw [HW2.out]
  refine C.out.mono ?_
  rintro e wf ⟨v, rfl, ho2, hk4⟩
  obtain ⟨va, vc, rfl, -, -⟩ := (Rd.of_owns ho2).form
  have HKF := Lib.hid (HK2.out.trans hk4)
  have HOF := Lib.hid (ownsRow_mono ho2 hsz)
  clear ho2 hk4 C
  go_wp2_with fail
  go_ret
  exact ⟨_, rfl, HOF.out, HKF.out⟩

set_option maxHeartbeats 4000000 in
theorem rall_any (w : World) (v : Value) (hs : List (List Ad)) (hr : Rows2 w v hs) (h20 : hs.length ≤ 20) (h100 : ∀ L ∈ hs, L.length ≤ 100) : Calls Try.prog 16 #[v] w (ListPost w (canon hs.flatten)) := by
  rw [← all_eq]
  have C := together_any w v (.slice none 0 0) hs [] true hr h20 h100 (Rd.nil _ _)
  obtain ⟨U, hU⟩ : ∃ U, canon (tgR hs [] true hs.length) = U := ⟨_, rfl⟩
  rw [hU] at C ⊢
  have C := Lib.hid C
  obtain ⟨oa, ca, rfl, hlm⟩ := hr.form
  obtain ⟨n, hn⟩ : ∃ n, hs.length = n := ⟨_, rfl⟩
  have HK2 := Lib.hid (Keep.refl noBlk w)
  have hsz : w.heap.size ≤ w.heap.size := Nat.le_refl _
  rw [hn] at C ⊢
  clear hr hlm hn hU h100 h20
  go_enter Try.func16, Try.ntmps16
  go_wp2_with fail
  refine C.out.mono ?_
  rintro e wf ⟨v, rfl, ho2, hk4⟩
  obtain ⟨va, vc, rfl, -, -⟩ := (Rd.of_owns ho2).form
  have HKF := Lib.hid (HK2.out.trans hk4)
  have HOF := Lib.hid (ownsRow_mono ho2 hsz)
  clear ho2 hk4 C
  go_wp2_with fail
  go_ret
  exact ⟨_, rfl, HOF.out, HKF.out⟩

set_option maxHeartbeats 4000000 in
theorem rreferenced_any (w : World) (v : Value) (hs : List (List Ad)) (i : Int) (hr : Rows2 w v hs) (h20 : hs.length ≤ 20) (h100 : ∀ L ∈ hs, L.length ≤ 100) : Calls Try.prog 23 #[v, .int .i64 i] w (RefPost w (canon (hs.flatten.filter fun a => refB hs.length i (hw hs a))).length) := by
  rw [← ref_eq (by omega)]
  obtain ⟨w2, hw2, hk2, hb2, hs2⟩ := alloc_facts w #[.int .i64 i] 3
  have C := together_any w2 v (.slice (some ⟨w.heap.size, 0, none⟩) 1 1) hs [i] false (hr.keep hk2) h20 h100 (rd_blk (n := 1) (size := 1) (vs := [.int .i64 i]) hb2 rfl (by unfold maxLen; omega))
  obtain ⟨U, hU⟩ : ∃ U, canon (tgR hs [i] false hs.length) = U := ⟨_, rfl⟩
  rw [hU] at C ⊢
  have C := Lib.hid C
  obtain ⟨oa, ca, rfl, hlm⟩ := hr.form
  obtain ⟨n, hn⟩ : ∃ n, hs.length = n := ⟨_, rfl⟩
  have HK2 := Lib.hid hk2; have HW2 := Lib.hid hw2
  have hsz := hk2.size
  rw [hn] at C ⊢
  clear hr hlm hn hU hk2 hb2 hs2 hw2 h100 h20
  go_enter Try.func23, Try.ntmps23
  go_wp2_with fail
  rw [HW2.out]
  refine C.out.mono ?_
  rintro e wf ⟨v, rfl, ho2, hk4⟩
  obtain ⟨va, vc, rfl, -, -⟩ := (Rd.of_owns ho2).form
  have HKF := Lib.hid (HK2.out.trans hk4)
  clear ho2 hk4 C
  go_wp2_with fail
  go_ret
  exact ⟨rfl, HKF.out⟩

set_option maxHeartbeats 4000000 in
theorem rshared_any (w : World) (v vd : Value) (hs : List (List Ad)) (dr : List Int) (hr : Rows2 w v hs) (h20 : hs.length ≤ 20) (h100 : ∀ L ∈ hs, L.length ≤ 100) (hrd : Rd w 1 vd dr.length (dr.map fun x => .int .i64 x)) : Calls Try.prog 18 #[v, vd] w (ListPost w (canon (hs.flatten.filter fun a => (someB (wordOf hs.length dr) && subB (wordOf hs.length dr) (hw hs a))))) := by
  rw [← shared_eq (by omega)]
  have H1 := Lib.hid (by have C := together_any w v vd hs dr false hr h20 h100 hrd; rw [← shR_zero] at C; exact C)
  have HSL := Lib.hid (sh_len h20 h100 dr)
  obtain ⟨oa, ca, rfl, hlm⟩ := hr.form
  obtain ⟨n, hn⟩ : ∃ n, hs.length = n := ⟨_, rfl⟩
  obtain ⟨da, dc, rfl, -, -⟩ := hrd.form
  obtain ⟨dn, hdn⟩ : ∃ n, dr.length = n := ⟨_, rfl⟩
  have HN := Lib.hid hn; have HR := Lib.hid hr; have HND := Lib.hid hdn; have HRD := Lib.hid hrd
  have HAM := Lib.hid (fun w i (h : Rd w 1 (.slice da dr.length dc) dr.length (dr.map fun x => .int .i64 x)) => among_any w (.slice da dr.length dc) dr i h)
  rw [hn] at HR h20 H1 ⊢
  rw [hdn] at HRD HAM H1 ⊢
  clear hr hrd hdn hlm hn h100
  obtain ⟨T, hT⟩ : ∃ T : Nat → List Ad, T = shR hs dr := ⟨_, rfl⟩
  rw [← hT] at H1 HSL ⊢
  have HT := Lib.hid hT
  clear hT
  go_enter Try.func18, Try.ntmps18
  go_wp2_with fail
  refine H1.out.mono ?_
  rintro e w1 ⟨v1, rfl, ho1, hk1⟩
  obtain ⟨a1, c1, rfl, -, -⟩ := (Rd.of_owns ho1).form
  obtain ⟨m1, hm1⟩ : ∃ m, (T 0).length = m := ⟨_, rfl⟩
  have HM1 := Lib.hid hm1; rw [hm1] at ho1
  have HO1 := Lib.hid ho1; have HK1 := Lib.hid hk1
  rw [hm1]
  clear ho1 hk1 H1 hm1
  go_wp2_with fail
  go_loopw [5, 6] (fun t i wr => ∃ (k m : Nat) (pa : Option Addr) (pc : Nat), k ≤ n ∧ i = .int .i64 k ∧ t = .slice pa m pc ∧ Hid ((T k).length = m) ∧ Hid (wr.ownsRow w.heap.size 25 2 (.slice pa m pc) m (adCells (T k))) ∧ Hid (Keep noBlk w wr)) (fun _ i _ => n - (intOf i).toNat)
  case atStart => exact ⟨0, m1, a1, c1, Nat.zero_le _, rfl, rfl, HM1, HO1, HK1⟩
  case round =>
  obtain ⟨k, m, pa, pc, hk, rfl, rfl, HM, HO, HK⟩ := hrel
  by_cases hlt : k < n
  · have hki : (k : Int) < (n : Int) := by omega
    have hk0 : (0 : Int) ≤ (k : Int) := by omega
    obtain ⟨L, hL⟩ : ∃ L, hs[k]? = some L := ⟨hs[k]'(by rw [HN.out]; exact hlt), List.getElem?_eq_getElem _⟩
    have HLE := Lib.hid hL
    have C := HAM.out wr (k : Int) (HRD.out.keep HK.out fun _ _ => id)
    obtain ⟨bi, hbi⟩ : ∃ b, decide ((k : Int) ∈ dr) = b := ⟨_, rfl⟩
    have HBI := Lib.hid hbi
    rw [hbi] at C
    have C := Lib.hid C
    clear hbi hL
    go_wp2_with fail
    refine C.out.mono ?_
    rintro e w2 ⟨rfl, hk1⟩
    have HO2 := Lib.hid (hk1.owns HO.out fun _ _ => id); have HK2 := Lib.hid (HK.out.trans hk1)
    clear hk1 C
    cases bi
    · have HTS : Hid (T (k + 1) = T k) := Lib.hid (by rw [HT.out]; exact shR_skip (of_decide_eq_false HBI.out))
      go_wp2_with fail
      go_roundw
      case rel => exact ⟨k + 1, m, _, _, by omega, by go_num, rfl, Lib.hid (by rw [HTS.out]; exact HM.out), Lib.hid (by rw [HTS.out]; exact HO2.out), HK2⟩
      case measure => simp [intOf]; omega
    · have HTS : Hid (canon ((T k).filter fun x => decide (x ∈ L)) = T (k + 1)) := Lib.hid (by rw [HT.out]; exact shR_both HLE.out (of_decide_eq_true HBI.out))
      have hr2 := HR.out.keep HK2.out
      obtain ⟨g, o, cap, a, c, hv, hcell, hrd⟩ := hr2.at HLE.out
      rw [HN.out] at hv
      have e1 : oa = some ⟨g, o, none⟩ := by cases hv; rfl
      subst e1
      have B := told_u (rboth_any w2 (.slice pa m pc) (.slice a L.length c) (T k) L (by rw [HM.out]; exact Rd.of_owns HO2.out) hrd (by have := HSL.out k; omega)) HTS.out
      obtain ⟨q, hq⟩ : ∃ q, L.length = q := ⟨_, rfl⟩
      rw [hq] at hcell B
      have B := Lib.hid B
      clear hr2 hv hrd hq
      go_wp2_with fail
      refine B.out.mono ?_
      rintro e w3 ⟨v3, rfl, ho3, hk3⟩
      obtain ⟨va, vc, rfl, -, -⟩ := (Rd.of_owns ho3).form
      obtain ⟨m3, hm3⟩ : ∃ m, (T (k + 1)).length = m := ⟨_, rfl⟩
      have HM3 := Lib.hid hm3; rw [hm3] at ho3
      have HO3 := Lib.hid (ownsRow_mono ho3 HK2.out.size); have HK3 := Lib.hid (HK2.out.trans hk3)
      rw [hm3]
      clear ho3 hk3 hm3 B hcell
      go_wp2_with fail
      go_roundw
      case rel => exact ⟨k + 1, m3, _, _, by omega, by go_num, rfl, HM3, HO3, HK3⟩
      case measure => simp [intOf]; omega
  · obtain rfl : k = n := by omega
    go_wp2_with fail
    go_ret
    exact ⟨_, rfl, by rw [HM.out]; exact HO.out, HK.out⟩

end Go.Proofs.Ytmilgaoilglmjaa
