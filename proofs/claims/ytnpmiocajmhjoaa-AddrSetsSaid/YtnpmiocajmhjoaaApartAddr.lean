/-
  Apart, by the program and by the document; OverAddrs; long, rises, within.
  Conditions: none.
-/
import Derived.Test.YtnpmiocajmhjoaaSetsAddr
namespace Go.Proofs.Ytnpmiocajmhjoaa
open Go.RowKit Go.Maps Go.ChangeMaps
set_option maxRecDepth 100000
set_option linter.unusedVariables false

theorem intEnc : KeyEnc Try.prog 3 In64 (fun n => .int .i64 n) where
  law := int_keyed Try.underlying3
  key a h := ⟨_, keyOf_int_mk Try.underlying3 (Go.WalkArith.wf_i64 h)⟩
  inj a c _ _ h := by injection h
def intV (n : Int) : Value := .int .i64 n
/-- The set that a list makes, in the order in which it comes about. -/
def setK {α : Type} [DecidableEq α] (l : List α) : List (α × Nix) := l.foldl (fun s a => upsert s a .nix) []
theorem mem_keysK {α : Type} [DecidableEq α] (l : List α) : ∀ x, x ∈ (setK l).map (·.1) ↔ x ∈ l := by
  suffices h : ∀ (l : List α) (s : List (α × Nix)) x, x ∈ (l.foldl (fun s a => upsert s a .nix) s).map (·.1) ↔ x ∈ s.map (·.1) ∨ x ∈ l by
    intro x
    have := h l [] x
    simpa [setK] using this
  intro l
  induction l with
  | nil => intro s x; simp
  | cons a l ih =>
    intro s x
    rw [List.foldl_cons, ih, List.mem_cons]
    have hu : x ∈ (upsert s a .nix).map (·.1) ↔ x ∈ s.map (·.1) ∨ x = a := by
      unfold upsert
      split
      · rename_i h
        have hk : (s.map fun p => if p.1 = a then (a, Nix.nix) else p).map (·.1) = s.map (·.1) := by
          rw [List.map_map]
          apply List.map_congr_left
          intro p _
          simp only [Function.comp]
          split
          · rename_i e; exact e.symm
          · rfl
        rw [hk]
        constructor
        · exact fun h => .inl h
        · rintro (h' | rfl)
          · exact h'
          · obtain ⟨p, hp, he⟩ := List.any_eq_true.1 h
            exact List.mem_map.2 ⟨p, hp, of_decide_eq_true he⟩
      · simp
    rw [hu]
    constructor
    · rintro ((h | h) | h) <;> simp [h]
    · rintro (h | h | h) <;> simp [h]
theorem setK_len {α : Type} [DecidableEq α] (l : List α) : (setK l).length ≤ l.length ∧ ((setK l).length = l.length → l.Nodup) ∧ (l.Nodup → (setK l).length = l.length) := by
  have hs : ∀ (l : List α) a, (setK (l ++ [a])).length = (setK l).length + if a ∈ l then 0 else 1 := by
    intro l a
    have : setK (l ++ [a]) = upsert (setK l) a .nix := by simp [setK]
    rw [this]
    unfold upsert
    by_cases h : a ∈ l
    · have h' := (mem_keysK l a).2 h
      obtain ⟨p, hp, he⟩ := List.mem_map.1 h'
      rw [if_pos (List.any_eq_true.2 ⟨p, hp, decide_eq_true he⟩), if_pos h, List.length_map]; rfl
    · rw [if_neg, if_neg h, List.length_append]; rfl
      intro hn
      obtain ⟨p, hp, he⟩ := List.any_eq_true.1 hn
      exact h ((mem_keysK l a).1 (List.mem_map.2 ⟨p, hp, of_decide_eq_true he⟩))
  suffices h : ∀ l : List α, (setK l.reverse).length ≤ l.length ∧ ((setK l.reverse).length = l.length → l.Nodup) ∧ (l.Nodup → (setK l.reverse).length = l.length) by
    have := h l.reverse
    rw [List.reverse_reverse, List.length_reverse] at this
    exact ⟨this.1, fun e => (List.reverse_perm l).nodup_iff.1 (this.2.1 e), fun e => this.2.2 ((List.reverse_perm l).nodup_iff.2 e)⟩
  intro l
  induction l with
  | nil => simp [setK]
  | cons a l ih =>
    have hr : a ∈ l.reverse ↔ a ∈ l := List.mem_reverse
    rw [List.reverse_cons, hs, List.length_cons, List.nodup_cons]
    split
    · rename_i h
      exact ⟨by omega, fun e => by omega, fun e => absurd (hr.1 h) e.1⟩
    · rename_i h
      exact ⟨by omega, fun e => ⟨fun h' => h (hr.2 h'), ih.2.1 (by omega)⟩, fun e => by rw [ih.2.2 e.2]⟩
theorem MapIs.lt' {α β : Type} {ok : α → Prop} {enc : α → Value} {ev : β → Value} {w : World} {b : Nat} {l : List (α × β)} (h : MapIs ok enc ev w b l) : b < w.heap.size := by
  obtain ⟨es, clock, hb, -⟩ := h
  exact lt_of_block hb
set_option maxHeartbeats 4000000 in
theorem rapart_any (w : World) (v : Value) (xs : List Ad) (hr : Rd w 2 v xs.length (adCells xs)) : Calls Try.prog 31 #[v] w fun e w' => e = .returned (.bool (decide ((xs.map (·.dev)).Nodup))) ∧ Keep noBlk w w' := by
  obtain ⟨oa, ca, rfl, -, hmm⟩ := hr.form
  have hmx_n : xs.length ≤ maxLen := by have h := hr.2; obtain ⟨a', cap', h1, h2, h3, -⟩ := h; omega
  unfold maxLen at hmx_n
  clear hmm
  have HR := Lib.hid hr
  obtain ⟨n, hn_n⟩ : ∃ n, xs.length = n := ⟨_, rfl⟩
  have HN := Lib.hid hn_n
  rw [hn_n] at HR hmx_n
  try rw [hn_n]
  clear hr hn_n
  obtain ⟨bb, hbb⟩ : ∃ b, decide ((xs.map (·.dev)).Nodup) = b := ⟨_, rfl⟩
  have HBB := Lib.hid hbb
  rw [hbb]
  clear hbb
  have HKW := Lib.hid (Keep.refl noBlk w)
  go_enter Try.func31, Try.ntmps31
  go_wp2_with fail
  go_loopw [3] (fun i wr => ∃ k : Nat, k ≤ n ∧ i = .int .i64 k ∧ Hid (((xs.take k).map (·.dev)).Nodup) ∧ Hid (Keep noBlk w wr)) (fun i _ => n - (intOf i).toNat)
  case atStart => exact ⟨0, Nat.zero_le _, rfl, Lib.hid (by simp), Lib.hid (Keep.refl _ _)⟩
  case round =>
  obtain ⟨k, hk, rfl, HT, HKR⟩ := hrel
  by_cases hlt : k < n
  · have HR := Lib.hid (HR.out.keep HKR.out fun _ _ => id)
    have HKW := Lib.hid (HKW.out.trans HKR.out)
    obtain ⟨x, h_x⟩ : ∃ x, xs[k]? = some x := ⟨xs[k]'(by rw [HN.out]; exact hlt), List.getElem?_eq_getElem _⟩
    have h_r := HR.out
    rw [← HN.out] at h_r
    obtain ⟨g, o, cap', h_v, h_at⟩ := rd_ad h_r h_x
    have e1 : oa = some ⟨g, o, none⟩ := by cases h_v; rfl
    subst e1
    have HX := Lib.hid h_at; have HE := Lib.hid h_x
    clear h_x h_r h_v h_at
    have HTX : Hid (xs.take (k + 1) = xs.take k ++ [x]) := Lib.hid (by rw [List.take_add_one, HE.out]; rfl)
    have hki : (k : Int) < (n : Int) := by omega
    have hk0 : (0 : Int) ≤ (k : Int) := by omega
    obtain ⟨xd, hxd⟩ : ∃ d, x.dev = d := ⟨_, rfl⟩
    have HXD := Lib.hid hxd
    clear hxd
    obtain ⟨wo, rfl⟩ : ∃ wo : World, wo = wr := ⟨_, rfl⟩
    go_wp2_with fail
    go_loopw [4] (fun i wr => ∃ j : Nat, j ≤ k ∧ i = .int .i64 j ∧ Hid (xd ∉ (xs.take j).map (·.dev)) ∧ Hid (Keep noBlk wo wr)) (fun i _ => k - (intOf i).toNat)
    case atStart => exact ⟨0, Nat.zero_le _, rfl, Lib.hid (by simp), Lib.hid (Keep.refl _ _)⟩
    case round =>
    obtain ⟨j, hj, rfl, HU, HKI⟩ := hrel
    have HKO := Lib.hid (Keep.refl noBlk wo)
    by_cases hlt2 : j < k
    · have HR := Lib.hid (HR.out.keep HKI.out fun _ _ => id)
      have HKW := Lib.hid (HKW.out.trans HKI.out)
      have HX := Lib.hid (HKI.out.rangeAt HX.out)
      have HKO := Lib.hid (HKO.out.trans HKI.out)
      obtain ⟨y, h_x⟩ : ∃ x, xs[j]? = some x := ⟨xs[j]'(by rw [HN.out]; exact (Nat.lt_trans hlt2 hlt)), List.getElem?_eq_getElem _⟩
      have h_r := HR.out
      rw [← HN.out] at h_r
      have h_at : wr.rangeAt g (o + j * 2) (adCs y) := by
        obtain ⟨g', o', cap', h_v, h_at⟩ := rd_ad h_r h_x
        cases h_v
        exact h_at
      have HY := Lib.hid h_at; have HYE := Lib.hid h_x
      clear h_x h_r h_at
      have HTY : Hid (xs.take (j + 1) = xs.take j ++ [y]) := Lib.hid (by rw [List.take_add_one, HYE.out]; rfl)
      obtain ⟨yd, hyd⟩ : ∃ d, y.dev = d := ⟨_, rfl⟩
      have HYD := Lib.hid hyd
      have hcx := HX.out 0 _ rfl
      have hcy := HY.out 0 _ rfl
      rw [HXD.out] at hcx
      rw [hyd] at hcy
      have HCX : Hid (wr.cell? ⟨g, o + k * 2, none⟩ = some (.int .i64 xd)) := Lib.hid hcx
      have HCY : Hid (wr.cell? ⟨g, o + j * 2, none⟩ = some (.int .i64 yd)) := Lib.hid hcy
      have hji : (j : Int) < (n : Int) := by omega
      have hj0 : (0 : Int) ≤ (j : Int) := by omega
      have hjk : (j : Int) < (k : Int) := by omega
      clear hyd hcx hcy
      by_cases hd : xd = yd
      · subst hd
        go_wp2_with fail
        obtain ⟨S, hS0⟩ : ∃ S : World → Prop, S = fun w' => Keep noBlk wr w' := ⟨_, rfl⟩
        have HSE := Lib.hid (show ∀ w', S w' → Keep noBlk wr w' from fun w' h => by rw [hS0] at h; exact h)
        have HSI := Lib.hid (show ∀ w', Keep noBlk wr w' → S w' from fun w' h => by rw [hS0]; exact h)
        have hS : S wr.drew := by rw [hS0]; exact (Keep.refl _ _).drew
        clear hS0
        refine wp_region_held (S := S) (by kernel_rfl) ?_
        change wpAnyH _ _ _ _ _ _ _ _ wr.drew
        generalize wr.drew = w1 at hS ⊢
        refine wpAnyH_take (i := 0) (v := .slice (some ⟨g, o, none⟩) n ca) rfl (by kernel_rfl) (by kernel_rfl) (by kernel_rfl) (fun _ _ _ h => h) (.inl ⟨by rfl, fun _ _ => rfl⟩) hS ?_
        simp only [Act.put, List.setIfInBounds_toArray, List.set_cons_zero, List.set_cons_succ, List.getElem_toArray, List.getElem_cons_zero]
        refine wpAnyH_take (i := 1) (v := .int .i64 k) rfl (by kernel_rfl) (by kernel_rfl) (by kernel_rfl) (fun _ _ _ h => h) (.inl ⟨by rfl, fun _ _ => rfl⟩) hS ?_
        simp only [Act.put, List.setIfInBounds_toArray, List.set_cons_zero, List.set_cons_succ, List.getElem_toArray, List.getElem_cons_succ, List.getElem_cons_zero]
        refine wpAnyH_take (i := 2) (v := .pointer (some ⟨g, o + k * 2, none⟩)) rfl (by kernel_rfl) (by kernel_rfl) (by kernel_rfl) (fun _ _ _ h => h) (.inl ⟨by rfl, fun _ _ => by go_simp⟩) hS ?_
        simp only [Act.put, List.setIfInBounds_toArray, List.set_cons_zero, List.set_cons_succ, List.getElem_toArray, List.getElem_cons_succ, List.getElem_cons_zero]
        refine wpAnyH_take (i := 3) (v := .pointer (some ⟨g, o + k * 2, none⟩)) rfl (by kernel_rfl) (by kernel_rfl) (by kernel_rfl) (fun _ _ _ h => h) (.inl ⟨by rfl, fun _ _ => by go_simp⟩) hS ?_
        simp only [Act.put, List.setIfInBounds_toArray, List.set_cons_zero, List.set_cons_succ, List.getElem_toArray, List.getElem_cons_succ, List.getElem_cons_zero]
        refine wpAnyH_take (i := 4) (v := .int .i64 xd) rfl (by kernel_rfl) (by kernel_rfl) (by kernel_rfl) (fun _ _ _ h => h) (.inl ⟨by rfl, fun w' hw' => by have c := (HSE.out w' hw').cell HCX.out id; go_simp⟩) hS ?_
        simp only [Act.put, List.setIfInBounds_toArray, List.set_cons_zero, List.set_cons_succ, List.getElem_toArray, List.getElem_cons_succ, List.getElem_cons_zero]
        refine wpAnyH_take (i := 5) (v := .slice (some ⟨g, o, none⟩) n ca) rfl (by kernel_rfl) (by kernel_rfl) (by kernel_rfl) (fun _ _ _ h => h) (.inl ⟨by rfl, fun _ _ => rfl⟩) hS ?_
        simp only [Act.put, List.setIfInBounds_toArray, List.set_cons_zero, List.set_cons_succ, List.getElem_toArray, List.getElem_cons_succ, List.getElem_cons_zero]
        refine wpAnyH_take (i := 6) (v := .int .i64 j) rfl (by kernel_rfl) (by kernel_rfl) (by kernel_rfl) (fun _ _ _ h => h) (.inl ⟨by rfl, fun _ _ => rfl⟩) hS ?_
        simp only [Act.put, List.setIfInBounds_toArray, List.set_cons_zero, List.set_cons_succ, List.getElem_toArray, List.getElem_cons_succ, List.getElem_cons_zero]
        refine wpAnyH_take (i := 7) (v := .pointer (some ⟨g, o + j * 2, none⟩)) rfl (by kernel_rfl) (by kernel_rfl) (by kernel_rfl) (fun _ _ _ h => h) (.inl ⟨by rfl, fun _ _ => by go_simp⟩) hS ?_
        simp only [Act.put, List.setIfInBounds_toArray, List.set_cons_zero, List.set_cons_succ, List.getElem_toArray, List.getElem_cons_succ, List.getElem_cons_zero]
        refine wpAnyH_take (i := 8) (v := .pointer (some ⟨g, o + j * 2, none⟩)) rfl (by kernel_rfl) (by kernel_rfl) (by kernel_rfl) (fun _ _ _ h => h) (.inl ⟨by rfl, fun _ _ => by go_simp⟩) hS ?_
        simp only [Act.put, List.setIfInBounds_toArray, List.set_cons_zero, List.set_cons_succ, List.getElem_toArray, List.getElem_cons_succ, List.getElem_cons_zero]
        refine wpAnyH_take (i := 9) (v := .int .i64 xd) rfl (by kernel_rfl) (by kernel_rfl) (by kernel_rfl) (fun _ _ _ h => h) (.inl ⟨by rfl, fun w' hw' => by have c := (HSE.out w' hw').cell HCY.out id; go_simp⟩) hS ?_
        simp only [Act.put, List.setIfInBounds_toArray, List.set_cons_zero, List.set_cons_succ, List.getElem_toArray, List.getElem_cons_succ, List.getElem_cons_zero]
        refine wpAnyH_take (i := 10) (v := .bool true) rfl (by kernel_rfl) (by kernel_rfl) (by kernel_rfl) (fun _ _ _ h => h) (.inl ⟨by rfl, fun _ _ => by go_simp⟩) hS ?_
        simp only [Act.put, List.setIfInBounds_toArray, List.set_cons_zero, List.set_cons_succ, List.getElem_toArray, List.getElem_cons_succ, List.getElem_cons_zero]
        refine wpAnyH_done (by kernel_rfl) ?_ _
        have HKR := Lib.hid (HSE.out _ hS)
        clear hS HSE HSI
        have HR := Lib.hid (HR.out.keep HKR.out fun _ _ => id)
        have HKW := Lib.hid (HKW.out.trans HKR.out)
        have HX := Lib.hid (HKR.out.rangeAt HX.out)
        have HKO := Lib.hid (HKO.out.trans HKR.out)
        have HY := Lib.hid (HKR.out.rangeAt HY.out)
        have hf : bb = false := by
          rw [← HBB.out]
          refine decide_eq_false fun hn => ?_
          have hs : ((xs.take (k + 1)).map (·.dev)).Nodup := (((List.take_sublist (k + 1) xs).map _).nodup hn)
          rw [HTX.out, List.map_append, List.nodup_append] at hs
          refine hs.2.2 xd ?_ xd (by simp [HXD.out]) rfl
          rw [List.mem_map]
          refine ⟨y, ?_, HYD.out⟩
          have : (xs.take k)[j]? = some y := by rw [List.getElem?_take, if_pos hlt2]; exact HYE.out
          exact List.mem_of_getElem? this
        subst hf
        go_wp2_with fail
        go_ret
        exact ⟨rfl, HKW.out⟩
      · have hd2 : decide (xd = yd) = false := decide_eq_false hd
        go_wp2_with fail
        obtain ⟨S, hS0⟩ : ∃ S : World → Prop, S = fun w' => Keep noBlk wr w' := ⟨_, rfl⟩
        have HSE := Lib.hid (show ∀ w', S w' → Keep noBlk wr w' from fun w' h => by rw [hS0] at h; exact h)
        have HSI := Lib.hid (show ∀ w', Keep noBlk wr w' → S w' from fun w' h => by rw [hS0]; exact h)
        have hS : S wr.drew := by rw [hS0]; exact (Keep.refl _ _).drew
        clear hS0
        refine wp_region_held (S := S) (by kernel_rfl) ?_
        change wpAnyH _ _ _ _ _ _ _ _ wr.drew
        generalize wr.drew = w1 at hS ⊢
        refine wpAnyH_take (i := 0) (v := .slice (some ⟨g, o, none⟩) n ca) rfl (by kernel_rfl) (by kernel_rfl) (by kernel_rfl) (fun _ _ _ h => h) (.inl ⟨by rfl, fun _ _ => rfl⟩) hS ?_
        simp only [Act.put, List.setIfInBounds_toArray, List.set_cons_zero, List.set_cons_succ, List.getElem_toArray, List.getElem_cons_zero]
        refine wpAnyH_take (i := 1) (v := .int .i64 k) rfl (by kernel_rfl) (by kernel_rfl) (by kernel_rfl) (fun _ _ _ h => h) (.inl ⟨by rfl, fun _ _ => rfl⟩) hS ?_
        simp only [Act.put, List.setIfInBounds_toArray, List.set_cons_zero, List.set_cons_succ, List.getElem_toArray, List.getElem_cons_succ, List.getElem_cons_zero]
        refine wpAnyH_take (i := 2) (v := .pointer (some ⟨g, o + k * 2, none⟩)) rfl (by kernel_rfl) (by kernel_rfl) (by kernel_rfl) (fun _ _ _ h => h) (.inl ⟨by rfl, fun _ _ => by go_simp⟩) hS ?_
        simp only [Act.put, List.setIfInBounds_toArray, List.set_cons_zero, List.set_cons_succ, List.getElem_toArray, List.getElem_cons_succ, List.getElem_cons_zero]
        refine wpAnyH_take (i := 3) (v := .pointer (some ⟨g, o + k * 2, none⟩)) rfl (by kernel_rfl) (by kernel_rfl) (by kernel_rfl) (fun _ _ _ h => h) (.inl ⟨by rfl, fun _ _ => by go_simp⟩) hS ?_
        simp only [Act.put, List.setIfInBounds_toArray, List.set_cons_zero, List.set_cons_succ, List.getElem_toArray, List.getElem_cons_succ, List.getElem_cons_zero]
        refine wpAnyH_take (i := 4) (v := .int .i64 xd) rfl (by kernel_rfl) (by kernel_rfl) (by kernel_rfl) (fun _ _ _ h => h) (.inl ⟨by rfl, fun w' hw' => by have c := (HSE.out w' hw').cell HCX.out id; go_simp⟩) hS ?_
        simp only [Act.put, List.setIfInBounds_toArray, List.set_cons_zero, List.set_cons_succ, List.getElem_toArray, List.getElem_cons_succ, List.getElem_cons_zero]
        refine wpAnyH_take (i := 5) (v := .slice (some ⟨g, o, none⟩) n ca) rfl (by kernel_rfl) (by kernel_rfl) (by kernel_rfl) (fun _ _ _ h => h) (.inl ⟨by rfl, fun _ _ => rfl⟩) hS ?_
        simp only [Act.put, List.setIfInBounds_toArray, List.set_cons_zero, List.set_cons_succ, List.getElem_toArray, List.getElem_cons_succ, List.getElem_cons_zero]
        refine wpAnyH_take (i := 6) (v := .int .i64 j) rfl (by kernel_rfl) (by kernel_rfl) (by kernel_rfl) (fun _ _ _ h => h) (.inl ⟨by rfl, fun _ _ => rfl⟩) hS ?_
        simp only [Act.put, List.setIfInBounds_toArray, List.set_cons_zero, List.set_cons_succ, List.getElem_toArray, List.getElem_cons_succ, List.getElem_cons_zero]
        refine wpAnyH_take (i := 7) (v := .pointer (some ⟨g, o + j * 2, none⟩)) rfl (by kernel_rfl) (by kernel_rfl) (by kernel_rfl) (fun _ _ _ h => h) (.inl ⟨by rfl, fun _ _ => by go_simp⟩) hS ?_
        simp only [Act.put, List.setIfInBounds_toArray, List.set_cons_zero, List.set_cons_succ, List.getElem_toArray, List.getElem_cons_succ, List.getElem_cons_zero]
        refine wpAnyH_take (i := 8) (v := .pointer (some ⟨g, o + j * 2, none⟩)) rfl (by kernel_rfl) (by kernel_rfl) (by kernel_rfl) (fun _ _ _ h => h) (.inl ⟨by rfl, fun _ _ => by go_simp⟩) hS ?_
        simp only [Act.put, List.setIfInBounds_toArray, List.set_cons_zero, List.set_cons_succ, List.getElem_toArray, List.getElem_cons_succ, List.getElem_cons_zero]
        refine wpAnyH_take (i := 9) (v := .int .i64 yd) rfl (by kernel_rfl) (by kernel_rfl) (by kernel_rfl) (fun _ _ _ h => h) (.inl ⟨by rfl, fun w' hw' => by have c := (HSE.out w' hw').cell HCY.out id; go_simp⟩) hS ?_
        simp only [Act.put, List.setIfInBounds_toArray, List.set_cons_zero, List.set_cons_succ, List.getElem_toArray, List.getElem_cons_succ, List.getElem_cons_zero]
        refine wpAnyH_take (i := 10) (v := .bool false) rfl (by kernel_rfl) (by kernel_rfl) (by kernel_rfl) (fun _ _ _ h => h) (.inl ⟨by rfl, fun _ _ => by go_simp⟩) hS ?_
        simp only [Act.put, List.setIfInBounds_toArray, List.set_cons_zero, List.set_cons_succ, List.getElem_toArray, List.getElem_cons_succ, List.getElem_cons_zero]
        refine wpAnyH_done (by kernel_rfl) ?_ _
        have HKR := Lib.hid (HSE.out _ hS)
        clear hS HSE HSI
        have HR := Lib.hid (HR.out.keep HKR.out fun _ _ => id)
        have HKW := Lib.hid (HKW.out.trans HKR.out)
        have HX := Lib.hid (HKR.out.rangeAt HX.out)
        have HKO := Lib.hid (HKO.out.trans HKR.out)
        have HY := Lib.hid (HKR.out.rangeAt HY.out)
        have HUE : Hid (xd ∉ (xs.take (j + 1)).map (·.dev)) := Lib.hid (by
          rw [HTY.out, List.map_append, List.mem_append, List.map_cons, List.map_nil, List.mem_singleton, HYD.out]
          exact fun h => h.elim HU.out hd)
        clear hd
        go_wp2_with fail
        go_roundw
        case rel => exact ⟨j + 1, by omega, by go_num, HUE, HKO⟩
        case measure => simp [intOf]; omega
    · obtain rfl : j = k := by omega
      have HR := Lib.hid (HR.out.keep HKI.out fun _ _ => id)
      have HKW := Lib.hid (HKW.out.trans HKI.out)
      have HX := Lib.hid (HKI.out.rangeAt HX.out)
      have HKO := Lib.hid (HKO.out.trans HKI.out)
      have HTE : Hid (((xs.take (j + 1)).map (·.dev)).Nodup) := Lib.hid (by
        rw [HTX.out, List.map_append, List.nodup_append]
        refine ⟨HT.out, by simp, fun a ha b hb e => ?_⟩
        simp only [List.map_cons, List.map_nil, List.mem_singleton, HXD.out] at hb
        exact HU.out (hb ▸ e ▸ ha))
      go_wp2_with fail
      go_roundw
      case rel => exact ⟨j + 1, by omega, by go_num, HTE, HKW⟩
      case measure => simp [intOf]; omega
  · obtain rfl : k = n := by omega
    have ht : bb = true := by
      rw [← HBB.out]
      have := HT.out
      rw [List.take_of_length_le (by rw [HN.out]; exact Nat.le_refl _)] at this
      exact decide_eq_true this
    subst ht
    go_wp2_with fail
    go_ret
    exact ⟨rfl, HKR.out⟩

set_option maxHeartbeats 4000000 in
theorem apart_any (w : World) (v : Value) (xs : List Ad) (ho : AdsOk xs) (hr : Rd w 2 v xs.length (adCells xs)) : Calls Try.prog 15 #[v] w fun e w' => e = .returned (.bool (decide ((xs.map (·.dev)).Nodup))) ∧ Keep noBlk w w' := by
  obtain ⟨oa, ca, rfl, -, hmm⟩ := hr.form
  have hmx_n : xs.length ≤ maxLen := by have h := hr.2; obtain ⟨a', cap', h1, h2, h3, -⟩ := h; omega
  unfold maxLen at hmx_n
  clear hmm
  have HR := Lib.hid hr
  obtain ⟨n, hn_n⟩ : ∃ n, xs.length = n := ⟨_, rfl⟩
  have HN := Lib.hid hn_n
  rw [hn_n] at HR hmx_n
  try rw [hn_n]
  clear hr hn_n
  have hmm := @run_makeMap Try.prog
  obtain ⟨bb, hbb⟩ : ∃ b, decide ((xs.map (·.dev)).Nodup) = b := ⟨_, rfl⟩
  have HBB := Lib.hid hbb
  rw [hbb]
  clear hbb
  go_enter Try.func15, Try.ntmps15
  go_wp2_with fail
  obtain ⟨w2, hw2⟩ : ∃ w2, w.alloc (.map #[] 0) = w2 := ⟨_, rfl⟩
  have hk2 : Keep noBlk w w2 := by rw [← hw2]; exact (Keep.refl _ _).alloc _
  have hs2 : w.heap.size < w2.heap.size := by rw [← hw2, World.size_alloc]; omega
  have hm2 : MapIs In64 intV unitV w2 w.heap.size (setK ([] : List Int)) := by rw [← hw2]; exact MapIs.made _
  rw [hw2]
  have HKW := Lib.hid hk2; have HM2 := Lib.hid hm2; have HR2 := Lib.hid (HR.out.keep hk2 fun _ _ => id)
  clear hw2 hk2 hm2 hmm
  go_loopw [9] (fun i wr => ∃ k : Nat, k ≤ n ∧ i = .int .i64 k ∧ Hid (MapIs In64 intV unitV wr w.heap.size (setK ((xs.take k).map (·.dev)))) ∧ Hid (Keep noBlk w wr)) (fun i _ => n - (intOf i).toNat)
  case atStart => exact ⟨0, Nat.zero_le _, rfl, HM2, HKW⟩
  case round =>
  obtain ⟨k, hk, rfl, HM, HKR⟩ := hrel
  have hsr := HM.out.lt'
  by_cases hlt : k < n
  · have HR := Lib.hid (HR.out.keep HKR.out fun _ _ => id)
    obtain ⟨x, h_x⟩ : ∃ x, xs[k]? = some x := ⟨xs[k]'(by rw [HN.out]; exact hlt), List.getElem?_eq_getElem _⟩
    have h_r := HR.out
    rw [← HN.out] at h_r
    obtain ⟨g, o, cap', h_v, h_at⟩ := rd_ad h_r h_x
    have e1 : oa = some ⟨g, o, none⟩ := by cases h_v; rfl
    subst e1
    have HX := Lib.hid h_at; have HE := Lib.hid h_x
    clear h_x h_r h_v h_at
    have HTX : Hid (setK ((xs.take (k + 1)).map (·.dev)) = upsert (setK ((xs.take k).map (·.dev))) x.dev .nix) := Lib.hid (by rw [List.take_add_one, HE.out]; simp [setK])
    have hxo : AdOk x := ho x (List.mem_of_getElem? HE.out)
    have HXO : Hid (In64 x.dev) := Lib.hid hxo.1
    have hki : (k : Int) < (n : Int) := by omega
    have hk0 : (0 : Int) ≤ (k : Int) := by omega
    obtain ⟨xd, hxd⟩ : ∃ d, x.dev = d := ⟨_, rfl⟩
    have hc : (adCs x).toArray[0]? = some (.int .i64 xd) := by rw [← hxd]; rfl
    have HC0 := Lib.hid hc
    rw [hxd] at HTX HXO
    clear hxo hxd hc
    go_wp2_with (first
      | ((with_reducible show wpList _ _ _ (⟨some 12, .load 23 (.tmp 11), _, _, _, _⟩ :: _) _ _); refine wpList_load_mid rfl 23 (.tmp 11) rfl g (o + k * 2) rfl (adCs x) _ HX.out adUnder rfl sizeAd ?_)
      | ((with_reducible show wpList _ _ _ (⟨some 5, .alloc 23, _, _, _, _⟩ :: _) _ _); refine wpList_alloc_at rfl 23 rfl zeroAd zeroAddr #[.int .i64 0, .int .i64 0] rfl ?_)
      | ((with_reducible show wpList _ _ _ (⟨none, .store 23 (.tmp 5) (.tmp 12), _, _, _, _⟩ :: _) _ _); refine wpList_store_agg rfl 23 (.tmp 5) (.tmp 12) rfl wr.heap.size 0 (adCs x) rfl rfl #[.int .i64 0, .int .i64 0] 23 (heap_alloc_new _ _) (Nat.le_refl _) sizeAd (oneCell_ad _) ?_
         intro w3 hb3 hk3
         rw [spl_whole _ _ (by rfl)] at hb3
         have hkr : Keep noBlk wr w3 := ((Keep.refl noBlk wr).alloc _).trans' hk3 (fun _ _ h => h) (fun i hi e => by omega)
         have hcd := blk_cell hb3 HC0.out
         have HM3 := Lib.hid (HM.out.keep hkr id); have HKR3 := Lib.hid (HKR.out.trans hkr)
         clear hb3 hk3 hkr)
      | ((with_reducible show wpList _ _ _ (⟨none, .mapUpdate 42 (.tmp 13) (.tmp 15) (.tmp 16), _, _, _, _⟩ :: _) _ _); refine wpList_mapUpdate_is rfl rfl (.tmp 13) (.tmp 15) (.tmp 16) 42 rfl intEnc Try.underlying42 xd HXO.out Nix.nix rfl rfl rfl HM3.out ?_
         intro w4 hm4 hk4
         have HM4 := Lib.hid hm4; have HKR4 := Lib.hid (HKR3.out.trans' hk4 (U := noBlk) (fun _ _ h => h) (fun i hi e => by omega))
         clear hm4 hk4))
    have HME := Lib.hid (show MapIs In64 intV unitV w4 w.heap.size (setK ((xs.take (k + 1)).map (·.dev))) by rw [HTX.out]; exact HM4.out)
    go_roundw
    case rel => exact ⟨k + 1, by omega, by go_num, HME, HKR4⟩
    case measure => simp [intOf]; omega
  · obtain rfl : k = n := by omega
    have hm := HM.out
    rw [List.take_of_length_le (by rw [HN.out]; exact Nat.le_refl _)] at hm
    have hlen := fun ty => hm.len Try.underlying42 ty
    have hsl := setK_len (xs.map (·.dev))
    rw [List.length_map, HN.out] at hsl
    obtain ⟨m, hmm⟩ : ∃ m, (setK (xs.map (·.dev))).length = m := ⟨_, rfl⟩
    rw [hmm] at hlen hsl
    have HSL := Lib.hid hsl
    clear hm hmm hsl
    by_cases hmn : m = k
    · have ht : bb = true := by rw [← HBB.out]; exact decide_eq_true (HSL.out.2.1 hmn)
      subst ht
      subst hmn
      go_wp2_with fail
      go_ret
      exact ⟨rfl, HKR.out⟩
    · have ht : bb = false := by rw [← HBB.out]; exact decide_eq_false fun h => hmn (HSL.out.2.2 h)
      subst ht
      have hni : ¬ (m : Int) = (k : Int) := by omega
      have hnd : decide ((m : Int) = (k : Int)) = false := decide_eq_false hni
      have hnb : ((m : Int) == (k : Int)) = false := beq_eq_false_iff_ne.2 hni
      go_wp2_with fail
      go_ret
      exact ⟨rfl, HKR.out⟩

def OverI (n : Nat) (oa : Option Addr) (w : World) : Prop := 0 < n → ∃ g cur, oa = some ⟨g, 0, none⟩ ∧ w.heap[g]? = some (.cells cur 23 (0, 0)) ∧ n * 2 ≤ cur.size
theorem owns_open {w : World} {base n c : Nat} {a : Option Addr} {xs : List Value} (h : w.ownsRow base 23 2 (.slice a n c) n xs) (hn : 0 < n) : ∃ g cur, a = some ⟨g, 0, none⟩ ∧ w.heap[g]? = some (.cells cur 23 (0, 0)) ∧ n * 2 ≤ cur.size := by
  rcases h.2 with ⟨h1, -⟩ | ⟨g, cap, cur, h1, -, hh, h3, h4, h5, -⟩
  · cases h1; omega
  · injection h1 with h1 _ h2
    refine ⟨g, cur, h1, hh, ?_⟩
    rw [h5]
    exact Nat.mul_le_mul_right 2 h3
set_option maxHeartbeats 4000000 in
theorem over_any (w : World) (base n : Nat) (v : Value) (xs : List Value) (ho : w.ownsRow base 23 2 v n xs) : Calls Try.prog 28 #[v] w fun e w' => e = .returned (.tuple #[]) ∧ Keep (fun j => v.ownBlock = some j) w w' := by
  have hr := Rd.of_owns ho
  obtain ⟨oa, ca, rfl, hcn, hcm⟩ := hr.form
  unfold maxLen at hcm
  have hn63 : n ≤ 9223372036854775807 := by omega
  have HO := Lib.hid ho
  have HZ := Lib.hid (fun (h : 0 < n) => owns_open ho h)
  clear ho hr hcn hcm
  go_enter Try.func28, Try.ntmps28
  go_wp2_with fail
  go_loopw [2] (fun i wr => ∃ k : Nat, k ≤ n ∧ i = .int .i64 k ∧ Hid (OverI n oa wr) ∧ Hid (Keep (fun j => (Value.slice oa n ca).ownBlock = some j) w wr)) (fun i _ => n - (intOf i).toNat)
  case atStart => exact ⟨0, Nat.zero_le _, rfl, Lib.hid HZ.out, Lib.hid (Keep.refl _ _)⟩
  case round =>
  obtain ⟨k, hk, rfl, HI, HKR⟩ := hrel
  by_cases hlt : k < n
  · obtain ⟨g, cur, rfl, hb, hsz⟩ := HI.out (by omega)
    have HB := Lib.hid hb
    have hki : (k : Int) < (n : Int) := by omega
    have hk0 : (0 : Int) ≤ (k : Int) := by omega
    have hfit : k * 2 + 2 ≤ cur.size := by omega
    have hbd := buildAd (-7) (-7)
    clear hb
    go_wp2_with (first
      | ((with_reducible show wpList _ _ _ (⟨none, .store 23 (.tmp 12) (.tmp 11), _, _, _, _⟩ :: _) _ _); refine wpList_store_agg rfl 23 (.tmp 12) (.tmp 11) rfl g (k * 2) (adCs ⟨-7, -7⟩) rfl rfl cur 23 HB.out hfit sizeAd (oneCell_ad _) ?_
         intro w3 hb3 hk3
         have HI3 : Hid (OverI n (some ⟨g, 0, none⟩) w3) := Lib.hid (fun _ => ⟨g, _, rfl, hb3, by rw [spl_size]; exact hsz⟩)
         have HK3 := Lib.hid (HKR.out.trans' hk3 (U := fun j => (Value.slice (some ⟨g, 0, none⟩) n ca).ownBlock = some j) (fun _ _ h => h) (fun i hi e => by rw [e]; rfl))
         clear hb3 hk3))
    go_roundw
    case rel => exact ⟨k + 1, by omega, by go_num, HI3, HK3⟩
    case measure => simp [intOf]; omega
  · obtain rfl : k = n := by omega
    go_wp2_with fail
    go_end0
    exact ⟨rfl, HKR.out⟩

theorem long_any (w : World) (a b : Option Addr) (n m c d : Nat) : Calls Try.prog 14 #[.slice a n c, .slice b m d] w fun e w' => e = .returned (.bool (decide (200 < n ∨ 200 < m))) ∧ w = w' := by
  by_cases h1 : 200 < n
  · have e : decide (200 < n ∨ 200 < m) = true := decide_eq_true (.inl h1)
    rw [e]
    have h1' : (200 : Int) < (n : Int) := by omega
    clear e
    go_enter Try.func14, Try.ntmps14
    go_wp2_with fail
    go_ret
    exact ⟨rfl, rfl⟩
  · have h1' : ¬ (200 : Int) < (n : Int) := by omega
    have h1d : decide ((200 : Int) < (n : Int)) = false := decide_eq_false h1'
    by_cases h2 : 200 < m
    · have e : decide (200 < n ∨ 200 < m) = true := decide_eq_true (.inr h2)
      rw [e]
      have h2' : (200 : Int) < (m : Int) := by omega
      clear e
      go_enter Try.func14, Try.ntmps14
      go_wp2_with fail
      go_ret
      exact ⟨rfl, rfl⟩
    · have e : decide (200 < n ∨ 200 < m) = false := decide_eq_false (by omega)
      rw [e]
      have h2' : ¬ (200 : Int) < (m : Int) := by omega
      have h2d : decide ((200 : Int) < (m : Int)) = false := decide_eq_false h2'
      clear e
      go_enter Try.func14, Try.ntmps14
      go_wp2_with fail
      go_ret
      exact ⟨rfl, rfl⟩

set_option maxHeartbeats 4000000 in
theorem within_any (w : World) (v vb : Value) (xs ys : List Ad) (hr : Rd w 2 v xs.length (adCells xs)) (hrb : Rd w 2 vb ys.length (adCells ys)) (hin : ∀ x ∈ xs, x ∈ ys) : Calls Try.prog 35 #[v, vb] w fun e w' => e = .returned (.bool true) ∧ Keep noBlk w w' := by
  have HH := Lib.hid (fun w v (h : Rd w 2 v ys.length (adCells ys)) x => has_any w v ys x h)
  obtain ⟨oa, ca, rfl, -, hmm⟩ := hr.form
  have hmx_n : xs.length ≤ maxLen := by have h := hr.2; obtain ⟨a', cap', h1, h2, h3, -⟩ := h; omega
  unfold maxLen at hmx_n
  clear hmm
  have HR := Lib.hid hr
  obtain ⟨n, hn_n⟩ : ∃ n, xs.length = n := ⟨_, rfl⟩
  have HN := Lib.hid hn_n
  rw [hn_n] at HR hmx_n
  try rw [hn_n]
  clear hr hn_n
  obtain ⟨ob, cb, rfl, -, hmm⟩ := hrb.form
  have hmx_m : ys.length ≤ maxLen := by have h := hrb.2; obtain ⟨a', cap', h1, h2, h3, -⟩ := h; omega
  unfold maxLen at hmx_m
  clear hmm
  have HRB := Lib.hid hrb
  obtain ⟨m, hn_m⟩ : ∃ n, ys.length = n := ⟨_, rfl⟩
  have HM := Lib.hid hn_m
  rw [hn_m] at HRB hmx_m
  try rw [hn_m]
  clear hrb hn_m
  have HKW := Lib.hid (Keep.refl noBlk w)
  go_enter Try.func35, Try.ntmps35
  go_wp2_with fail
  go_loopw [5] (fun i wr => ∃ k : Nat, k ≤ n ∧ i = .int .i64 k ∧ Hid (Keep noBlk w wr)) (fun i _ => n - (intOf i).toNat)
  case atStart => exact ⟨0, Nat.zero_le _, rfl, Lib.hid (Keep.refl _ _)⟩
  case round =>
  obtain ⟨k, hk, rfl, HKR⟩ := hrel
  by_cases hlt : k < n
  · have HR := Lib.hid (HR.out.keep HKR.out fun _ _ => id)
    have HRB := Lib.hid (HRB.out.keep HKR.out fun _ _ => id)
    have HKW := Lib.hid (HKW.out.trans HKR.out)
    obtain ⟨x, h_x⟩ : ∃ x, xs[k]? = some x := ⟨xs[k]'(by rw [HN.out]; exact hlt), List.getElem?_eq_getElem _⟩
    have h_r := HR.out
    rw [← HN.out] at h_r
    obtain ⟨g, o, cap', h_v, h_at⟩ := rd_ad h_r h_x
    have e1 : oa = some ⟨g, o, none⟩ := by cases h_v; rfl
    subst e1
    have HX := Lib.hid h_at; have HE := Lib.hid h_x
    clear h_x h_r h_v h_at
    have hki : (k : Int) < (n : Int) := by omega
    have hk0 : (0 : Int) ≤ (k : Int) := by omega
    have HC := Lib.hid (HH.out wr (.slice ob m cb) (by rw [HM.out]; exact HRB.out) x)
    rw [decide_eq_true (hin x (List.mem_of_getElem? HE.out))] at HC
    go_wp2_with (first
      | ((with_reducible show wpList _ _ _ (⟨_, .load 23 _, _, _, _, _⟩ :: _) _ _); refine wpList_load_mid rfl 23 (.tmp 15) rfl g (o + k * 2) rfl (adCs x) _ HX.out adUnder rfl sizeAd ?_))
    refine (HC.out).mono ?_
    rintro e w1 ⟨rfl, hk⟩
    have HR := Lib.hid (HR.out.keep hk fun _ _ => id)
    have HRB := Lib.hid (HRB.out.keep hk fun _ _ => id)
    have HKW := Lib.hid (HKW.out.trans hk)
    have HX := Lib.hid (hk.rangeAt HX.out)
    clear hk
    go_wp2_with fail
    go_roundw
    case rel => exact ⟨k + 1, by omega, by go_num, HKW⟩
    case measure => simp [intOf]; omega
  · obtain rfl : k = n := by omega
    go_wp2_with fail
    go_ret
    exact ⟨rfl, HKR.out⟩

set_option maxHeartbeats 4000000 in
theorem rises_any (w : World) (v : Value) (xs : List Ad) (hr : Rd w 2 v xs.length (adCells xs)) (hri : Rises xs) : Calls Try.prog 34 #[v] w fun e w' => e = .returned (.bool true) ∧ Keep noBlk w w' := by
  obtain ⟨oa, ca, rfl, -, hmm⟩ := hr.form
  have hmx_n : xs.length ≤ maxLen := by have h := hr.2; obtain ⟨a', cap', h1, h2, h3, -⟩ := h; omega
  unfold maxLen at hmx_n
  clear hmm
  have HR := Lib.hid hr
  obtain ⟨n, hn_n⟩ : ∃ n, xs.length = n := ⟨_, rfl⟩
  have HN := Lib.hid hn_n
  rw [hn_n] at HR hmx_n
  try rw [hn_n]
  clear hr hn_n
  have HKW := Lib.hid (Keep.refl noBlk w)
  go_enter Try.func34, Try.ntmps34
  go_wp2_with fail
  go_loopw [3] (fun i wr => ∃ k : Nat, 1 ≤ k ∧ k ≤ n + 1 ∧ i = .int .i64 k ∧ Hid (Keep noBlk w wr)) (fun i _ => n - (intOf i).toNat)
  case atStart => exact ⟨1, Nat.le_refl _, by omega, rfl, Lib.hid (Keep.refl _ _)⟩
  case round =>
  obtain ⟨k, hk1, hk, rfl, HKR⟩ := hrel
  by_cases hlt : k < n
  · have HR := Lib.hid (HR.out.keep HKR.out fun _ _ => id)
    have HKW := Lib.hid (HKW.out.trans HKR.out)
    obtain ⟨p, hp⟩ : ∃ p, k - 1 = p := ⟨_, rfl⟩
    have hpk : p + 1 ≤ k := by omega
    have hkp : k ≤ p + 1 := by omega
    clear hp
    obtain ⟨x, h_x⟩ : ∃ x, xs[k]? = some x := ⟨xs[k]'(by rw [HN.out]; exact hlt), List.getElem?_eq_getElem _⟩
    have h_r := HR.out
    rw [← HN.out] at h_r
    obtain ⟨g, o, cap', h_v, h_at⟩ := rd_ad h_r h_x
    have e1 : oa = some ⟨g, o, none⟩ := by cases h_v; rfl
    subst e1
    have HX := Lib.hid h_at; have HE := Lib.hid h_x
    clear h_x h_r h_v h_at
    obtain ⟨y, h_x⟩ : ∃ x, xs[p]? = some x := ⟨xs[p]'(by rw [HN.out]; exact (by omega)), List.getElem?_eq_getElem _⟩
    have h_r := HR.out
    rw [← HN.out] at h_r
    have h_at : wr.rangeAt g (o + p * 2) (adCs y) := by
      obtain ⟨g', o', cap', h_v, h_at⟩ := rd_ad h_r h_x
      cases h_v
      exact h_at
    have HY := Lib.hid h_at; have HYE := Lib.hid h_x
    clear h_x h_r h_at
    have hki : (k : Int) < (n : Int) := by omega
    have hk0 : (0 : Int) ≤ (k : Int) := by omega
    have hp0 : (0 : Int) ≤ (p : Int) := by omega
    have hpi : (p : Int) < (n : Int) := by omega
    have hkm : (k : Int) - 1 = (p : Int) := by omega
    have hl : adLt y x = true := by
      obtain ⟨i1, e1⟩ := List.getElem?_eq_some_iff.1 HYE.out
      obtain ⟨i2, e2⟩ := List.getElem?_eq_some_iff.1 HE.out
      have := List.pairwise_iff_getElem.1 hri p k i1 i2 (by omega)
      rwa [e1, e2] at this
    have hC := fun w => lessC y x w
    rw [hl] at hC
    have HC := Lib.hid hC
    have hwp : IntKind.i64.wrap (p : Int) = (p : Int) := IntWalk.i64_in _ (by omega)
    clear hC hl
    go_wp2_with fail
    obtain ⟨S, hS0⟩ : ∃ S : World → Prop, S = fun w' => Keep noBlk wr w' := ⟨_, rfl⟩
    have HSE := Lib.hid (show ∀ w', S w' → Keep noBlk wr w' from fun w' h => by rw [hS0] at h; exact h)
    have HSI := Lib.hid (show ∀ w', Keep noBlk wr w' → S w' from fun w' h => by rw [hS0]; exact h)
    have hS : S wr.drew := by rw [hS0]; exact (Keep.refl _ _).drew
    clear hS0
    refine wp_region_held (S := S) (by kernel_rfl) ?_
    change wpAnyH _ _ _ _ _ _ _ _ wr.drew
    generalize wr.drew = w1 at hS ⊢
    refine wpAnyH_take (i := 0) (v := .slice (some ⟨g, o, none⟩) n ca) rfl (by kernel_rfl) (by kernel_rfl) (by kernel_rfl) (fun _ _ _ h => h) (.inl ⟨by rfl, fun _ _ => rfl⟩) hS ?_
    simp only [Act.put, List.setIfInBounds_toArray, List.set_cons_zero, List.set_cons_succ, List.getElem_toArray, List.getElem_cons_zero]
    refine wpAnyH_take (i := 1) (v := .int .i64 k) rfl (by kernel_rfl) (by kernel_rfl) (by kernel_rfl) (fun _ _ _ h => h) (.inl ⟨by rfl, fun _ _ => rfl⟩) hS ?_
    simp only [Act.put, List.setIfInBounds_toArray, List.set_cons_zero, List.set_cons_succ, List.getElem_toArray, List.getElem_cons_succ, List.getElem_cons_zero]
    refine wpAnyH_take (i := 2) (v := .int .i64 (p : Int)) rfl (by kernel_rfl) (by kernel_rfl) (by kernel_rfl) (fun _ _ _ h => h) (.inl ⟨by rfl, fun _ _ => by go_simp⟩) hS ?_
    simp only [Act.put, List.setIfInBounds_toArray, List.set_cons_zero, List.set_cons_succ, List.getElem_toArray, List.getElem_cons_succ, List.getElem_cons_zero]
    refine wpAnyH_take (i := 3) (v := .pointer (some ⟨g, o + p * 2, none⟩)) rfl (by kernel_rfl) (by kernel_rfl) (by kernel_rfl) (fun _ _ _ h => h) (.inl ⟨by rfl, fun _ _ => by go_simp⟩) hS ?_
    simp only [Act.put, List.setIfInBounds_toArray, List.set_cons_zero, List.set_cons_succ, List.getElem_toArray, List.getElem_cons_succ, List.getElem_cons_zero]
    refine wpAnyH_take (i := 4) (v := .agg (adCs y).toArray) rfl (by kernel_rfl) (by kernel_rfl) (by kernel_rfl) (fun _ _ _ h => h) (yieldsIf_load_mid (by rfl) 23 (.tmp 13) rfl (g) (o + p * 2) rfl (adCs y) _ (fun w' h => (HSE.out w' h).rangeAt HY.out) adUnder rfl sizeAd) hS ?_
    simp only [Act.put, List.setIfInBounds_toArray, List.set_cons_zero, List.set_cons_succ, List.getElem_toArray, List.getElem_cons_succ, List.getElem_cons_zero]
    refine wpAnyH_take (i := 5) (v := .slice (some ⟨g, o, none⟩) n ca) rfl (by kernel_rfl) (by kernel_rfl) (by kernel_rfl) (fun _ _ _ h => h) (.inl ⟨by rfl, fun _ _ => rfl⟩) hS ?_
    simp only [Act.put, List.setIfInBounds_toArray, List.set_cons_zero, List.set_cons_succ, List.getElem_toArray, List.getElem_cons_succ, List.getElem_cons_zero]
    refine wpAnyH_take (i := 6) (v := .int .i64 k) rfl (by kernel_rfl) (by kernel_rfl) (by kernel_rfl) (fun _ _ _ h => h) (.inl ⟨by rfl, fun _ _ => rfl⟩) hS ?_
    simp only [Act.put, List.setIfInBounds_toArray, List.set_cons_zero, List.set_cons_succ, List.getElem_toArray, List.getElem_cons_succ, List.getElem_cons_zero]
    refine wpAnyH_take (i := 7) (v := .pointer (some ⟨g, o + k * 2, none⟩)) rfl (by kernel_rfl) (by kernel_rfl) (by kernel_rfl) (fun _ _ _ h => h) (.inl ⟨by rfl, fun _ _ => by go_simp⟩) hS ?_
    simp only [Act.put, List.setIfInBounds_toArray, List.set_cons_zero, List.set_cons_succ, List.getElem_toArray, List.getElem_cons_succ, List.getElem_cons_zero]
    refine wpAnyH_take (i := 8) (v := .agg (adCs x).toArray) rfl (by kernel_rfl) (by kernel_rfl) (by kernel_rfl) (fun _ _ _ h => h) (yieldsIf_load_mid (by rfl) 23 (.tmp 17) rfl (g) (o + k * 2) rfl (adCs x) _ (fun w' h => (HSE.out w' h).rangeAt HX.out) adUnder rfl sizeAd) hS ?_
    simp only [Act.put, List.setIfInBounds_toArray, List.set_cons_zero, List.set_cons_succ, List.getElem_toArray, List.getElem_cons_succ, List.getElem_cons_zero]
    refine wpAnyH_one (k := 9) rfl (by kernel_rfl) ?_
    go_wp2_with fail
    refine (HC.out _).mono ?_
    rintro e w2 ⟨rfl, hk⟩
    have hS1 := HSI.out _ ((HSE.out _ hS).trans hk)
    clear hS hk
    go_wp2_with fail
    refine ⟨hS1, ?_⟩
    refine wpAnyH_take (i := 10) (v := .bool false) rfl (by kernel_rfl) (by kernel_rfl) (by kernel_rfl) (fun _ _ _ h => h) (.inl ⟨by rfl, fun _ _ => by go_simp⟩) hS1 ?_
    simp only [Act.put, List.setIfInBounds_toArray, List.set_cons_zero, List.set_cons_succ, List.getElem_toArray, List.getElem_cons_succ, List.getElem_cons_zero]
    refine wpAnyH_done (by kernel_rfl) ?_ _
    have HKR := Lib.hid (HSE.out _ hS1)
    clear hS1 HSE HSI
    have HR := Lib.hid (HR.out.keep HKR.out fun _ _ => id)
    have HKW := Lib.hid (HKW.out.trans HKR.out)
    have HX := Lib.hid (HKR.out.rangeAt HX.out)
    have HY := Lib.hid (HKR.out.rangeAt HY.out)
    clear hkm hwp
    go_wp2_with fail
    go_roundw
    case rel => exact ⟨k + 1, by omega, by omega, by go_num, HKW⟩
    case measure => simp [intOf]; omega
  · have hki : ¬ (k : Int) < (n : Int) := by omega
    have hkd : decide (k < n) = false := decide_eq_false hlt
    go_wp2_with fail
    go_ret
    exact ⟨rfl, HKR.out⟩
end Go.Proofs.Ytnpmiocajmhjoaa
