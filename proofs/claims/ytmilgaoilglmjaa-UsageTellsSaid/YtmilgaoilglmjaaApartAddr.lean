/-
  Apart, by the program and by the document; OverAddrs; long, rises, within.
  Conditions: none.
-/
import Derived.Test.YtmilgaoilglmjaaSetsAddr
namespace Go.Proofs.Ytmilgaoilglmjaa
open Go.RowKit Go.Maps Go.ChangeMaps
set_option maxRecDepth 100000
set_option linter.unusedVariables false

theorem intEnc : KeyEnc Try.prog 3 In64 (fun n => .int .i64 n) where
  law := int_keyed Try.underlying3
  key a h := ⟨_, keyOf_int_mk Try.underlying3 (Go.WalkArith.wf_i64 h)⟩
  inj a c _ _ h := by injection h
def intV (n : Int) : Value := .int .i64 n
/-- The set that a list makes, in the order in which it comes about. -/
def setK {α : Type} [DecidableEq α] (l : List α) : List (α × Nix) := l.foldl (fun s a => upsert s a .nix) []
theorem mem_keysK {α : Type} [DecidableEq α] (l : List α) : ∀ x, x ∈ (setK l).map (·.1) ↔ x ∈ l := by
  suffices h : ∀ (l : List α) (s : List (α × Nix)) x, x ∈ (l.foldl (fun s a => upsert s a .nix) s).map (·.1) ↔ x ∈ s.map (·.1) ∨ x ∈ l by
    intro x
    have := h l [] x
    simpa [setK] using this
  intro l
  induction l with
  | nil => intro s x; simp
  | cons a l ih =>
    intro s x
    rw [List.foldl_cons, ih, List.mem_cons]
    have hu : x ∈ (upsert s a .nix).map (·.1) ↔ x ∈ s.map (·.1) ∨ x = a := by
      unfold upsert
      split
      · rename_i h
        have hk : (s.map fun p => if p.1 = a then (a, Nix.nix) else p).map (·.1) = s.map (·.1) := by
          rw [List.map_map]
          apply List.map_congr_left
          intro p _
          simp only [Function.comp]
          split
          · rename_i e; exact e.symm
          · rfl
        rw [hk]
        constructor
        · exact fun h => .inl h
        · rintro (h' | rfl)
          · exact h'
          · obtain ⟨p, hp, he⟩ := List.any_eq_true.1 h
            exact List.mem_map.2 ⟨p, hp, of_decide_eq_true he⟩
      · simp
    rw [hu]
    constructor
    · rintro ((h | h) | h) <;> simp [h]
    · rintro (h | h | h) <;> simp [h]
theorem setK_len {α : Type} [DecidableEq α] (l : List α) : (setK l).length ≤ l.length ∧ ((setK l).length = l.length → l.Nodup) ∧ (l.Nodup → (setK l).length = l.length) := by
  have hs : ∀ (l : List α) a, (setK (l ++ [a])).length = (setK l).length + if a ∈ l then 0 else 1 := by
    intro l a
    have : setK (l ++ [a]) = upsert (setK l) a .nix := by simp [setK]
    rw [this]
    unfold upsert
    by_cases h : a ∈ l
    · have h' := (mem_keysK l a).2 h
      obtain ⟨p, hp, he⟩ := List.mem_map.1 h'
      rw [if_pos (List.any_eq_true.2 ⟨p, hp, decide_eq_true he⟩), if_pos h, List.length_map]; rfl
    · rw [if_neg, if_neg h, List.length_append]; rfl
      intro hn
      obtain ⟨p, hp, he⟩ := List.any_eq_true.1 hn
      exact h ((mem_keysK l a).1 (List.mem_map.2 ⟨p, hp, of_decide_eq_true he⟩))
  suffices h : ∀ l : List α, (setK l.reverse).length ≤ l.length ∧ ((setK l.reverse).length = l.length → l.Nodup) ∧ (l.Nodup → (setK l.reverse).length = l.length) by
    have := h l.reverse
    rw [List.reverse_reverse, List.length_reverse] at this
    exact ⟨this.1, fun e => (List.reverse_perm l).nodup_iff.1 (this.2.1 e), fun e => this.2.2 ((List.reverse_perm l).nodup_iff.2 e)⟩
  intro l
  induction l with
  | nil => simp [setK]
  | cons a l ih =>
    have hr : a ∈ l.reverse ↔ a ∈ l := List.mem_reverse
    rw [List.reverse_cons, hs, List.length_cons, List.nodup_cons]
    split
    · rename_i h
      exact ⟨by omega, fun e => by omega, fun e => absurd (hr.1 h) e.1⟩
    · rename_i h
      exact ⟨by omega, fun e => ⟨fun h' => h (hr.2 h'), ih.2.1 (by omega)⟩, fun e => by rw [ih.2.2 e.2]⟩
theorem MapIs.lt' {α β : Type} {ok : α → Prop} {enc : α → Value} {ev : β → Value} {w : World} {b : Nat} {l : List (α × β)} (h : MapIs ok enc ev w b l) : b < w.heap.size := by
  obtain ⟨es, clock, hb, -⟩ := h
  exact lt_of_block hb


def OverI (n : Nat) (oa : Option Addr) (w : World) : Prop := 0 < n → ∃ g cur, oa = some ⟨g, 0, none⟩ ∧ w.heap[g]? = some (.cells cur 25 (0, 0)) ∧ n * 2 ≤ cur.size
theorem owns_open {w : World} {base n c : Nat} {a : Option Addr} {xs : List Value} (h : w.ownsRow base 25 2 (.slice a n c) n xs) (hn : 0 < n) : ∃ g cur, a = some ⟨g, 0, none⟩ ∧ w.heap[g]? = some (.cells cur 25 (0, 0)) ∧ n * 2 ≤ cur.size := by
  rcases h.2 with ⟨h1, -⟩ | ⟨g, cap, cur, h1, -, hh, h3, h4, h5, -⟩
  · cases h1; omega
  · injection h1 with h1 _ h2
    refine ⟨g, cur, h1, hh, ?_⟩
    rw [h5]
    exact Nat.mul_le_mul_right 2 h3
set_option maxHeartbeats 4000000 in
theorem over_any (w : World) (base n : Nat) (v : Value) (xs : List Value) (ho : w.ownsRow base 25 2 v n xs) : Calls Try.prog 20 #[v] w fun e w' => e = .returned (.tuple #[]) ∧ Keep (fun j => v.ownBlock = some j) w w' := by
  have hr := Rd.of_owns ho
  obtain ⟨oa, ca, rfl, hcn, hcm⟩ := hr.form
  unfold maxLen at hcm
  have hn63 : n ≤ 9223372036854775807 := by omega
  have HO := Lib.hid ho
  have HZ := Lib.hid (fun (h : 0 < n) => owns_open ho h)
  clear ho hr hcn hcm
  go_enter Try.func20, Try.ntmps20
  go_wp2_with fail
  go_loopw [2] (fun i wr => ∃ k : Nat, k ≤ n ∧ i = .int .i64 k ∧ Hid (OverI n oa wr) ∧ Hid (Keep (fun j => (Value.slice oa n ca).ownBlock = some j) w wr)) (fun i _ => n - (intOf i).toNat)
  case atStart => exact ⟨0, Nat.zero_le _, rfl, Lib.hid HZ.out, Lib.hid (Keep.refl _ _)⟩
  case round =>
  obtain ⟨k, hk, rfl, HI, HKR⟩ := hrel
  by_cases hlt : k < n
  · obtain ⟨g, cur, rfl, hb, hsz⟩ := HI.out (by omega)
    have HB := Lib.hid hb
    have hki : (k : Int) < (n : Int) := by omega
    have hk0 : (0 : Int) ≤ (k : Int) := by omega
    have hfit : k * 2 + 2 ≤ cur.size := by omega
    have hbd := buildAd (-7) (-7)
    clear hb
    go_wp2_with (first
      | ((with_reducible show wpList _ _ _ (⟨none, .store 25 (.tmp 12) (.tmp 11), _, _, _, _⟩ :: _) _ _); refine wpList_store_agg rfl 25 (.tmp 12) (.tmp 11) rfl g (k * 2) (adCs ⟨-7, -7⟩) rfl rfl cur 25 HB.out hfit sizeAd (oneCell_ad _) ?_
         intro w3 hb3 hk3
         have HI3 : Hid (OverI n (some ⟨g, 0, none⟩) w3) := Lib.hid (fun _ => ⟨g, _, rfl, hb3, by rw [spl_size]; exact hsz⟩)
         have HK3 := Lib.hid (HKR.out.trans' hk3 (U := fun j => (Value.slice (some ⟨g, 0, none⟩) n ca).ownBlock = some j) (fun _ _ h => h) (fun i hi e => by rw [e]; rfl))
         clear hb3 hk3))
    go_roundw
    case rel => exact ⟨k + 1, by omega, by go_num, HI3, HK3⟩
    case measure => simp [intOf]; omega
  · obtain rfl : k = n := by omega
    go_wp2_with fail
    go_end0
    exact ⟨rfl, HKR.out⟩



end Go.Proofs.Ytmilgaoilglmjaa
