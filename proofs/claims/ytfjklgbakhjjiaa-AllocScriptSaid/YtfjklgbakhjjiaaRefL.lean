/-
  The document's way of choosing devices, in plain Lean: the best of those that are left, one by one, is the ranked list.
  Conditions: none.
-/
import Derived.Test.YtfjklgbakhjjiaaRoomL
import Derived.Test.YtfjklgbakhjjiaaApartL
import Derived.Test.YtfjklgbakhjjiaaManyA
namespace Go.Proofs.Ytfjklgbakhjjiaa
set_option maxRecDepth 100000
set_option linter.unusedVariables false

/-- Of the first k devices that can take one and are not in ch, r is the best. -/
def BestAt (fr : List Int) (th : List Bool) (ch : List Nat) (k : Nat) : Option Nat → Prop
  | none => ∀ j, j < k → canTake fr th j = true → j ∈ ch
  | some m => m < k ∧ canTake fr th m = true ∧ m ∉ ch ∧ ∀ j, j < k → canTake fr th j = true → j ∉ ch → j = m ∨ aheadB fr m j = true
def atV : Option Nat → Int
  | none => -1
  | some m => (m : Int)
theorem BestAt.zero (fr : List Int) (th : List Bool) (ch : List Nat) : BestAt fr th ch 0 none := fun j h => absurd h (Nat.not_lt_zero _)
theorem BestAt.skip {fr : List Int} {th : List Bool} {ch : List Nat} {k : Nat} {r : Option Nat} (h : BestAt fr th ch k r) (hk : canTake fr th k = false ∨ k ∈ ch ∨ ∃ m, r = some m ∧ ¬ fr.getD m 0 < fr.getD k 0) : BestAt fr th ch (k + 1) r := by
  cases r with
  | none =>
    intro j hj hc
    by_cases e : j = k
    · subst e
      rcases hk with h1 | h1 | ⟨m, h1, -⟩
      · rw [hc] at h1; cases h1
      · exact h1
      · cases h1
    · exact h j (by omega) hc
  | some m =>
    obtain ⟨h1, h2, h3, h4⟩ := h
    refine ⟨by omega, h2, h3, fun j hj hc hn => ?_⟩
    by_cases e : j = k
    · subst e
      rcases hk with h5 | h5 | ⟨m', h5, h6⟩
      · rw [hc] at h5; cases h5
      · exact absurd h5 hn
      · cases h5
        exact .inr ((aheadB_iff _ _ _).2 (by omega))
    · exact h4 j (by omega) hc hn
theorem BestAt.take {fr : List Int} {th : List Bool} {ch : List Nat} {k : Nat} {r : Option Nat} (h : BestAt fr th ch k r) (hc : canTake fr th k = true) (hn : k ∉ ch) (hr : ∀ m, r = some m → fr.getD m 0 < fr.getD k 0) : BestAt fr th ch (k + 1) (some k) := by
  refine ⟨by omega, hc, hn, fun j hj hcj hnj => ?_⟩
  by_cases e : j = k
  · exact .inl e
  · refine .inr ?_
    cases r with
    | none => exact absurd (h j (by omega) hcj) hnj
    | some m =>
      have h0 := hr m rfl
      rcases h.2.2.2 j (by omega) hcj hnj with e2 | e2
      · subst e2; exact (aheadB_iff _ _ _).2 (.inl h0)
      · exact ahead_trans ((aheadB_iff _ _ _).2 (.inl h0)) e2
theorem BestAt.next {fr : List Int} {th : List Bool} {i : Nat} {r : Option Nat} (h : BestAt fr th ((rankL fr th).take i) fr.length r) : (rankL fr th)[i]? = r := by
  cases e : (rankL fr th)[i]? with
  | none =>
    have hl : (rankL fr th).length ≤ i := List.getElem?_eq_none_iff.1 e
    cases r with
    | none => rfl
    | some m => exact absurd (rank_over hl h.1 h.2.1) h.2.2.1
  | some m' =>
    obtain ⟨⟨h1, h2, h3⟩, h4⟩ := rank_next e
    cases r with
    | none => exact absurd (h m' h1 h2) h3
    | some m =>
      rcases h4 m h.1 h.2.1 h.2.2.1 with e1 | e1
      · rw [e1]
      · rcases h.2.2.2 m' h1 h2 h3 with e2 | e2
        · rw [e2]
        · rw [ahead_irrefl e1] at e2; cases e2
theorem upN_pos {fr : List Int} {th : List Bool} (hl : th.length = fr.length) (h : upN th = 0) : ableTo fr th fr.length = [] := by
  rw [List.eq_nil_iff_forall_not_mem]
  intro i hi
  have hc := (mem_ableTo.1 hi).2
  unfold canTake at hc
  rw [Bool.and_eq_true] at hc
  unfold upN at h
  rw [List.countP_eq_zero] at h
  have h1 := hc.1
  rw [List.getD_eq_getElem?_getD] at h1
  cases e : th[i]? with
  | none => rw [e] at h1; cases h1
  | some b =>
    rw [e] at h1
    exact h b (List.mem_of_getElem? e) h1
/-- Which devices are chosen, told by the ranked list. -/
theorem choose_full {fr : List Int} {th : List Bool} {cp : Nat} (h0 : wantN th cp ≠ 0) (h : wantN th cp ≤ (rankL fr th).length) : chooseL fr th cp = some ((rankL fr th).take (wantN th cp)) := by
  unfold chooseL
  rw [if_neg]
  rw [rank_len] at h
  rintro (e | e)
  · rw [e] at h; simp at h; exact h0 h
  · omega
theorem choose_over {fr : List Int} {th : List Bool} {cp : Nat} (h : (rankL fr th).length < wantN th cp) : chooseL fr th cp = none := by
  unfold chooseL
  rw [if_pos]
  rw [rank_len] at h
  exact .inr h
theorem choose_nobody {fr : List Int} {th : List Bool} {cp : Nat} (hl : th.length = fr.length) (hc : 0 < cp) (h : wantN th cp = 0) : chooseL fr th cp = none := by
  unfold chooseL
  rw [if_pos]
  refine .inl (upN_pos hl ?_)
  unfold wantN at h
  omega
/-- Each once: told by the length of its sorted set. -/
theorem canon_nodup : ∀ l : List Ad, (canon l).length = l.length ↔ l.Nodup
  | [] => by simp [canon_nil]
  | x :: t => by
    have ih := canon_nodup t
    have hr : ∀ l : List Ad, (canon l).Nodup := fun l => rises_nodup' (canon_rises l)
    by_cases h : x ∈ t
    · have e : canon (x :: t) = canon t := canon_congr fun y => by
        rw [List.mem_cons]
        exact ⟨fun hy => hy.elim (fun e => e ▸ h) id, .inr⟩
      have := canon_len t
      rw [e, List.length_cons, List.nodup_cons]
      constructor
      · intro h2; omega
      · intro h2; exact absurd h h2.1
    · have hp : (canon (x :: t)).Perm (x :: canon t) := (List.perm_ext_iff_of_nodup (hr _) (List.nodup_cons.2 ⟨fun hm => h (mem_canon.1 hm), hr t⟩)).2 fun y => by
        rw [mem_canon, List.mem_cons, List.mem_cons, mem_canon]
      rw [hp.length_eq, List.length_cons, List.length_cons, List.nodup_cons]
      constructor
      · intro h2; exact ⟨h, ih.1 (by omega)⟩
      · intro h2; rw [ih.2 h2.2]
/-- The document's way to ask whether these are places, each once, all of them used, or none. -/
def onceB (C l : List Ad) (u : Bool) (D Z : Nat) : Bool :=
  l.all (fun x => mayB x D Z) && decide ((canon l).length = l.length) && (u && decide ((canon (l.filter fun x => decide (x ∈ C))).length = l.length) || !u && decide ((canon (l.filter fun x => decide (x ∈ C))).length = 0))
theorem once_ok (C l : List Ad) (u : Bool) (D Z : Nat) : onceB C l u D Z = okT C l u D Z := by
  have hn : decide ((canon l).length = l.length) = decide l.Nodup := decide_eq_decide.2 (canon_nodup l)
  unfold onceB okT
  rw [hn, Bool.eq_iff_iff]
  have hf : l.Nodup → (canon (l.filter fun x => decide (x ∈ C))).length = (l.filter fun x => decide (x ∈ C)).length := fun h => (canon_nodup _).2 (List.Nodup.sublist List.filter_sublist h)
  cases u
  · simp only [Bool.false_and, Bool.false_or, Bool.not_false, Bool.true_and, Bool.and_eq_true, List.all_eq_true, decide_eq_true_eq, beq_false, Bool.not_eq_true', decide_eq_false_iff_not]
    constructor
    · rintro ⟨⟨h1, h2⟩, h3⟩
      rw [hf h2, List.length_eq_zero_iff, List.filter_eq_nil_iff] at h3
      exact ⟨fun x hx => ⟨h1 x hx, by simpa using h3 x hx⟩, h2⟩
    · rintro ⟨h1, h2⟩
      refine ⟨⟨fun x hx => (h1 x hx).1, h2⟩, ?_⟩
      rw [hf h2, List.length_eq_zero_iff, List.filter_eq_nil_iff]
      intro x hx; simpa using (h1 x hx).2
  · simp only [Bool.true_and, Bool.not_true, Bool.false_and, Bool.or_false, Bool.and_eq_true, List.all_eq_true, decide_eq_true_eq, beq_true]
    constructor
    · rintro ⟨⟨h1, h2⟩, h3⟩
      rw [hf h2, List.length_filter_eq_length_iff] at h3
      exact ⟨fun x hx => ⟨h1 x hx, by simpa using h3 x hx⟩, h2⟩
    · rintro ⟨h1, h2⟩
      refine ⟨⟨fun x hx => (h1 x hx).1, h2⟩, ?_⟩
      rw [hf h2, List.length_filter_eq_length_iff]
      intro x hx; simpa using (h1 x hx).2
end Go.Proofs.Ytfjklgbakhjjiaa

/-
  caulkerref07: Check, among, best.
  Conditions: none but those told.
-/
namespace Go.Proofs.Ytfjklgbakhjjiaa
open Go.RowKit Go.Maps Go.ChangeMaps
set_option maxRecDepth 100000
set_option linter.unusedVariables false

set_option maxHeartbeats 8000000 in
theorem rpcheck_any (w : World) (v vt : Value) (fr : List Int) (th : List Bool) (cp : Int) (hr : Rd w 1 v fr.length (fr.map fun x => .int .i64 x)) (ht : Rd w 1 vt th.length (th.map Value.bool)) :
    Calls Try.prog 79 #[v, vt, .int .i64 cp] w (CheckPost w (checkB fr th cp)) := by
  obtain ⟨oa, ca, rfl, -, -⟩ := hr.form
  obtain ⟨ta, tc, rfl, -, -⟩ := ht.form
  have hfl : fr.length ≤ maxLen := by obtain ⟨_, a', c', h1, h2, h3, -⟩ := hr; omega
  have htl : th.length ≤ maxLen := by obtain ⟨_, a', c', h1, h2, h3, -⟩ := ht; omega
  unfold maxLen at hfl htl
  obtain ⟨bb, hbb⟩ : ∃ b, checkB fr th cp = b := ⟨_, rfl⟩
  have hpost : ∀ b, (checkB fr th cp = b) → ∀ e, e = .returned (.int .i64 (if b then 0 else 2)) → ∀ w', Keep noBlk w w' → CheckPost w (checkB fr th cp) e w' := fun b hb e he w' k => by rw [hb]; exact ⟨he, k⟩
  have HPO := Lib.hid hpost
  clear hpost hbb
  obtain ⟨n, hn_n⟩ : ∃ x, fr.length = x := ⟨_, rfl⟩
  have HN := Lib.hid hn_n
  obtain ⟨q, hn_q⟩ : ∃ x, th.length = x := ⟨_, rfl⟩
  have HQ := Lib.hid hn_q
  have HR := Lib.hid hr
  rw [hn_n] at HR hfl ⊢
  rw [hn_q] at htl ⊢
  clear hr ht hn_n hn_q
  by_cases hc : 2 ≤ n ∧ n ≤ 8 ∧ q = n ∧ 1 ≤ cp ∧ cp ≤ 3
  · obtain ⟨h1, h2, rfl, h3, h4⟩ := hc
    have d1 : ¬ (q : Int) < 2 := by omega
    have d2 : ¬ (8 : Int) < (q : Int) := by omega
    have d3 : ((q : Int) != (q : Int)) = false := by simp
    have d4 : ¬ cp < 1 := by omega
    have d5 : ¬ 3 < cp := by omega
    go_enter Try.func79, Try.ntmps79
    go_wp2_with fail
    go_loopw [7] (fun i wr => ∃ k : Nat, k ≤ q ∧ i = .int .i64 k ∧ Hid (∀ j x, j < k → fr[j]? = some x → 0 ≤ x ∧ x ≤ 4096) ∧ Hid (Keep noBlk w wr)) (fun i _ => q - (intOf i).toNat)
    case atStart => exact ⟨0, Nat.zero_le _, rfl, Lib.hid (fun j x h => absurd h (Nat.not_lt_zero _)), Lib.hid (Keep.refl _ _)⟩
    case round =>
    obtain ⟨k, hk, rfl, HA, HK⟩ := hrel
    have HR := Lib.hid (HR.out.keep HK.out fun _ _ => id)
    by_cases hlt : k < q
    · have hki : (k : Int) < (q : Int) := by omega
      have hk0 : (0 : Int) ≤ (k : Int) := by omega
      obtain ⟨x, hx⟩ : ∃ x, fr[k]? = some x := ⟨fr[k]'(by rw [HN.out]; exact hlt), List.getElem?_eq_getElem _⟩
      have h_r := HR.out
      rw [← HN.out] at h_r
      obtain ⟨p, o, cap', h_v, hcx⟩ := rd_int h_r hx
      rw [HN.out] at h_v
      have e1 : oa = some ⟨p, o, none⟩ := by cases h_v; rfl
      subst e1
      clear h_v h_r
      have HX := Lib.hid hx
      clear hx
      by_cases hb : x < 0 ∨ 4096 < x
      · have hcb : checkB fr th cp = false := by
          cases e : checkB fr th cp with
          | false => rfl
          | true => have h := (checkB_true e).2.2.2.2.2 x (List.mem_of_getElem? HX.out); omega
        have HPB := Lib.hid (HPO.out false hcb)
        clear hcb
        by_cases hb0 : x < 0
        · go_wp2_with fail
          go_ret
          exact HPB.out _ rfl _ HK.out
        · have hb1 : 4096 < x := by omega
          go_wp2_with fail
          go_ret
          exact HPB.out _ rfl _ HK.out
      · have hb0 : ¬ x < 0 := by omega
        have hb1 : ¬ 4096 < x := by omega
        go_wp2_with fail
        go_roundw
        case rel => exact ⟨k + 1, by omega, by go_num, Lib.hid (fun j y hj hy => by
          rcases Nat.lt_or_ge j k with h | h
          · exact HA.out j y h hy
          · obtain rfl : j = k := by omega
            rw [HX.out] at hy; cases hy; omega), HK⟩
        case measure => simp [intOf]; omega
    · obtain rfl : q = k := by omega
      have hcb : checkB fr th cp = true := by
        unfold checkB okFree
        simp only [Bool.and_eq_true, decide_eq_true_eq, List.all_eq_true, HN.out, HQ.out]
        refine ⟨⟨⟨⟨⟨h1, h2⟩, (by first | rfl | trivial)⟩, h3⟩, h4⟩, fun x hx => ?_⟩
        obtain ⟨j, hj⟩ := List.getElem?_of_mem hx
        exact HA.out j x (by rw [← HN.out]; exact (List.getElem?_eq_some_iff.1 hj).1) hj
      have HPB := Lib.hid (HPO.out true hcb)
      clear hcb
      go_wp2_with fail
      go_ret
      exact HPB.out _ rfl _ HK.out
  · have hcb : checkB fr th cp = false := by
      cases e : checkB fr th cp with
      | false => rfl
      | true =>
        obtain ⟨h1, h2, h3, h4, h5, -⟩ := checkB_true e
        rw [HN.out] at h1 h2 h3
        rw [HQ.out] at h3
        exact absurd ⟨h1, h2, h3, h4, h5⟩ hc
    have HPB := Lib.hid (HPO.out false hcb)
    have HK := Lib.hid (Keep.refl noBlk w)
    clear hcb
    go_enter Try.func79, Try.ntmps79
    by_cases c1 : n < 2
    · have d1 : (n : Int) < 2 := by omega
      go_wp2_with fail
      go_ret
      exact HPB.out _ rfl _ HK.out
    have d1 : ¬ (n : Int) < 2 := by omega
    by_cases c2 : 8 < n
    · have d2 : (8 : Int) < (n : Int) := by omega
      go_wp2_with fail
      go_ret
      exact HPB.out _ rfl _ HK.out
    have d2 : ¬ (8 : Int) < (n : Int) := by omega
    by_cases c3 : q = n
    case neg =>
      have d3 : ((q : Int) != (n : Int)) = true := by simp; omega
      go_wp2_with fail
      go_ret
      exact HPB.out _ rfl _ HK.out
    subst c3
    have d3 : ((q : Int) != (q : Int)) = false := by simp
    by_cases c4 : cp < 1
    · go_wp2_with fail
      go_ret
      exact HPB.out _ rfl _ HK.out
    have d5 : 3 < cp := by omega
    go_wp2_with fail
    go_ret
    exact HPB.out _ rfl _ HK.out

set_option maxHeartbeats 4000000 in
theorem among_any (w : World) (v : Value) (l : List Nat) (n : Nat) (hr : Rd w 1 v l.length (nV l)) (h8 : l.length ≤ 65536) : Calls Try.prog 93 #[v, .int .i64 (n : Int)] w fun e w' => e = .returned (.bool (decide (n ∈ l))) ∧ Keep noBlk w w' := by
  obtain ⟨la, lc, rfl, -, -⟩ := hr.form
  obtain ⟨bb, hbb⟩ : ∃ b, decide (n ∈ l) = b := ⟨_, rfl⟩
  have HBB := Lib.hid hbb
  rw [hbb]
  obtain ⟨m, hn_m⟩ : ∃ x, l.length = x := ⟨_, rfl⟩
  have HM := Lib.hid hn_m
  have HR := Lib.hid hr
  rw [hn_m] at HR h8 ⊢
  clear hr hbb hn_m
  go_enter Try.func93, Try.ntmps93
  go_wp2_with fail
  go_loopw [5] (fun i wr => ∃ k : Nat, k ≤ m ∧ i = .int .i64 k ∧ Hid (∀ j x, j < k → l[j]? = some x → x ≠ n) ∧ Hid (Keep noBlk w wr)) (fun i _ => m - (intOf i).toNat)
  case atStart => exact ⟨0, Nat.zero_le _, rfl, Lib.hid (fun j x h => absurd h (Nat.not_lt_zero _)), Lib.hid (Keep.refl _ _)⟩
  case round =>
  obtain ⟨k, hk, rfl, HA, HK⟩ := hrel
  have HR := Lib.hid (HR.out.keep HK.out fun _ _ => id)
  by_cases hlt : k < m
  · have hki : (k : Int) < (m : Int) := by omega
    have hk0 : (0 : Int) ≤ (k : Int) := by omega
    obtain ⟨x, hx⟩ : ∃ x, l[k]? = some x := ⟨l[k]'(by rw [HM.out]; exact hlt), List.getElem?_eq_getElem _⟩
    have h_r := HR.out
    rw [← HM.out] at h_r
    obtain ⟨p, o, cap', h_v, hcx⟩ := rd_nat h_r hx
    rw [HM.out] at h_v
    have e1 : la = some ⟨p, o, none⟩ := by cases h_v; rfl
    subst e1
    clear h_v h_r
    have HX := Lib.hid hx
    clear hx
    by_cases e : x = n
    · have he : ((x : Int) == (n : Int)) = true := by simp; omega
      have HT : Hid (bb = true) := Lib.hid (by rw [← HBB.out, decide_eq_true_eq, ← e]; exact List.mem_of_getElem? HX.out)
      go_wp2_with fail
      go_ret
      exact ⟨by rw [HT.out]; rfl, HK.out⟩
    · have he : ((x : Int) == (n : Int)) = false := by simp; omega
      go_wp2_with fail
      go_roundw
      case rel => exact ⟨k + 1, by omega, by go_num, Lib.hid (fun j y hj hy => by
        rcases Nat.lt_or_ge j k with h | h
        · exact HA.out j y h hy
        · obtain rfl : j = k := by omega
          rw [HX.out] at hy; cases hy; exact e), HK⟩
      case measure => simp [intOf]; omega
  · obtain rfl : m = k := by omega
    have HT : Hid (bb = false) := Lib.hid (by
      rw [← HBB.out, decide_eq_false_iff_not]
      intro h
      obtain ⟨j, hj⟩ := List.getElem?_of_mem h
      exact HA.out j n (by rw [← HM.out]; exact (List.getElem?_eq_some_iff.1 hj).1) hj rfl)
    go_wp2_with fail
    go_ret
    exact ⟨by rw [HT.out]; rfl, HK.out⟩

set_option maxHeartbeats 16000000 in
theorem pbest_any (w : World) (v vt vc : Value) (fr : List Int) (th : List Bool) (ch : List Nat) (hr : Rd w 1 v fr.length (fr.map fun x => .int .i64 x)) (ht : Rd w 1 vt th.length (th.map Value.bool)) (hc : Rd w 1 vc ch.length (nV ch)) (hl : th.length = fr.length) (h8 : fr.length ≤ 8) (h9 : ch.length ≤ 8) :
    Calls Try.prog 80 #[v, vt, vc] w fun e w' => ∃ r, e = .returned (.int .i64 (atV r)) ∧ BestAt fr th ch fr.length r ∧ Keep noBlk w w' := by
  have HAM := Lib.hid (fun wx (k : Keep noBlk w wx) (i : Nat) => among_any wx vc ch i (hc.keep k fun _ _ => id) (by omega))
  obtain ⟨oa, ca, rfl, -, -⟩ := hr.form
  obtain ⟨ta, tc, rfl, -, -⟩ := ht.form
  obtain ⟨da, dc, rfl, -, -⟩ := hc.form
  obtain ⟨n, hn_n⟩ : ∃ x, fr.length = x := ⟨_, rfl⟩
  have HN := Lib.hid hn_n
  obtain ⟨q, hn_q⟩ : ∃ x, ch.length = x := ⟨_, rfl⟩
  have HC := Lib.hid hn_q
  have HR := Lib.hid hr; have HT := Lib.hid ht
  have HTL : Hid (th.length = n) := Lib.hid (by rw [hl, hn_n])
  rw [hl, hn_n] at HT
  rw [hn_n] at HR h8
  rw [hl, hn_n]
  rw [hn_q] at h9 HAM ⊢
  clear hr ht hc hl hn_n hn_q
  go_enter Try.func80, Try.ntmps80
  go_wp2_with fail
  go_loopw [7, 8] (fun t i wr => ∃ (k : Nat) (r : Option Nat), k ≤ n ∧ t = .int .i64 (atV r) ∧ i = .int .i64 k ∧ Hid (BestAt fr th ch k r) ∧ Hid (Keep noBlk w wr)) (fun _ i _ => n - (intOf i).toNat)
  case atStart => exact ⟨0, none, Nat.zero_le _, rfl, rfl, Lib.hid (BestAt.zero _ _ _), Lib.hid (Keep.refl _ _)⟩
  case round =>
  obtain ⟨k, r, hk, rfl, rfl, HB, HK⟩ := hrel
  by_cases hlt : k < n
  · have HR := Lib.hid (HR.out.keep HK.out fun _ _ => id); have HT := Lib.hid (HT.out.keep HK.out fun _ _ => id)
    have hki : (k : Int) < (n : Int) := by omega
    have hk0 : (0 : Int) ≤ (k : Int) := by omega
    obtain ⟨x, hx⟩ : ∃ x, fr[k]? = some x := ⟨fr[k]'(by rw [HN.out]; exact hlt), List.getElem?_eq_getElem _⟩
    have h_r := HR.out
    rw [← HN.out] at h_r
    obtain ⟨p, o, cap', h_v, hcx⟩ := rd_int h_r hx
    rw [HN.out] at h_v
    have e1 : oa = some ⟨p, o, none⟩ := by cases h_v; rfl
    subst e1
    clear h_v h_r
    obtain ⟨y, hy⟩ : ∃ x, th[k]? = some x := ⟨th[k]'(by rw [HTL.out]; exact hlt), List.getElem?_eq_getElem _⟩
    have h_r := HT.out
    rw [← HTL.out] at h_r
    obtain ⟨p2, o2, cap', h_v, hcy⟩ := rd_bool h_r hy
    rw [HTL.out] at h_v
    have e1 : ta = some ⟨p2, o2, none⟩ := by cases h_v; rfl
    subst e1
    clear h_v h_r
    have HX := Lib.hid hcx; have HY := Lib.hid hcy
    have HCT : Hid (canTake fr th k = (y && decide (0 < x))) := Lib.hid (by unfold canTake; rw [List.getD_eq_getElem?_getD, List.getD_eq_getElem?_getD, hx, hy]; rfl)
    have HXD : Hid (fr.getD k 0 = x) := Lib.hid (by rw [List.getD_eq_getElem?_getD, hx]; rfl)
    have HAK := Lib.hid (HAM.out wr HK.out k)
    obtain ⟨ba, hba⟩ : ∃ b, decide (k ∈ ch) = b := ⟨_, rfl⟩
    have HBA := Lib.hid hba
    rw [hba] at HAK
    have HW0 := Lib.hid (Keep.refl noBlk wr)
    clear hcx hcy hx hy hba
    have HAM2 : Hid (∀ w', Keep noBlk wr w' → Calls Try.prog 93 #[.slice da q dc, .int .i64 (k : Int)] w' fun e w2 => e = .returned (.bool ba) ∧ Keep noBlk w' w2) := Lib.hid (fun w' kk => by
      have h := HAM.out w' (HK.out.trans kk) k
      rwa [HBA.out] at h)
    clear HAK
    cases y
    · go_wp2_with fail
      obtain ⟨S, hS0⟩ : ∃ S : World → Prop, S = fun w' => Keep noBlk wr w' := ⟨_, rfl⟩
      have HSE := Lib.hid (show ∀ w', S w' → Keep noBlk wr w' from fun w' h => by rw [hS0] at h; exact h)
      have HSI := Lib.hid (show ∀ w', Keep noBlk wr w' → S w' from fun w' h => by rw [hS0]; exact h)
      have hS : S wr.drew := by rw [hS0]; exact (Keep.refl _ _).drew
      clear hS0
      refine wp_region_held (S := S) (by kernel_rfl) ?_
      change wpAnyH _ _ _ _ _ _ _ _ wr.drew
      generalize wr.drew = wq41 at hS ⊢
      refine tna 0 (.slice (some ⟨p2, o2, none⟩) n tc) rfl hS ?_
      refine tna 1 (.int .i64 (k : Int)) rfl hS ?_
      refine tnb 2 (.pointer (some ⟨p2, o2 + k, none⟩)) rfl hS ?_
      refine tnd 3 (.bool false) rfl (.inl ⟨by rfl, fun w' hw' => by have c := (HSE.out w' hw').cell HY.out id; go_simp⟩) hS ?_
      refine tna 4 (.bool false) rfl hS ?_
      refine tnc 5 undef rfl hS ?_
      refine tnc 6 undef rfl hS ?_
      refine tnc 7 undef rfl hS ?_
      refine tnc 8 undef rfl hS ?_
      refine tnc 9 undef rfl hS ?_
      refine tna 10 (.bool false) rfl hS ?_
      refine tna 11 (.bool false) rfl hS ?_
      refine tnc 12 undef rfl hS ?_
      refine tnc 13 undef rfl hS ?_
      refine tnc 14 undef rfl hS ?_
      refine tnc 15 undef rfl hS ?_
      refine tna 16 (.bool false) rfl hS ?_
      refine tna 17 (.bool false) rfl hS ?_
      refine tnc 18 undef rfl hS ?_
      refine tnc 19 undef rfl hS ?_
      refine tnc 20 undef rfl hS ?_
      refine tnc 21 undef rfl hS ?_
      refine tnc 22 undef rfl hS ?_
      refine tnc 23 undef rfl hS ?_
      refine tnc 24 undef rfl hS ?_
      refine tnc 25 undef rfl hS ?_
      refine tnc 26 undef rfl hS ?_
      refine tnc 27 undef rfl hS ?_
      refine tnc 28 undef rfl hS ?_
      refine tnc 29 undef rfl hS ?_
      refine tnc 30 undef rfl hS ?_
      refine tna 31 (.bool false) rfl hS ?_
      refine wpAnyH_done (by kernel_rfl) ?_ _
      have HKR := Lib.hid (HSE.out _ hS)
      clear hS HSE HSI
      have HK := Lib.hid (HK.out.trans HKR.out)
      have HW0 := Lib.hid (HW0.out.trans HKR.out)
      go_wp2_with fail
      go_roundw
      case rel => exact ⟨k + 1, r, by omega, rfl, by go_num, Lib.hid (HB.out.skip (.inl (by rw [HCT.out]; rfl))), HK⟩
      case measure => simp [intOf]; omega
    · by_cases hx0 : 0 < x
      · have HCN : Hid (canTake fr th k = true) := Lib.hid (by rw [HCT.out, decide_eq_true hx0]; rfl)
        cases ba
        · have HNC : Hid (k ∉ ch) := Lib.hid (of_decide_eq_false HBA.out)
          cases r
          · go_wp2_with fail
            obtain ⟨S, hS0⟩ : ∃ S : World → Prop, S = fun w' => Keep noBlk wr w' := ⟨_, rfl⟩
            have HSE := Lib.hid (show ∀ w', S w' → Keep noBlk wr w' from fun w' h => by rw [hS0] at h; exact h)
            have HSI := Lib.hid (show ∀ w', Keep noBlk wr w' → S w' from fun w' h => by rw [hS0]; exact h)
            have hS : S wr.drew := by rw [hS0]; exact (Keep.refl _ _).drew
            clear hS0
            refine wp_region_held (S := S) (by kernel_rfl) ?_
            change wpAnyH _ _ _ _ _ _ _ _ wr.drew
            generalize wr.drew = wq41 at hS ⊢
            refine tna 0 (.slice (some ⟨p2, o2, none⟩) n tc) rfl hS ?_
            refine tna 1 (.int .i64 (k : Int)) rfl hS ?_
            refine tnb 2 (.pointer (some ⟨p2, o2 + k, none⟩)) rfl hS ?_
            refine tnd 3 (.bool true) rfl (.inl ⟨by rfl, fun w' hw' => by have c := (HSE.out w' hw').cell HY.out id; go_simp⟩) hS ?_
            refine tna 4 (.bool true) rfl hS ?_
            refine tna 5 (.slice (some ⟨p, o, none⟩) n ca) rfl hS ?_
            refine tna 6 (.int .i64 (k : Int)) rfl hS ?_
            refine tnb 7 (.pointer (some ⟨p, o + k, none⟩)) rfl hS ?_
            refine tnd 8 (.int .i64 x) rfl (.inl ⟨by rfl, fun w' hw' => by have c := (HSE.out w' hw').cell HX.out id; go_simp⟩) hS ?_
            refine tnb 9 (.bool true) rfl hS ?_
            refine tna 10 (.bool true) rfl hS ?_
            refine tna 11 (.bool true) rfl hS ?_
            refine tna 12 (.slice da q dc) rfl hS ?_
            refine tna 13 (.int .i64 (k : Int)) rfl hS ?_
            refine wpAnyH_one (k := 14) rfl (by kernel_rfl) ?_
            go_wp2_with fail
            refine (HAM2.out wq41 (HW0.out.trans (HSE.out _ hS))).mono ?_
            rintro e wq42 ⟨rfl, hk⟩
            have hS1 := HSI.out _ ((HSE.out _ hS).trans hk)
            clear hS hk
            go_wp2_with fail
            refine ⟨hS1, ?_⟩
            refine tnb 15 (.bool true) rfl hS1 ?_
            refine tna 16 (.bool true) rfl hS1 ?_
            refine tna 17 (.bool true) rfl hS1 ?_
            refine tna 18 (.int .i64 (-1)) rfl hS1 ?_
            refine tnb 19 (.bool true) rfl hS1 ?_
            refine tna 20 (.bool true) rfl hS1 ?_
            refine tnc 21 undef rfl hS1 ?_
            refine tnc 22 undef rfl hS1 ?_
            refine tnc 23 undef rfl hS1 ?_
            refine tnc 24 undef rfl hS1 ?_
            refine tnc 25 undef rfl hS1 ?_
            refine tnc 26 undef rfl hS1 ?_
            refine tnc 27 undef rfl hS1 ?_
            refine tnc 28 undef rfl hS1 ?_
            refine tnc 29 undef rfl hS1 ?_
            refine tna 30 (.bool true) rfl hS1 ?_
            refine tna 31 (.bool true) rfl hS1 ?_
            refine wpAnyH_done (by kernel_rfl) ?_ _
            have HKR := Lib.hid (HSE.out _ hS1)
            clear hS1 HSE HSI
            have HK := Lib.hid (HK.out.trans HKR.out)
            have HW0 := Lib.hid (HW0.out.trans HKR.out)
            go_wp2_with fail
            go_roundw
            case rel => exact ⟨k + 1, some k, by omega, by go_num, by go_num, Lib.hid (HB.out.take HCN.out HNC.out (fun m h => by cases h)), HK⟩
            case measure => simp [intOf]; omega
          · rename_i m
            have hmk : m < k := HB.out.1
            have hmn : m < n := by omega
            have hm0 : (0 : Int) ≤ (m : Int) := by omega
            have hmi : (m : Int) < (n : Int) := by omega
            have hmneg : ¬ (m : Int) < 0 := by omega
            obtain ⟨z, hz⟩ : ∃ x, fr[m]? = some x := ⟨fr[m]'(by rw [HN.out]; exact hmn), List.getElem?_eq_getElem _⟩
            have h_r := HR.out
            rw [← HN.out] at h_r
            have hcz : wr.cell? ⟨p, o + m, none⟩ = some (.int .i64 z) := by
              obtain ⟨g', o', cap', h_v, h_c⟩ := rd_int h_r hz
              cases h_v
              exact h_c
            clear h_r
            have HM := Lib.hid hcz
            have HZD : Hid (fr.getD m 0 = z) := Lib.hid (by rw [List.getD_eq_getElem?_getD, hz]; rfl)
            clear hcz hz
            by_cases hzx : z < x
            · go_wp2_with fail
              obtain ⟨S, hS0⟩ : ∃ S : World → Prop, S = fun w' => Keep noBlk wr w' := ⟨_, rfl⟩
              have HSE := Lib.hid (show ∀ w', S w' → Keep noBlk wr w' from fun w' h => by rw [hS0] at h; exact h)
              have HSI := Lib.hid (show ∀ w', Keep noBlk wr w' → S w' from fun w' h => by rw [hS0]; exact h)
              have hS : S wr.drew := by rw [hS0]; exact (Keep.refl _ _).drew
              clear hS0
              refine wp_region_held (S := S) (by kernel_rfl) ?_
              change wpAnyH _ _ _ _ _ _ _ _ wr.drew
              generalize wr.drew = wq41 at hS ⊢
              refine tna 0 (.slice (some ⟨p2, o2, none⟩) n tc) rfl hS ?_
              refine tna 1 (.int .i64 (k : Int)) rfl hS ?_
              refine tnb 2 (.pointer (some ⟨p2, o2 + k, none⟩)) rfl hS ?_
              refine tnd 3 (.bool true) rfl (.inl ⟨by rfl, fun w' hw' => by have c := (HSE.out w' hw').cell HY.out id; go_simp⟩) hS ?_
              refine tna 4 (.bool true) rfl hS ?_
              refine tna 5 (.slice (some ⟨p, o, none⟩) n ca) rfl hS ?_
              refine tna 6 (.int .i64 (k : Int)) rfl hS ?_
              refine tnb 7 (.pointer (some ⟨p, o + k, none⟩)) rfl hS ?_
              refine tnd 8 (.int .i64 x) rfl (.inl ⟨by rfl, fun w' hw' => by have c := (HSE.out w' hw').cell HX.out id; go_simp⟩) hS ?_
              refine tnb 9 (.bool true) rfl hS ?_
              refine tna 10 (.bool true) rfl hS ?_
              refine tna 11 (.bool true) rfl hS ?_
              refine tna 12 (.slice da q dc) rfl hS ?_
              refine tna 13 (.int .i64 (k : Int)) rfl hS ?_
              refine wpAnyH_one (k := 14) rfl (by kernel_rfl) ?_
              go_wp2_with fail
              refine (HAM2.out wq41 (HW0.out.trans (HSE.out _ hS))).mono ?_
              rintro e wq42 ⟨rfl, hk⟩
              have hS1 := HSI.out _ ((HSE.out _ hS).trans hk)
              clear hS hk
              go_wp2_with fail
              refine ⟨hS1, ?_⟩
              refine tnb 15 (.bool true) rfl hS1 ?_
              refine tna 16 (.bool true) rfl hS1 ?_
              refine tna 17 (.bool true) rfl hS1 ?_
              refine tna 18 (.int .i64 (m : Int)) rfl hS1 ?_
              refine tnb 19 (.bool false) rfl hS1 ?_
              refine tna 20 (.bool false) rfl hS1 ?_
              refine tna 21 (.slice (some ⟨p, o, none⟩) n ca) rfl hS1 ?_
              refine tna 22 (.int .i64 (k : Int)) rfl hS1 ?_
              refine tnb 23 (.pointer (some ⟨p, o + k, none⟩)) rfl hS1 ?_
              refine tnd 24 (.int .i64 x) rfl (.inl ⟨by rfl, fun w' hw' => by have c := (HSE.out w' hw').cell HX.out id; go_simp⟩) hS1 ?_
              refine tna 25 (.slice (some ⟨p, o, none⟩) n ca) rfl hS1 ?_
              refine tna 26 (.int .i64 (m : Int)) rfl hS1 ?_
              refine tnb 27 (.pointer (some ⟨p, o + m, none⟩)) rfl hS1 ?_
              refine tnd 28 (.int .i64 z) rfl (.inl ⟨by rfl, fun w' hw' => by have c := (HSE.out w' hw').cell HM.out id; go_simp⟩) hS1 ?_
              refine tnb 29 (.bool true) rfl hS1 ?_
              refine tna 30 (.bool true) rfl hS1 ?_
              refine tna 31 (.bool true) rfl hS1 ?_
              refine wpAnyH_done (by kernel_rfl) ?_ _
              have HKR := Lib.hid (HSE.out _ hS1)
              clear hS1 HSE HSI
              have HK := Lib.hid (HK.out.trans HKR.out)
              have HW0 := Lib.hid (HW0.out.trans HKR.out)
              go_wp2_with fail
              go_roundw
              case rel => exact ⟨k + 1, some k, by omega, by go_num, by go_num, Lib.hid (HB.out.take HCN.out HNC.out (fun m h => by cases h; rw [HXD.out, HZD.out]; omega)), HK⟩
              case measure => simp [intOf]; omega
            · go_wp2_with fail
              obtain ⟨S, hS0⟩ : ∃ S : World → Prop, S = fun w' => Keep noBlk wr w' := ⟨_, rfl⟩
              have HSE := Lib.hid (show ∀ w', S w' → Keep noBlk wr w' from fun w' h => by rw [hS0] at h; exact h)
              have HSI := Lib.hid (show ∀ w', Keep noBlk wr w' → S w' from fun w' h => by rw [hS0]; exact h)
              have hS : S wr.drew := by rw [hS0]; exact (Keep.refl _ _).drew
              clear hS0
              refine wp_region_held (S := S) (by kernel_rfl) ?_
              change wpAnyH _ _ _ _ _ _ _ _ wr.drew
              generalize wr.drew = wq41 at hS ⊢
              refine tna 0 (.slice (some ⟨p2, o2, none⟩) n tc) rfl hS ?_
              refine tna 1 (.int .i64 (k : Int)) rfl hS ?_
              refine tnb 2 (.pointer (some ⟨p2, o2 + k, none⟩)) rfl hS ?_
              refine tnd 3 (.bool true) rfl (.inl ⟨by rfl, fun w' hw' => by have c := (HSE.out w' hw').cell HY.out id; go_simp⟩) hS ?_
              refine tna 4 (.bool true) rfl hS ?_
              refine tna 5 (.slice (some ⟨p, o, none⟩) n ca) rfl hS ?_
              refine tna 6 (.int .i64 (k : Int)) rfl hS ?_
              refine tnb 7 (.pointer (some ⟨p, o + k, none⟩)) rfl hS ?_
              refine tnd 8 (.int .i64 x) rfl (.inl ⟨by rfl, fun w' hw' => by have c := (HSE.out w' hw').cell HX.out id; go_simp⟩) hS ?_
              refine tnb 9 (.bool true) rfl hS ?_
              refine tna 10 (.bool true) rfl hS ?_
              refine tna 11 (.bool true) rfl hS ?_
              refine tna 12 (.slice da q dc) rfl hS ?_
              refine tna 13 (.int .i64 (k : Int)) rfl hS ?_
              refine wpAnyH_one (k := 14) rfl (by kernel_rfl) ?_
              go_wp2_with fail
              refine (HAM2.out wq41 (HW0.out.trans (HSE.out _ hS))).mono ?_
              rintro e wq42 ⟨rfl, hk⟩
              have hS1 := HSI.out _ ((HSE.out _ hS).trans hk)
              clear hS hk
              go_wp2_with fail
              refine ⟨hS1, ?_⟩
              refine tnb 15 (.bool true) rfl hS1 ?_
              refine tna 16 (.bool true) rfl hS1 ?_
              refine tna 17 (.bool true) rfl hS1 ?_
              refine tna 18 (.int .i64 (m : Int)) rfl hS1 ?_
              refine tnb 19 (.bool false) rfl hS1 ?_
              refine tna 20 (.bool false) rfl hS1 ?_
              refine tna 21 (.slice (some ⟨p, o, none⟩) n ca) rfl hS1 ?_
              refine tna 22 (.int .i64 (k : Int)) rfl hS1 ?_
              refine tnb 23 (.pointer (some ⟨p, o + k, none⟩)) rfl hS1 ?_
              refine tnd 24 (.int .i64 x) rfl (.inl ⟨by rfl, fun w' hw' => by have c := (HSE.out w' hw').cell HX.out id; go_simp⟩) hS1 ?_
              refine tna 25 (.slice (some ⟨p, o, none⟩) n ca) rfl hS1 ?_
              refine tna 26 (.int .i64 (m : Int)) rfl hS1 ?_
              refine tnb 27 (.pointer (some ⟨p, o + m, none⟩)) rfl hS1 ?_
              refine tnd 28 (.int .i64 z) rfl (.inl ⟨by rfl, fun w' hw' => by have c := (HSE.out w' hw').cell HM.out id; go_simp⟩) hS1 ?_
              refine tnb 29 (.bool false) rfl hS1 ?_
              refine tna 30 (.bool false) rfl hS1 ?_
              refine tna 31 (.bool false) rfl hS1 ?_
              refine wpAnyH_done (by kernel_rfl) ?_ _
              have HKR := Lib.hid (HSE.out _ hS1)
              clear hS1 HSE HSI
              have HK := Lib.hid (HK.out.trans HKR.out)
              have HW0 := Lib.hid (HW0.out.trans HKR.out)
              go_wp2_with fail
              go_roundw
              case rel => exact ⟨k + 1, some m, by omega, rfl, by go_num, Lib.hid (HB.out.skip (.inr (.inr ⟨m, rfl, by rw [HXD.out, HZD.out]; omega⟩))), HK⟩
              case measure => simp [intOf]; omega
        · go_wp2_with fail
          obtain ⟨S, hS0⟩ : ∃ S : World → Prop, S = fun w' => Keep noBlk wr w' := ⟨_, rfl⟩
          have HSE := Lib.hid (show ∀ w', S w' → Keep noBlk wr w' from fun w' h => by rw [hS0] at h; exact h)
          have HSI := Lib.hid (show ∀ w', Keep noBlk wr w' → S w' from fun w' h => by rw [hS0]; exact h)
          have hS : S wr.drew := by rw [hS0]; exact (Keep.refl _ _).drew
          clear hS0
          refine wp_region_held (S := S) (by kernel_rfl) ?_
          change wpAnyH _ _ _ _ _ _ _ _ wr.drew
          generalize wr.drew = wq41 at hS ⊢
          refine tna 0 (.slice (some ⟨p2, o2, none⟩) n tc) rfl hS ?_
          refine tna 1 (.int .i64 (k : Int)) rfl hS ?_
          refine tnb 2 (.pointer (some ⟨p2, o2 + k, none⟩)) rfl hS ?_
          refine tnd 3 (.bool true) rfl (.inl ⟨by rfl, fun w' hw' => by have c := (HSE.out w' hw').cell HY.out id; go_simp⟩) hS ?_
          refine tna 4 (.bool true) rfl hS ?_
          refine tna 5 (.slice (some ⟨p, o, none⟩) n ca) rfl hS ?_
          refine tna 6 (.int .i64 (k : Int)) rfl hS ?_
          refine tnb 7 (.pointer (some ⟨p, o + k, none⟩)) rfl hS ?_
          refine tnd 8 (.int .i64 x) rfl (.inl ⟨by rfl, fun w' hw' => by have c := (HSE.out w' hw').cell HX.out id; go_simp⟩) hS ?_
          refine tnb 9 (.bool true) rfl hS ?_
          refine tna 10 (.bool true) rfl hS ?_
          refine tna 11 (.bool true) rfl hS ?_
          refine tna 12 (.slice da q dc) rfl hS ?_
          refine tna 13 (.int .i64 (k : Int)) rfl hS ?_
          refine wpAnyH_one (k := 14) rfl (by kernel_rfl) ?_
          go_wp2_with fail
          refine (HAM2.out wq41 (HW0.out.trans (HSE.out _ hS))).mono ?_
          rintro e wq42 ⟨rfl, hk⟩
          have hS1 := HSI.out _ ((HSE.out _ hS).trans hk)
          clear hS hk
          go_wp2_with fail
          refine ⟨hS1, ?_⟩
          refine tnb 15 (.bool false) rfl hS1 ?_
          refine tna 16 (.bool false) rfl hS1 ?_
          refine tna 17 (.bool false) rfl hS1 ?_
          refine tnc 18 undef rfl hS1 ?_
          refine tnc 19 undef rfl hS1 ?_
          refine tnc 20 undef rfl hS1 ?_
          refine tnc 21 undef rfl hS1 ?_
          refine tnc 22 undef rfl hS1 ?_
          refine tnc 23 undef rfl hS1 ?_
          refine tnc 24 undef rfl hS1 ?_
          refine tnc 25 undef rfl hS1 ?_
          refine tnc 26 undef rfl hS1 ?_
          refine tnc 27 undef rfl hS1 ?_
          refine tnc 28 undef rfl hS1 ?_
          refine tnc 29 undef rfl hS1 ?_
          refine tnc 30 undef rfl hS1 ?_
          refine tna 31 (.bool false) rfl hS1 ?_
          refine wpAnyH_done (by kernel_rfl) ?_ _
          have HKR := Lib.hid (HSE.out _ hS1)
          clear hS1 HSE HSI
          have HK := Lib.hid (HK.out.trans HKR.out)
          have HW0 := Lib.hid (HW0.out.trans HKR.out)
          go_wp2_with fail
          go_roundw
          case rel => exact ⟨k + 1, r, by omega, rfl, by go_num, Lib.hid (HB.out.skip (.inr (.inl (of_decide_eq_true HBA.out)))), HK⟩
          case measure => simp [intOf]; omega
      · go_wp2_with fail
        obtain ⟨S, hS0⟩ : ∃ S : World → Prop, S = fun w' => Keep noBlk wr w' := ⟨_, rfl⟩
        have HSE := Lib.hid (show ∀ w', S w' → Keep noBlk wr w' from fun w' h => by rw [hS0] at h; exact h)
        have HSI := Lib.hid (show ∀ w', Keep noBlk wr w' → S w' from fun w' h => by rw [hS0]; exact h)
        have hS : S wr.drew := by rw [hS0]; exact (Keep.refl _ _).drew
        clear hS0
        refine wp_region_held (S := S) (by kernel_rfl) ?_
        change wpAnyH _ _ _ _ _ _ _ _ wr.drew
        generalize wr.drew = wq41 at hS ⊢
        refine tna 0 (.slice (some ⟨p2, o2, none⟩) n tc) rfl hS ?_
        refine tna 1 (.int .i64 (k : Int)) rfl hS ?_
        refine tnb 2 (.pointer (some ⟨p2, o2 + k, none⟩)) rfl hS ?_
        refine tnd 3 (.bool true) rfl (.inl ⟨by rfl, fun w' hw' => by have c := (HSE.out w' hw').cell HY.out id; go_simp⟩) hS ?_
        refine tna 4 (.bool true) rfl hS ?_
        refine tna 5 (.slice (some ⟨p, o, none⟩) n ca) rfl hS ?_
        refine tna 6 (.int .i64 (k : Int)) rfl hS ?_
        refine tnb 7 (.pointer (some ⟨p, o + k, none⟩)) rfl hS ?_
        refine tnd 8 (.int .i64 x) rfl (.inl ⟨by rfl, fun w' hw' => by have c := (HSE.out w' hw').cell HX.out id; go_simp⟩) hS ?_
        refine tnb 9 (.bool false) rfl hS ?_
        refine tna 10 (.bool false) rfl hS ?_
        refine tna 11 (.bool false) rfl hS ?_
        refine tnc 12 undef rfl hS ?_
        refine tnc 13 undef rfl hS ?_
        refine tnc 14 undef rfl hS ?_
        refine tnc 15 undef rfl hS ?_
        refine tna 16 (.bool false) rfl hS ?_
        refine tna 17 (.bool false) rfl hS ?_
        refine tnc 18 undef rfl hS ?_
        refine tnc 19 undef rfl hS ?_
        refine tnc 20 undef rfl hS ?_
        refine tnc 21 undef rfl hS ?_
        refine tnc 22 undef rfl hS ?_
        refine tnc 23 undef rfl hS ?_
        refine tnc 24 undef rfl hS ?_
        refine tnc 25 undef rfl hS ?_
        refine tnc 26 undef rfl hS ?_
        refine tnc 27 undef rfl hS ?_
        refine tnc 28 undef rfl hS ?_
        refine tnc 29 undef rfl hS ?_
        refine tnc 30 undef rfl hS ?_
        refine tna 31 (.bool false) rfl hS ?_
        refine wpAnyH_done (by kernel_rfl) ?_ _
        have HKR := Lib.hid (HSE.out _ hS)
        clear hS HSE HSI
        have HK := Lib.hid (HK.out.trans HKR.out)
        have HW0 := Lib.hid (HW0.out.trans HKR.out)
        go_wp2_with fail
        go_roundw
        case rel => exact ⟨k + 1, r, by omega, rfl, by go_num, Lib.hid (HB.out.skip (.inl (by rw [HCT.out, decide_eq_false (by omega)]; rfl))), HK⟩
        case measure => simp [intOf]; omega
  · obtain rfl : n = k := by omega
    go_wp2_with fail
    go_ret
    exact ⟨r, rfl, HB.out, HK.out⟩
end Go.Proofs.Ytfjklgbakhjjiaa

/-
  caulkerref07: Choose.
  Conditions: none but those told.
-/
namespace Go.Proofs.Ytfjklgbakhjjiaa
open Go.RowKit Go.Maps Go.ChangeMaps
set_option maxRecDepth 100000
set_option linter.unusedVariables false

set_option maxHeartbeats 16000000 in
theorem rpchoose_any (w : World) (v vt : Value) (fr : List Int) (th : List Bool) (cp : Int) (hr : Rd w 1 v fr.length (fr.map fun x => .int .i64 x)) (ht : Rd w 1 vt th.length (th.map Value.bool)) :
    Calls Try.prog 65 #[v, vt, .int .i64 cp] w (ChPost w fr th cp) := by
  have HC := Lib.hid (rpcheck_any w v vt fr th cp hr ht)
  obtain ⟨bb, hbb⟩ : ∃ b, checkB fr th cp = b := ⟨_, rfl⟩
  have HBB := Lib.hid hbb
  rw [hbb] at HC
  have HR := Lib.hid hr; have HT := Lib.hid ht
  clear hbb
  cases bb
  · have HP : Hid (∀ w', Keep noBlk w w' → ∀ e, e = .returned (.tuple #[.slice none 0 0, .int .i64 2]) → ChPost w fr th cp e w') := Lib.hid (fun w' k e he => by unfold ChPost; rw [HBB.out, if_neg (by decide)]; exact ⟨he, k⟩)
    obtain ⟨oa, ca, rfl, -, -⟩ := hr.form
    obtain ⟨ta, tc, rfl, -, -⟩ := ht.form
    clear hr ht
    go_enter Try.func65, Try.ntmps65
    go_wp2_with fail
    refine HC.out.mono ?_
    rintro e w2 ⟨rfl, hk⟩
    have HK := Lib.hid hk
    clear hk HC
    go_wp2_with fail
    go_ret2
    exact HP.out _ HK.out _ rfl
  · obtain ⟨h1, h2, h3, h4, h5, h6⟩ := checkB_true HBB.out
    obtain ⟨c, rfl⟩ : ∃ c : Nat, cp = (c : Int) := ⟨cp.toNat, by omega⟩
    have hc0 : 0 < c := by omega
    have HNO : Hid (chooseL fr th c = none → ∀ w', Keep noBlk w w' → ∀ e, e = .returned (.tuple #[.slice none 0 0, .int .i64 15]) → ChPost w fr th (c : Int) e w') := Lib.hid (fun hn w' k e he => by unfold ChPost; rw [HBB.out, if_pos rfl, Int.toNat_natCast, hn]; exact ⟨he, k⟩)
    have HYE : Hid (∀ l, chooseL fr th c = some l → ∀ v w', NewR w w' v l → Keep noBlk w w' → ∀ e, e = .returned (.tuple #[v, .int .i64 0]) → ChPost w fr th (c : Int) e w') := Lib.hid (fun l hl v w' hv k e he => by unfold ChPost; rw [HBB.out, if_pos rfl, Int.toNat_natCast, hl]; exact ⟨v, he, hv, k⟩)
    have HBE := Lib.hid (fun wx (k : Keep noBlk w wx) vc ch hc h9 => pbest_any wx v vt vc fr th ch (hr.keep k fun _ _ => id) (ht.keep k fun _ _ => id) hc h3 h2 h9)
    have HH3 := Lib.hid h3
    obtain ⟨oa, ca, rfl, -, -⟩ := hr.form
    obtain ⟨ta, tc, rfl, -, -⟩ := ht.form
    obtain ⟨n, hn_n⟩ : ∃ x, fr.length = x := ⟨_, rfl⟩
    have HN := Lib.hid hn_n
    have HTL : Hid (th.length = n) := Lib.hid (by rw [h3, hn_n])
    rw [h3, hn_n] at HC HT HBE ⊢
    rw [hn_n] at h1 h2 HR
    clear hr ht h3 h4 h6 hn_n
    go_enter Try.func65, Try.ntmps65
    go_wp2_with fail
    refine HC.out.mono ?_
    rintro e w2 ⟨rfl, hk⟩
    have HK2 := Lib.hid hk
    clear hk HC
    go_wp2_with fail
    go_loopw [9, 10] (fun t i wr => ∃ (k q : Nat), k ≤ n ∧ q ≤ k ∧ t = .int .i64 q ∧ i = .int .i64 k ∧ Hid ((th.take k).countP id = q) ∧ Hid (Keep noBlk w wr)) (fun _ i _ => n - (intOf i).toNat)
    case atStart => exact ⟨0, 0, Nat.zero_le _, Nat.le_refl _, rfl, rfl, Lib.hid rfl, HK2⟩
    case round =>
    clear HK2
    obtain ⟨k, q, hk, hqk, rfl, rfl, HQ, HK⟩ := hrel
    have HT := Lib.hid (HT.out.keep HK.out fun _ _ => id)
    by_cases hlt : k < n
    · have hki : (k : Int) < (n : Int) := by omega
      have hk0 : (0 : Int) ≤ (k : Int) := by omega
      obtain ⟨y, hy⟩ : ∃ x, th[k]? = some x := ⟨th[k]'(by rw [HTL.out]; exact hlt), List.getElem?_eq_getElem _⟩
      have h_r := HT.out
      rw [← HTL.out] at h_r
      obtain ⟨p2, o2, cap', h_v, hcy⟩ := rd_bool h_r hy
      rw [HTL.out] at h_v
      have e1 : ta = some ⟨p2, o2, none⟩ := by cases h_v; rfl
      subst e1
      clear h_v h_r
      have HUP := Lib.hid (upN_take th hy)
      clear hy
      cases y
      · go_wp2_with fail
        go_roundw
        case rel => exact ⟨k + 1, q, by omega, by omega, rfl, by go_num, Lib.hid (by rw [HUP.out, HQ.out]; rfl), HK⟩
        case measure => simp [intOf]; omega
      · go_wp2_with fail
        go_roundw
        case rel => exact ⟨k + 1, q + 1, by omega, by omega, by go_num, by go_num, Lib.hid (by rw [HUP.out, HQ.out]; rfl), HK⟩
        case measure => simp [intOf]; omega
    · obtain rfl : n = k := by omega
      have hup : upN th = q := by
        have h := HQ.out
        rw [List.take_of_length_le (by rw [HTL.out]; exact Nat.le_refl _)] at h
        exact h
      obtain ⟨wt, hwt⟩ : ∃ wt, min c q = wt := ⟨_, rfl⟩
      have hwn : wantN th c = wt := by unfold wantN; rw [hup]; exact hwt
      have HWN := Lib.hid hwn
      have hmin : min (c : Int) (q : Int) = (wt : Int) := by omega
      have hmin2 : (if (q : Int) < (c : Int) then (q : Int) else (c : Int)) = (wt : Int) := by split <;> omega
      clear hwn hup hwt
      by_cases hw0 : wt = 0
      · subst hw0
        have HCN := Lib.hid (HNO.out (choose_nobody HH3.out hc0 HWN.out))
        go_wp2_with fail
        go_ret2
        exact HCN.out _ HK.out _ rfl
      · have hwi : ((wt : Int) == 0) = false := by simp; omega
        have hwt8 : wt ≤ n := by omega
        go_wp2_with fail
        go_loopw [12] (fun t wx => ∃ (q : Nat) (oa : Option Addr) (oc : Nat), q ≤ wt ∧ t = .slice oa q oc ∧ Hid (q ≤ (rankL fr th).length) ∧ Hid (wx.ownsRow w.heap.size 3 1 (.slice oa q oc) q (nV ((rankL fr th).take q))) ∧ Hid (Keep noBlk w wx)) (fun t _ => match t with | .slice _ q _ => wt - q | _ => 0)
        case atStart => exact ⟨0, none, 0, Nat.zero_le _, rfl, Lib.hid (Nat.zero_le _), Lib.hid (World.ownsRow_nil _ _ _ _), HK⟩
        case round =>
        clear HK HT HQ
        obtain ⟨q, ua, uc, hq, rfl, HL, HO, HK⟩ := hrel
        have HTK : Hid (((rankL fr th).take q).length = q) := Lib.hid (by rw [List.length_take]; exact Nat.min_eq_left HL.out)
        by_cases hlq : q < wt
        · have hqi : (q : Int) < (wt : Int) := by omega
          have HBQ := Lib.hid (HBE.out wr HK.out (.slice ua q uc) ((rankL fr th).take q) (by rw [HTK.out]; exact Rd.of_owns HO.out) (by rw [HTK.out]; omega))
          go_wp2_with fail
          refine HBQ.out.mono ?_
          rintro e w3 ⟨r, rfl, hb, hk⟩
          have HNX := Lib.hid (BestAt.next (fr := fr) (th := th) (i := q) (r := r) (by rw [HN.out]; exact hb))
          have HO := Lib.hid (hk.owns HO.out fun _ _ => id); have HK := Lib.hid (HK.out.trans hk)
          clear hb hk HBQ
          cases r
          · have HCN := Lib.hid (HNO.out (choose_over (by have := List.getElem?_eq_none_iff.1 HNX.out; rw [HWN.out]; omega)))
            go_wp2_with fail
            go_ret2
            exact HCN.out _ HK.out _ rfl
          · rename_i m
            rw [show atV (some m) = (m : Int) from rfl]
            have hmneg : ¬ (m : Int) < 0 := by omega
            have HTS : Hid ((rankL fr th).take (q + 1) = (rankL fr th).take q ++ [m]) := Lib.hid (by rw [List.take_add_one, HNX.out]; rfl)
            have HL2 : Hid (q + 1 ≤ (rankL fr th).length) := Lib.hid (by have := (List.getElem?_eq_some_iff.1 HNX.out).1; omega)
            have hszw := HK.out.size
            obtain ⟨w8, hw8, hk8, hb8, hs8⟩ := alloc_facts w3 #[.int .i64 (m : Int)] 3
            have HR8 : Hid (Rd w8 1 (.slice (some ⟨w3.heap.size, 0, none⟩) 1 1) 1 [.int .i64 (m : Int)]) := Lib.hid (rd_blk (n := 1) (size := 1) (vs := [.int .i64 (m : Int)]) hb8 rfl (by unfold maxLen; omega))
            have HO8 := Lib.hid (hk8.owns HO.out fun _ _ => id); have HK8 := Lib.hid (HK.out.trans hk8)
            have hsz8 : w.heap.size ≤ w8.heap.size := HK8.out.size
            have hone : ∀ u ∈ [Value.int .i64 (m : Int)], u.oneCell' = true := by simp [Value.oneCell']
            clear hk8 hb8 hs8
            go_wp2_with (at_builtin; try rw [hw8]
                         refine wpList_append_rd rfl (.tmp 48) (.tmp 50) 43 rfl w.heap.size 3 (.int .i64 0) 1 8 Try.underlying43 infoI64 rfl (by decide) (.slice ua q uc) q (nV ((rankL fr th).take q)) rfl HO8.out (.slice (some ⟨w3.heap.size, 0, none⟩) 1 1) 1 [.int .i64 (m : Int)] rfl HR8.out hone (by unfold maxLen; omega) (by omega) hsz8 ?_
                         intro v' w5 ho5 hk5 hn5 hb5
                         obtain ⟨va, vc, rfl, -, -⟩ := (Rd.of_owns ho5).form
                         have HO5 : Hid (w5.ownsRow w.heap.size 3 1 (.slice va (q + 1) vc) (q + 1) (nV ((rankL fr th).take (q + 1)))) := Lib.hid (by rw [HTS.out]; unfold nV; rw [List.map_append]; exact ho5)
                         have HK5 := Lib.hid (HK8.out.trans' hk5 (U := noBlk) (fun _ _ h => h) (fun i hi e => by have := owns_base HO8.out e; omega))
                         clear ho5 hk5 hn5 hb5 hw8)
            go_roundw
            case rel => exact ⟨q + 1, va, vc, by omega, rfl, HL2, HO5, HK5⟩
            case measure => simp; omega
        · obtain rfl : q = wt := by omega
          have hwl : wantN th c ≤ (rankL fr th).length := by rw [HWN.out]; exact HL.out
          have hch := choose_full (by rw [HWN.out]; exact hw0) hwl
          rw [HWN.out] at hch
          have HRE := Lib.hid (HYE.out _ hch (.slice ua q uc) wr ⟨by rw [HTK.out]; exact Rd.of_owns HO.out, fun k hk => owns_base HO.out hk⟩ HK.out)
          clear hch hwl
          go_wp2_with fail
          go_ret2
          exact HRE.out _ rfl
end Go.Proofs.Ytfjklgbakhjjiaa

/-
  caulkerref07: Many.
  Conditions: none but those told.
-/
namespace Go.Proofs.Ytfjklgbakhjjiaa
open Go.RowKit Go.Maps Go.ChangeMaps
set_option maxRecDepth 100000
set_option linter.unusedVariables false

set_option maxHeartbeats 16000000 in
theorem rpmany_any (w : World) (v vt : Value) (fr : List Int) (th : List Bool) (cp : Int) (hr : Rd w 1 v fr.length (fr.map fun x => .int .i64 x)) (ht : Rd w 1 vt th.length (th.map Value.bool)) :
    Calls Try.prog 70 #[v, vt, .int .i64 cp] w (ManyPost w fr th cp) := by
  have HC := Lib.hid (rpcheck_any w v vt fr th cp hr ht)
  obtain ⟨bb, hbb⟩ : ∃ b, checkB fr th cp = b := ⟨_, rfl⟩
  have HBB := Lib.hid hbb
  rw [hbb] at HC
  have HR := Lib.hid hr; have HT := Lib.hid ht
  obtain ⟨oa, ca, rfl, -, -⟩ := hr.form
  obtain ⟨ta, tc, rfl, -, -⟩ := ht.form
  clear hr ht hbb
  cases bb
  · have HP : Hid (∀ w', Keep noBlk w w' → ∀ e, e = .returned (.tuple #[.int .i64 0, .int .i64 2]) → ManyPost w fr th cp e w') := Lib.hid (fun w' k e he => by unfold ManyPost; rw [HBB.out, if_neg (by decide)]; exact ⟨he, k⟩)
    go_enter Try.func70, Try.ntmps70
    go_wp2_with fail
    refine HC.out.mono ?_
    rintro e w2 ⟨rfl, hk⟩
    have HK := Lib.hid hk
    clear hk HC
    go_wp2_with fail
    go_ret2
    exact HP.out _ HK.out _ rfl
  · obtain ⟨h1, h2, h3, h4, h5, h6⟩ := checkB_true HBB.out
    obtain ⟨c, rfl⟩ : ∃ c : Nat, cp = (c : Int) := ⟨cp.toNat, by omega⟩
    have HP : Hid (∀ N : Nat, Rooms th c fr N → ∀ w', Keep noBlk w w' → ∀ e, e = .returned (.tuple #[.int .i64 (N : Int), .int .i64 0]) → ManyPost w fr th (c : Int) e w') := Lib.hid (fun N hN w' k e he => by unfold ManyPost; rw [HBB.out, if_pos rfl]; exact ⟨N, by rw [Int.toNat_natCast]; exact hN, he, k⟩)
    obtain ⟨n, hn⟩ : ∃ n, fr.length = n := ⟨_, rfl⟩
    have HN := Lib.hid hn
    skip
    have HLE := Lib.hid (getD_le h6)
    obtain ⟨S0, hS0⟩ : ∃ s, sumN fr = s := ⟨_, rfl⟩
    have hS0b : S0 ≤ 40000 := by rw [← hS0]; have := sumN_le h6; omega
    have HS0 := Lib.hid hS0
    have HTL := Lib.hid h3
    rw [hn] at HC h1 h2 HR ⊢
    rw [h3, hn] at HC ⊢
    have hc1 : 1 ≤ c := by omega
    have hc3 : c ≤ 3 := by omega
    clear h3 h4 h5 h6 hn hS0
    go_enter Try.func70, Try.ntmps70
    go_wp2_with fail
    refine HC.out.mono ?_
    rintro e w2 ⟨rfl, hk⟩
    have HK2 := Lib.hid hk
    clear hk HC
    obtain ⟨w0, hw0, hk0, hb0, hs0⟩ := alloc_facts w2 #[] 3
    have HO0 : Hid (w0.ownsRow w.heap.size 3 1 (.slice (some ⟨w2.heap.size, 0, none⟩) 0 0) 0 []) := Lib.hid (by rw [← hw0]; exact World.ownsRow_made w2 #[] 0 HK2.out.size (by unfold maxLen; omega) rfl)
    have HR0 := Lib.hid (HR.out.keep (HK2.out.trans hk0) fun _ _ => id)
    have HK0 := Lib.hid (HK2.out.trans hk0)
    have hsw := HK0.out.size
    clear hk0 hb0 hs0
    go_wp2_with (at_builtin; try rw [hw0]
                 refine wpList_append_rd rfl (.tmp 21) (.tmp 22) 43 rfl w.heap.size 3 (.int .i64 0) 1 8 Try.underlying43 infoI64 rfl (by decide) (.slice (some ⟨w2.heap.size, 0, none⟩) 0 0) 0 ([]) rfl HO0.out (.slice oa n ca) n (fr.map fun x => .int .i64 x) rfl HR0.out (oneCell_ints _) (by unfold maxLen; omega) (by omega) hsw ?_
                 intro v' w3 ho5 hk5 hn5 hb5
                 rw [Nat.zero_add, List.nil_append] at ho5
                 obtain ⟨H1a, cap, rfl, -, -⟩ := (Rd.of_owns ho5).form
                 have H1 := Lib.hid ho5
                 have KH1 := Lib.hid hk5
                 clear ho5 hk5 hn5 hb5 hw0)
    have HK3 := Lib.hid (HK0.out.trans' KH1.out (U := noBlk) (fun _ _ h => h) (fun i hi e => by have := owns_base HO0.out e; omega))
    obtain ⟨g, e1, hrow⟩ := IRow.of_owns H1.out (by omega) HN.out
    subst e1
    have HROW := Lib.hid hrow
    have hbase := hrow.1
    clear hrow HK2 HK0 HO0 HR0
    go_loopw [10] (fun i wr => ∃ (N : Nat) (fk : List Int), N ≤ S0 ∧ i = .int .i64 N ∧ Hid (IRow wr w.heap.size g cap fk) ∧ Hid (fk.length = n) ∧ Hid (N + sumN fk ≤ S0) ∧ Hid (checkB fk th (c : Int) = true) ∧ Hid (∀ m, Rooms th c fk m → Rooms th c fr (N + m)) ∧ Hid (Keep noBlk w wr)) (fun i _ => S0 + 1 - (intOf i).toNat)
    case atStart => exact ⟨0, fr, Nat.zero_le _, rfl, HROW, HN, Lib.hid (by rw [HS0.out]; omega), HBB, Lib.hid (fun m h => by rw [Nat.zero_add]; exact h), HK3⟩
    case round =>
    clear HROW HK3
    obtain ⟨N, fk, hN, rfl, HROW, HFL, HSUM, HCK, HRM, HK⟩ := hrel
    have HFE := Lib.hid (getD_le (checkB_true HCK.out).2.2.2.2.2)
    have hcp : (c : Int) = (c : Int) := rfl
    have HCH := rpchoose_any wr _ (.slice ta th.length tc) fk th (c : Int) HROW.out.rd (HT.out.keep HK.out fun _ _ => id)
    rw [HFL.out, HTL.out, HN.out] at HCH
    have HCH := Lib.hid HCH
    obtain ⟨oc, hoc⟩ : ∃ o, chooseL fk th c = o := ⟨_, rfl⟩
    have HOC := Lib.hid hoc
    clear hoc hcp
    go_wp2_with fail
    refine HCH.out.mono ?_
    intro e w4 hpost
    unfold ChPost at hpost
    rw [HCK.out, if_pos rfl, Int.toNat_natCast, HOC.out] at hpost
    clear HCH
    cases oc with
    | none =>
      obtain ⟨rfl, hk⟩ := hpost
      have HK4 := Lib.hid (HK.out.trans hk)
      have HRN : Hid (Rooms th c fr N) := Lib.hid (HRM.out 0 (.none HOC.out))
      clear hk
      go_wp2_with fail
      go_ret2
      exact HP.out N HRN.out _ HK4.out _ rfl
    | some l =>
      obtain ⟨v, rfl, hnr, hk⟩ := hpost
      have hgw := HROW.out.lt
      have HROW4 := Lib.hid (HROW.out.keep hk id); have HK4 := Lib.hid (HK.out.trans hk)
      have hcs := choose_some HOC.out
      obtain ⟨q, hq⟩ : ∃ q, l.length = q := ⟨_, rfl⟩
      have HQ := Lib.hid hq
      obtain ⟨va, vc, rfl, -, -⟩ := hnr.1.form
      have HRL := Lib.hid hnr.1
      have HFB : Hid (∀ i, (Value.slice va q vc).ownBlock = some i → i ≠ g) := Lib.hid (fun i hi e => by
        have := hnr.2 i (by rw [← hi, hq])
        omega)
      rw [hq] at HRL
      have hql : q ≤ 8 := by
        have h1 : l.length ≤ (List.range fk.length).length := List.Nodup.length_le_of_subset hcs.2.2.2.1 fun d hd => List.mem_range.2 (hcs.2.2.2.2 d hd).1
        rw [List.length_range, HFL.out] at h1
        omega
      have HND := Lib.hid hcs.2.2.2.1
      have HIN : Hid (∀ d ∈ l, d < n ∧ 0 < fk.getD d 0) := Lib.hid (fun d hd => by
        have h1 := hcs.2.2.2.2 d hd
        rw [HFL.out] at h1
        have h2 := h1.2
        unfold canTake at h2
        rw [Bool.and_eq_true, decide_eq_true_eq] at h2
        exact ⟨h1.1, h2.2⟩)
      have HSD := Lib.hid (choose_dec HOC.out (by omega))
      clear hk hnr hcs hgw
      rw [hq]
      clear hq
      go_wp2_with fail
      go_loopw [13] (fun i wr => ∃ j : Nat, j ≤ q ∧ i = .int .i64 j ∧ Hid (IRow wr w.heap.size g cap (decL fk (l.take j))) ∧ Hid (Rd wr 1 (.slice va q vc) q (nV l)) ∧ Hid (Keep noBlk w wr)) (fun i _ => q - (intOf i).toNat)
      case atStart => exact ⟨0, Nat.zero_le _, rfl, HROW4, HRL, HK4⟩
      case round =>
      clear HROW4 HRL HK4 HROW HK
      obtain ⟨j, hj, rfl, HROW, HRL, HK⟩ := hrel
      by_cases hlt : j < q
      · have hki : (j : Int) < (q : Int) := by omega
        have hk0 : (0 : Int) ≤ (j : Int) := by omega
        obtain ⟨d, hd⟩ : ∃ d, l[j]? = some d := ⟨l[j]'(by rw [HQ.out]; exact hlt), List.getElem?_eq_getElem _⟩
        have hrd := HRL.out
        rw [← HQ.out] at hrd
        obtain ⟨p, o, cap', hv, hcx⟩ := rd_nat hrd hd
        rw [HQ.out] at hv
        have e1 : va = some ⟨p, o, none⟩ := by cases hv; rfl
        subst e1
        obtain ⟨hdn, hdp⟩ := HIN.out d (List.mem_of_getElem? hd)
        have hnk : d ∉ l.take j := by
          intro hm
          obtain ⟨i, hi⟩ := List.getElem?_of_mem hm
          have hik := (List.getElem?_eq_some_iff.1 hi).1
          rw [List.length_take] at hik
          rw [List.getElem?_take, if_pos (by omega)] at hi
          obtain ⟨h1, h2⟩ := List.getElem?_eq_some_iff.1 hi
          obtain ⟨h3, h4⟩ := List.getElem?_eq_some_iff.1 hd
          exact List.pairwise_iff_getElem.1 HND.out i j h1 h3 (by omega) (h2.trans h4.symm)
        have hlen : (decL fk (l.take j)).length = n := by rw [decL_len, HFL.out]
        obtain ⟨x, hx⟩ : ∃ x, (decL fk (l.take j))[d]? = some x := ⟨(decL fk (l.take j))[d]'(by rw [hlen]; exact hdn), List.getElem?_eq_getElem _⟩
        have hxe : x = fk.getD d 0 := by
          have h1 := decL_get (l.take j) fk (List.Nodup.sublist (List.take_sublist _ _) HND.out) (fun i hi => by rw [HFL.out]; exact (HIN.out i (List.mem_of_mem_take hi)).1) d
          rw [if_neg hnk, List.getD_eq_getElem?_getD, hx] at h1
          have h2 : x = fk.getD d 0 - 0 := h1
          omega
        have hx0 : 0 < x := by omega
        have hx4 : x ≤ 4096 := by rw [hxe]; exact HFE.out d
        have hcd := HROW.out.cell hx
        have hfz := HROW.out.free d
        have hset := HROW.out.set (k := d) (x - 1)
        have hds : (decL fk (l.take j)).set d (x - 1) = decL fk (l.take (j + 1)) := by
          rw [List.take_add_one, hd]
          show _ = decL fk (l.take j ++ [d])
          rw [decL_snoc, List.getD_eq_getElem?_getD, hx]
          rfl
        rw [hds] at hset
        have HSET := Lib.hid hset
        have hdi : (d : Int) < (n : Int) := by omega
        have hd0 : (0 : Int) ≤ (d : Int) := by omega
        clear hrd hv hd hnk hlen hx hxe hset hds hdp
        go_wp2_with fail
        have HK5 := Lib.hid (HK.out.trans' HSET.out.2 (U := noBlk) (fun _ _ h => h) (fun i hi e => by omega))
        have HR5 := Lib.hid (HRL.out.keep HSET.out.2 (fun i hi e => HFB.out i hi e))
        have HO5 := Lib.hid HSET.out.1
        clear HSET HROW HRL HK
        go_roundw
        case rel => exact ⟨j + 1, by omega, by go_num, HO5, HR5, HK5⟩
        case measure => simp [intOf]; omega
      · obtain rfl : q = j := by omega
        have hrow := HROW.out
        rw [List.take_of_length_le (by rw [HQ.out]; exact Nat.le_refl _)] at hrow
        have HROW2 := Lib.hid hrow
        have HF2 : Hid ((decL fk l).length = n) := Lib.hid (by rw [decL_len, HFL.out])
        have HS2 : Hid (N + 1 + sumN (decL fk l) ≤ S0) := Lib.hid (by have := HSUM.out; have := HSD.out; omega)
        have hN1 : N + 1 ≤ S0 := by have := HS2.out; omega
        have HE2 : Hid (checkB (decL fk l) th (c : Int) = true) := Lib.hid (by
          have h := HCK.out
          unfold checkB okFree at h ⊢
          simp only [Bool.and_eq_true, decide_eq_true_eq, List.all_eq_true, decL_len] at h ⊢
          refine ⟨h.1, fun x hx => ?_⟩
          obtain ⟨j, hj⟩ := List.getElem?_of_mem hx
          have hg := decL_get l fk HND.out (fun i hi => by rw [HFL.out]; exact (HIN.out i hi).1) j
          have hjl := (List.getElem?_eq_some_iff.1 hj).1
          rw [decL_len] at hjl
          have hf := h.2 (fk.getD j 0) (by rw [List.getD_eq_getElem?_getD, List.getElem?_eq_getElem hjl]; exact List.getElem_mem hjl)
          have hi : j ∈ l → 0 < fk.getD j 0 := fun hm => (HIN.out j hm).2
          have hx2 : (decL fk l).getD j 0 = x := by rw [List.getD_eq_getElem?_getD, hj]; rfl
          rw [hx2] at hg
          split at hg
          · have := hi (by assumption); omega
          · omega)
        have HR2 : Hid (∀ m, Rooms th c (decL fk l) m → Rooms th c fr (N + 1 + m)) := Lib.hid (fun m hm => by
          have := HRM.out (m + 1) (.more HOC.out hm)
          rwa [show N + 1 + m = N + (m + 1) by omega])
        clear hrow
        go_wp2_with fail
        go_roundw
        case rel => exact ⟨N + 1, decL fk l, hN1, by go_num, HROW2, HF2, HS2, HE2, HR2, HK⟩
        case measure => simp [intOf]; omega
end Go.Proofs.Ytfjklgbakhjjiaa
