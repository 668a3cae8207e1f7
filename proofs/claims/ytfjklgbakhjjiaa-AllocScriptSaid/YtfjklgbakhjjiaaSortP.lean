/-
  The stable sort of devices by the room on them.
  Conditions: at most 8 of them.
-/
import Derived.Test.YtfjklgbakhjjiaaSortK
import Derived.Test.YtfjklgbakhjjiaaPlaceL
import Derived.Test.YtfjklgbakhjjiaaCmpAddr
import Derived.Test.YtfjklgbakhjjiaaIntA
import Derived.BigRegion
namespace Go.Proofs.Ytfjklgbakhjjiaa
open Go.RowKit Go.Maps Go.ChangeMaps
set_option maxRecDepth 100000
set_option linter.unusedVariables false

theorem rd_int {w : World} {v : Value} {l : List Int} (h : Rd w 1 v l.length (l.map fun x => .int .i64 x)) {k : Nat} {x : Int} (hk : l[k]? = some x) : ∃ g o cap, v = .slice (some ⟨g, o, none⟩) l.length cap ∧ w.cell? ⟨g, o + k, none⟩ = some (.int .i64 x) := by
  obtain ⟨h0, a, cap, rfl, h1, h2, h3, h4⟩ := h
  have hlt := (List.getElem?_eq_some_iff.1 hk).1
  obtain ⟨g, o, rfl, hc⟩ := h4 (by rw [List.length_map]; omega)
  exact ⟨g, o, cap, rfl, hc k _ (by rw [List.getElem?_map, hk]; rfl)⟩
/-- Numbers of devices as cells. -/
def nV (l : List Nat) : List Value := l.map fun (x : Nat) => Value.int .i64 (x : Int)
/-- A row of numbers of devices, of its own, in block g. -/
def NRow (w : World) (base g cap : Nat) (l : List Nat) : Prop := base ≤ g ∧ l.length ≤ cap ∧ cap ≤ maxLen ∧ ∃ cur : Array Value, w.heap[g]? = some (.cells cur 3 (0, 0)) ∧ cur.size = cap ∧ cur.toList.take l.length = nV l
theorem NRow.keep {T : Nat → Prop} {w w' : World} {base g cap : Nat} {l : List Nat} (h : NRow w base g cap l) (k : Keep T w w') (hT : ¬ T g) : NRow w' base g cap l := by
  obtain ⟨h1, h2, h3, cur, h4, h5⟩ := h
  exact ⟨h1, h2, h3, cur, k.blk h4 hT, h5⟩
theorem NRow.lt {w : World} {base g cap : Nat} {l : List Nat} (h : NRow w base g cap l) : g < w.heap.size := by
  obtain ⟨h1, h2, h3, cur, h4, h5⟩ := h
  exact (Array.getElem?_eq_some_iff.1 h4).1
theorem NRow.cell {w : World} {base g cap : Nat} {l : List Nat} (h : NRow w base g cap l) {k x : Nat} (hk : l[k]? = some x) : w.cell? ⟨g, k, none⟩ = some (.int .i64 (x : Int)) := by
  obtain ⟨h1, h2, h3, cur, h4, h5, h6⟩ := h
  have hl := (List.getElem?_eq_some_iff.1 hk).1
  refine blk_cell h4 ?_
  have h7 : (cur.toList.take l.length)[k]? = some (.int .i64 (x : Int)) := by
    rw [h6]
    unfold nV
    rw [List.getElem?_map, hk]
    rfl
  rw [List.getElem?_take, if_pos hl] at h7
  simpa using h7
theorem NRow.free {w : World} {base g cap : Nat} {l : List Nat} (h : NRow w base g cap l) (k : Nat) : w.frozen? ⟨g, k, none⟩ = false := by
  obtain ⟨h1, h2, h3, cur, h4, h5, h6⟩ := h
  exact blk_free h4 k
theorem NRow.set {w : World} {base g cap : Nat} {l : List Nat} (h : NRow w base g cap l) {k : Nat} (hk : k < l.length) (x : Nat) : NRow (w.setCell ⟨g, k, none⟩ (.int .i64 (x : Int))) base g cap (l.set k x) ∧ Keep (fun i => i = g) w (w.setCell ⟨g, k, none⟩ (.int .i64 (x : Int))) := by
  obtain ⟨h1, h2, h3, cur, h4, h5, h6⟩ := h
  refine ⟨⟨h1, by rw [List.length_set]; exact h2, h3, _, set_blk h4 k _, by rw [Array.size_setIfInBounds]; exact h5, ?_⟩, (Keep.refl (fun i => i = g) w).setCell (p := ⟨g, k, none⟩) (fun _ => rfl) _⟩
  rw [List.length_set, Array.toList_setIfInBounds, List.take_set, h6]
  unfold nV
  rw [List.map_set]
theorem NRow.rd {w : World} {base g cap : Nat} {l : List Nat} (h : NRow w base g cap l) : Rd w 1 (.slice (some ⟨g, 0, none⟩) l.length cap) l.length (nV l) := by
  obtain ⟨h1, h2, h3, cur, h4, h5, h6⟩ := h
  refine ⟨by simp [nV], some ⟨g, 0, none⟩, cap, rfl, h2, h3, (by intro e; cases e), fun _ => ⟨g, 0, rfl, fun i u hu => ?_⟩⟩
  refine blk_cell h4 ?_
  have hl : i < l.length := by have := (List.getElem?_eq_some_iff.1 hu).1; simpa [nV] using this
  rw [← h6, List.getElem?_take, if_pos hl] at hu
  simpa using hu
/-- Two neighbours change places. -/
theorem swap_list {A B : List Nat} {y x : Nat} : ((A ++ y :: x :: B).set (A.length + 1) y).set A.length x = A ++ x :: y :: B := by
  rw [List.set_append_right _ _ (by omega), List.set_append_right _ _ (by omega)]
  simp
theorem swap_list' {A B : List Nat} {y x : Nat} : ((A ++ y :: x :: B).set A.length x).set (A.length + 1) y = A ++ x :: y :: B := by
  rw [List.set_append_right _ _ (by omega), List.set_append_right _ _ (by omega)]
  simp
/-- Where a device's number stands at its place. -/
theorem ranks_put {fr : List Int} {A B : List Nat} {x : Nat} (h : Ranks fr (A ++ B)) (hA : ∀ y ∈ A.getLast?, aheadB fr y x = true) (hB : ∀ y ∈ B, aheadB fr x y = true) : Ranks fr (A ++ x :: B) := by
  unfold Ranks at *
  rw [List.pairwise_append] at h ⊢
  obtain ⟨h1, h2, h3⟩ := h
  refine ⟨h1, List.pairwise_cons.2 ⟨hB, h2⟩, fun a ha b hb => ?_⟩
  rcases List.mem_cons.1 hb with rfl | hb
  · rcases List.eq_nil_or_concat A with rfl | ⟨A', z, rfl⟩
    · cases ha
    · have hz : aheadB fr z b = true := hA z (by simp)
      rw [List.concat_eq_append] at h1 ha
      rcases List.mem_append.1 ha with h | h
      · exact ahead_trans ((List.pairwise_append.1 h1).2.2 a h z (List.mem_singleton.2 rfl)) hz
      · rw [List.mem_singleton.1 h]
        exact hz
  · exact h3 a ha b hb
theorem cmpI_lt (x y : Int) : decide (cmpI x y < 0) = decide (x < y) := by
  unfold cmpI
  by_cases h : x < y
  · simp [h]
  · by_cases h2 : y < x <;> simp [h, h2]
/-- How far the inner round has come: x, the i-th of the ones that were, stands ahead of B. -/
structure Sink (fr : List Int) (o ys : List Nat) (i j x : Nat) (A B : List Nat) : Prop where
  ys : ys = A ++ x :: (B ++ o.drop (i + 1))
  len : A.length = j
  at_ : o[i]? = some x
  ranks : Ranks fr (A ++ B)
  perm : (A ++ B).Perm (o.take i)
  below : ∀ y ∈ B, aheadB fr x y = true
theorem Sink.down {fr : List Int} {o ys : List Nat} {i j x : Nat} {A B : List Nat} {y : Nat} (h : Sink fr o ys i (j + 1) x (A ++ [y]) B) (hy : aheadB fr x y = true) : Sink fr o (A ++ x :: y :: (B ++ o.drop (i + 1))) i j x A (y :: B) := by
  have hl := h.len
  rw [List.length_append, List.length_singleton] at hl
  refine ⟨rfl, by omega, h.at_, by have := h.ranks; rwa [List.append_assoc] at this, by have := h.perm; rwa [List.append_assoc] at this, fun z hz => ?_⟩
  rcases List.mem_cons.1 hz with rfl | hz
  · exact hy
  · exact h.below z hz
theorem Sink.stop {fr : List Int} {o ys : List Nat} {i j x : Nat} {A B : List Nat} (h : Sink fr o ys i j x A B) (hA : ∀ y ∈ A.getLast?, aheadB fr y x = true) : ys = (A ++ x :: B) ++ o.drop (i + 1) ∧ Ranks fr (A ++ x :: B) ∧ (A ++ x :: B).Perm (o.take (i + 1)) := by
  refine ⟨by rw [h.ys]; simp, ranks_put h.ranks hA h.below, ?_⟩
  rw [List.take_add_one, h.at_]
  exact List.perm_middle.trans ((List.perm_append_comm (l₁ := [x]) (l₂ := A ++ B)).trans (h.perm.append_right [x]))

set_option maxHeartbeats 4000000 in
theorem scmp_any (w : World) (bx i j : Nat) (fr : List Int) (v : Value) (hr : Rd w 1 v fr.length (fr.map fun x => .int .i64 x)) (hB : w.heap[bx]? = some (.cells #[v] 43 (0, 0))) (hi : i < fr.length) (hj : j < fr.length) :
    Calls Try.prog 86 #[.int .i64 (i : Int), .int .i64 (j : Int), .pointer (some ⟨bx, 0, none⟩)] w fun e w' => e = .returned (.int .i64 (cmpI (fr.getD j 0) (fr.getD i 0))) ∧ Keep noBlk w w' := by
  obtain ⟨oa, ca, rfl, -, -⟩ := hr.form
  obtain ⟨n, hn⟩ : ∃ n, fr.length = n := ⟨_, rfl⟩
  obtain ⟨x, hx⟩ : ∃ x, fr[i]? = some x := ⟨fr[i]'hi, List.getElem?_eq_getElem _⟩
  obtain ⟨y, hy⟩ : ∃ x, fr[j]? = some x := ⟨fr[j]'hj, List.getElem?_eq_getElem _⟩
  have ex : fr.getD i 0 = x := by rw [List.getD_eq_getElem?_getD, hx]; rfl
  have ey : fr.getD j 0 = y := by rw [List.getD_eq_getElem?_getD, hy]; rfl
  rw [ex, ey]
  obtain ⟨p, o, cap, hv, hcx⟩ := rd_int hr hx
  have e1 : oa = some ⟨p, o, none⟩ := by cases hv; rfl
  subst e1
  obtain ⟨p', o', cap', hv', hcy⟩ := rd_int hr hy
  have e2 : (⟨p, o, none⟩ : Addr) = ⟨p', o', none⟩ := by cases hv'; rfl
  cases e2
  rw [hn] at hi hj hB
  have hc : w.cell? ⟨bx, 0, none⟩ = some (.slice (some ⟨p, o, none⟩) n ca) := blk_cell hB rfl
  have HC := Lib.hid (fun w' => cmp_any y x w')
  obtain ⟨r, hrr⟩ : ∃ r, cmpI y x = r := ⟨_, rfl⟩
  rw [hrr] at HC ⊢
  have hii : (i : Int) < (n : Int) := by omega
  have hji : (j : Int) < (n : Int) := by omega
  have hi0 : (0 : Int) ≤ (i : Int) := by omega
  have hj0 : (0 : Int) ≤ (j : Int) := by omega
  have HB := Lib.hid hB
  clear hr hn hx hy ex ey hv hv' hrr hB
  go_enter Try.func86, Try.ntmps86
  go_wp2_with fail
  obtain ⟨S, hS0⟩ : ∃ S : World → Prop, S = fun w' => Keep noBlk w w' := ⟨_, rfl⟩
  have HSE := Lib.hid (show ∀ w', S w' → Keep noBlk w w' from fun w' h => by rw [hS0] at h; exact h)
  have HSI := Lib.hid (show ∀ w', Keep noBlk w w' → S w' from fun w' h => by rw [hS0]; exact h)
  have hS : S w.drew := by rw [hS0]; exact (Keep.refl _ _).drew
  clear hS0
  refine wp_region_held (S := S) (by kernel_rfl) ?_
  change wpAnyH _ _ _ _ _ _ _ _ w.drew
  generalize w.drew = wq41 at hS ⊢
  refine tkd 0 (.slice (some ⟨p, o, none⟩) n ca) rfl (.inl ⟨by rfl, fun w' hw' => by have c := (HSE.out w' hw').cell hc id; go_simp⟩) hS ?_
  simp only [Act.put, List.setIfInBounds_toArray, List.set_cons_zero, List.set_cons_succ, List.getElem_toArray, List.getElem_cons_zero]
  refine tna 1 (.int .i64 (j : Int)) rfl hS ?_
  refine tnb 2 (.pointer (some ⟨p, o + j, none⟩)) rfl hS ?_
  refine tnd 3 (.int .i64 y) rfl (.inl ⟨by rfl, fun w' hw' => by have c := (HSE.out w' hw').cell hcy id; go_simp⟩) hS ?_
  refine tnd 4 (.slice (some ⟨p, o, none⟩) n ca) rfl (.inl ⟨by rfl, fun w' hw' => by have c := (HSE.out w' hw').cell hc id; go_simp⟩) hS ?_
  refine tna 5 (.int .i64 (i : Int)) rfl hS ?_
  refine tnb 6 (.pointer (some ⟨p, o + i, none⟩)) rfl hS ?_
  refine tnd 7 (.int .i64 x) rfl (.inl ⟨by rfl, fun w' hw' => by have c := (HSE.out w' hw').cell hcx id; go_simp⟩) hS ?_
  refine wpAnyH_one (k := 8) rfl (by kernel_rfl) ?_
  go_wp2_with fail
  refine (HC.out _).mono ?_
  rintro e wq42 ⟨rfl, hkw⟩
  have hk : Keep noBlk wq41 wq42 := hkw ▸ Keep.refl _ _
  clear hkw
  have hS1 := HSI.out _ ((HSE.out _ hS).trans hk)
  clear hS hk
  go_wp2_with fail
  refine ⟨hS1, ?_⟩
  refine tna 9 (.int .i64 r) rfl hS1 ?_
  refine wpAnyH_done (by kernel_rfl) ?_ _
  have HKR := Lib.hid (HSE.out _ hS1)
  clear hS1 HSE HSI
  have HK := Lib.hid HKR.out
  clear HKR
  go_wp2_with fail
  go_ret
  exact ⟨rfl, HK.out⟩

def SortPost (w : World) (base g cap : Nat) (fr : List Int) (o : List Nat) (e : Ending) (w' : World) : Prop := e = .returned (.tuple #[]) ∧ ∃ P, NRow w' base g cap P ∧ Ranks fr P ∧ P.Perm o ∧ Keep (fun j => j = g) w w'
set_option maxHeartbeats 16000000 in
theorem insort_any (w : World) (bx base g cap : Nat) (fr : List Int) (o : List Nat) (v : Value) (hr : Rd w 1 v fr.length (fr.map fun x => .int .i64 x)) (hB : w.heap[bx]? = some (.cells #[v] 43 (0, 0))) (hgv : v.ownBlock ≠ some g)
    (hrow : NRow w base g cap o) (h8 : o.length ≤ 8) (hinc : o.Pairwise (· < ·)) (hlt : ∀ i ∈ o, i < fr.length) :
    Calls Try.prog 101 #[.slice (some ⟨g, 0, none⟩) o.length cap, .int .i64 0, .int .i64 (o.length : Int), (.func (.func 86) #[] #[.pointer (some ⟨bx, 0, none⟩)])] w (SortPost w base g cap fr o) := by
  have HR := Lib.hid hr; have HB := Lib.hid hB; have HINC := Lib.hid hinc; have HLT := Lib.hid hlt; have HRW := Lib.hid hrow; have HGV := Lib.hid hgv
  obtain ⟨n, hn⟩ : ∃ n, o.length = n := ⟨_, rfl⟩
  have HN := Lib.hid hn
  rw [hn] at h8 ⊢
  have hgb : g ≠ bx := by
    intro e
    subst e
    obtain ⟨-, -, -, cur, h4, -⟩ := hrow
    rw [hB] at h4
    cases h4
  clear hr hB hinc hlt hrow hn hgv
  go_enter Try.func101, Try.ntmps101
  go_wp2_with fail
  go_loopw [8, 9] (fun i _ wr => ∃ (k : Nat) (P : List Nat), 1 ≤ k ∧ (k ≤ n ∨ k = 1) ∧ i = .int .i64 k ∧ Hid (NRow wr base g cap (P ++ o.drop k)) ∧ Hid (Ranks fr P) ∧ Hid (P.Perm (o.take k)) ∧ Hid (Keep (fun j => j = g) w wr)) (fun i _ _ => n - (intOf i).toNat)
  case atStart => exact ⟨1, o.take 1, Nat.le_refl _, .inr rfl, rfl, Lib.hid (by rw [List.take_append_drop]; exact HRW.out), Lib.hid (by unfold Ranks; rcases o with _ | ⟨x, o⟩ <;> simp), Lib.hid (List.Perm.refl _), Lib.hid (Keep.refl _ _)⟩
  case round =>
  obtain ⟨k, P, hk1, hkn, rfl, HROW, HRK, HPM, HK⟩ := hrel
  by_cases hlk : k < n
  · have hki : (k : Int) < (n : Int) := by omega
    have hk0 : (0 : Int) ≤ (k : Int) := by omega
    obtain ⟨x, hx⟩ : ∃ x, o[k]? = some x := ⟨o[k]'(by rw [HN.out]; exact hlk), List.getElem?_eq_getElem _⟩
    have hPl : P.length = k := by rw [HPM.out.length_eq, List.length_take, HN.out]; omega
    have hdrop : o.drop k = x :: o.drop (k + 1) := by
      rw [List.drop_eq_getElem_cons (by rw [HN.out]; exact hlk)]
      congr 1
      rw [List.getElem?_eq_getElem (by rw [HN.out]; exact hlk)] at hx
      exact Option.some.inj hx
    have HX := Lib.hid hx
    have HS0 : Hid (Sink fr o (P ++ o.drop k) k k x P []) := Lib.hid ⟨by rw [hdrop]; rfl, hPl, hx, by rw [List.append_nil]; exact HRK.out, by rw [List.append_nil]; exact HPM.out, fun y hy => by cases hy⟩
    obtain ⟨wo, hwo⟩ : ∃ wo, wr = wo := ⟨_, rfl⟩
    rw [hwo] at HROW HK ⊢
    clear hwo hx hPl hdrop
    go_wp2_with fail
    go_loopw [9] (fun i wr => ∃ (j : Nat) (ys A B : List Nat), j ≤ k ∧ i = .int .i64 j ∧ Hid (NRow wr base g cap ys) ∧ Hid (Sink fr o ys k j x A B) ∧ Hid (Keep (fun j => j = g) w wr)) (fun i _ => (intOf i).toNat)
    case atStart => exact ⟨k, _, P, [], Nat.le_refl _, rfl, HROW, HS0, HK⟩
    case round =>
    clear HROW HK HS0
    obtain ⟨j, ys, A, B, hj, rfl, HROW, HS, HK⟩ := hrel
    rcases Nat.eq_zero_or_pos j with hj0 | hj0
    · subst hj0
      have hA : A = [] := List.length_eq_zero_iff.1 HS.out.len
      have hstop : ∀ y ∈ A.getLast?, aheadB fr y x = true := by subst hA; intro y hy; cases hy
      clear hA
      go_wp2_with fail
      obtain ⟨S, hS0⟩ : ∃ S : World → Prop, S = fun w' => Keep noBlk wr w' := ⟨_, rfl⟩
      have HSE := Lib.hid (show ∀ w', S w' → Keep noBlk wr w' from fun w' h => by rw [hS0] at h; exact h)
      have HSI := Lib.hid (show ∀ w', Keep noBlk wr w' → S w' from fun w' h => by rw [hS0]; exact h)
      have hS : S wr.drew := by rw [hS0]; exact (Keep.refl _ _).drew
      clear hS0
      refine wp_region_held (S := S) (by kernel_rfl) ?_
      change wpAnyH _ _ _ _ _ _ _ _ wr.drew
      generalize wr.drew = wq41 at hS ⊢
      refine tka 0 (.int .i64 0) rfl hS ?_
      simp only [Act.put, List.setIfInBounds_toArray, List.set_cons_zero, List.set_cons_succ, List.getElem_toArray, List.getElem_cons_zero]
      refine tna 1 (.int .i64 0) rfl hS ?_
      refine tnb 2 (.bool false) rfl hS ?_
      refine tna 3 (.bool false) rfl hS ?_
      refine tnc 4 undef rfl hS ?_
      refine tnc 5 undef rfl hS ?_
      refine tnc 6 undef rfl hS ?_
      refine tnc 7 undef rfl hS ?_
      refine tnc 8 undef rfl hS ?_
      refine tnc 9 undef rfl hS ?_
      refine tnc 10 undef rfl hS ?_
      refine tnc 11 undef rfl hS ?_
      refine tnc 12 undef rfl hS ?_
      refine tnc 13 undef rfl hS ?_
      refine tnc 14 undef rfl hS ?_
      refine tnc 15 undef rfl hS ?_
      refine tna 16 (.bool false) rfl hS ?_
      refine wpAnyH_done (by kernel_rfl) ?_ _
      have HKR := Lib.hid (HSE.out _ hS)
      clear hS HSE HSI
      have HROW := Lib.hid (HROW.out.keep HKR.out id)
      have HK := Lib.hid (HK.out.trans' HKR.out (U := fun j => j = g) (fun _ _ h => h) (fun _ _ h => h.elim))
      clear HKR
      have HF := Lib.hid (HS.out.stop hstop)
      have HR2 : Hid (NRow _ base g cap ((A ++ x :: B) ++ o.drop (k + 1))) := Lib.hid (by rw [← HF.out.1]; exact HROW.out)
      clear hstop
      go_wp2_with fail
      go_roundw
      case rel => exact ⟨k + 1, A ++ x :: B, by omega, .inl (by omega), by go_num, HR2, Lib.hid HF.out.2.1, Lib.hid HF.out.2.2, HK⟩
      case measure => simp [intOf]; omega
    · obtain ⟨j, rfl⟩ : ∃ m, j = m + 1 := ⟨j - 1, by omega⟩
      obtain ⟨A, y, rfl⟩ : ∃ A' y, A = A' ++ [y] := by
        rcases List.eq_nil_or_concat A with rfl | ⟨A', z, rfl⟩
        · have := HS.out.len; simp at this
        · exact ⟨A', z, by rw [List.concat_eq_append]⟩
      have hAl : A.length = j := by have := HS.out.len; rw [List.length_append, List.length_singleton] at this; omega
      have hys : ys = A ++ y :: x :: (B ++ o.drop (k + 1)) := by rw [HS.out.ys]; simp
      have hcy := HROW.out.cell (k := j) (x := y) (by rw [hys, List.getElem?_append_right (by omega), hAl]; simp)
      have hcx := HROW.out.cell (k := j + 1) (x := x) (by rw [hys, List.getElem?_append_right (by omega), hAl]; simp)
      have hyo : y ∈ o := List.mem_of_mem_take (HS.out.perm.mem_iff.1 (by simp))
      have hxo : x ∈ o := List.mem_of_getElem? HX.out
      have hyx : y < x := by
        have hm : y ∈ o.take k := HS.out.perm.mem_iff.1 (by simp)
        obtain ⟨q, hq⟩ := List.getElem?_of_mem hm
        have hqk := (List.getElem?_eq_some_iff.1 hq).1
        rw [List.length_take] at hqk
        rw [List.getElem?_take, if_pos (by omega)] at hq
        have hx := HX.out
        obtain ⟨h1, rfl⟩ := List.getElem?_eq_some_iff.1 hq
        obtain ⟨h2, rfl⟩ := List.getElem?_eq_some_iff.1 hx
        exact List.pairwise_iff_getElem.1 HINC.out q k h1 h2 (by omega)
      have HYL := Lib.hid (HLT.out y hyo); have HXL := Lib.hid (HLT.out x hxo)
      have HC := Lib.hid (fun wx (kk : Keep (fun j => j = g) w wx) => scmp_any wx bx x y fr v (HR.out.keep kk fun b hb e => HGV.out (by rw [hb, e])) (kk.blk HB.out (fun e => hgb e.symm)) HXL.out HYL.out)
      obtain ⟨r, hr⟩ : ∃ r, cmpI (fr.getD y 0) (fr.getD x 0) = r := ⟨_, rfl⟩
      obtain ⟨bb, hbb⟩ : ∃ b, decide (r < 0) = b := ⟨_, rfl⟩
      have HAH : Hid (aheadB fr x y = bb) := Lib.hid (by
        rw [← hbb, ← hr, cmpI_lt]
        unfold aheadB
        rw [Bool.eq_iff_iff]
        simp only [Bool.or_eq_true, Bool.and_eq_true, decide_eq_true_eq]
        omega)
      rw [hr] at HC
      have HRB := Lib.hid hbb
      have HYS := Lib.hid hys; have HAL := Lib.hid hAl; have HYX := Lib.hid hyx
      clear hyo hxo hyx hr hbb hys hAl
      have hji : (0 : Int) < ((j + 1 : Nat) : Int) := by omega
      have hjn : ((j + 1 : Nat) : Int) < (n : Int) := by omega
      have hj1 : ((j + 1 : Nat) : Int) - 1 = (j : Int) := by omega
      obtain ⟨jj, hjj⟩ : ∃ jj, j + 1 = jj := ⟨_, rfl⟩
      rw [hjj] at hji hjn hj1 hcx ⊢
      have HJJ := Lib.hid hjj
      have hjn2 : (j : Int) < (n : Int) := by omega
      have hjp : 0 < jj := by omega
      have hjnn : (0 : Int) ≤ (j : Int) := by omega
      have hwj : IntKind.i64.wrap (j : Int) = (j : Int) := by rw [IntWalk.i64_in _ (by omega)]
      clear hjj
      go_wp2_with fail
      obtain ⟨S, hS0⟩ : ∃ S : World → Prop, S = fun w' => Keep noBlk wr w' := ⟨_, rfl⟩
      have HSE := Lib.hid (show ∀ w', S w' → Keep noBlk wr w' from fun w' h => by rw [hS0] at h; exact h)
      have HSI := Lib.hid (show ∀ w', Keep noBlk wr w' → S w' from fun w' h => by rw [hS0]; exact h)
      have hS : S wr.drew := by rw [hS0]; exact (Keep.refl _ _).drew
      clear hS0
      refine wp_region_held (S := S) (by kernel_rfl) ?_
      change wpAnyH _ _ _ _ _ _ _ _ wr.drew
      generalize wr.drew = wq41 at hS ⊢
      refine tka 0 (.int .i64 (jj : Int)) rfl hS ?_
      simp only [Act.put, List.setIfInBounds_toArray, List.set_cons_zero, List.set_cons_succ, List.getElem_toArray, List.getElem_cons_zero]
      refine tna 1 (.int .i64 0) rfl hS ?_
      refine tnb 2 (.bool true) rfl hS ?_
      refine tna 3 (.bool true) rfl hS ?_
      refine tna 4 (.func (.func 86) #[] #[.pointer (some ⟨bx, 0, none⟩)]) rfl hS ?_
      refine tna 5 (.slice (some ⟨g, 0, none⟩) n cap) rfl hS ?_
      refine tna 6 (.int .i64 (jj : Int)) rfl hS ?_
      refine tnb 7 (.pointer (some ⟨g, jj, none⟩)) rfl hS ?_
      refine tnd 8 (.int .i64 (x : Int)) rfl (.inl ⟨by rfl, fun w' hw' => by have c := (HSE.out w' hw').cell hcx id; go_simp⟩) hS ?_
      refine tna 9 (.slice (some ⟨g, 0, none⟩) n cap) rfl hS ?_
      refine tna 10 (.int .i64 (jj : Int)) rfl hS ?_
      refine tnb 11 (.int .i64 (j : Int)) rfl hS ?_
      refine tnb 12 (.pointer (some ⟨g, j, none⟩)) rfl hS ?_
      refine tnd 13 (.int .i64 (y : Int)) rfl (.inl ⟨by rfl, fun w' hw' => by have c := (HSE.out w' hw').cell hcy id; go_simp⟩) hS ?_
      refine wpAnyH_one (k := 14) rfl (by kernel_rfl) ?_
      go_wp2_with fail
      refine (HC.out _ (HK.out.trans' (HSE.out _ hS) (U := fun j => j = g) (fun _ _ h => h) (fun _ _ h => h.elim))).mono ?_
      rintro e wq42 ⟨rfl, hk⟩
      have hS1 := HSI.out _ ((HSE.out _ hS).trans hk)
      clear hS hk
      go_wp2_with fail
      refine ⟨hS1, ?_⟩
      refine tnd 15 (.bool bb) rfl (.inl ⟨by rfl, fun _ _ => by have e := HRB.out; go_simp⟩) hS1 ?_
      refine tna 16 (.bool bb) rfl hS1 ?_
      refine wpAnyH_done (by kernel_rfl) ?_ _
      have HKR := Lib.hid (HSE.out _ hS1)
      clear hS1 HSE HSI
      have HROW := Lib.hid (HROW.out.keep HKR.out id)
      have HK := Lib.hid (HK.out.trans' HKR.out (U := fun j => j = g) (fun _ _ h => h) (fun _ _ h => h.elim))
      have hcy := HKR.out.cell hcy id
      have hcx := HKR.out.cell hcx id
      clear HKR HC
      cases bb
      · have hstop : ∀ z ∈ (A ++ [y]).getLast?, aheadB fr z x = true := by
          intro z hz
          have e : z = y := by simpa using hz.symm
          subst e
          exact ahead_tot (by have := HYX.out; omega) HAH.out
        clear hcy hcx
        have HF := Lib.hid (HS.out.stop hstop)
        have HR2 : Hid (NRow _ base g cap (((A ++ [y]) ++ x :: B) ++ o.drop (k + 1))) := Lib.hid (by rw [← HF.out.1]; exact HROW.out)
        clear hstop
        go_wp2_with fail
        go_roundw
        case rel => exact ⟨k + 1, (A ++ [y]) ++ x :: B, by omega, .inl (by omega), by go_num, HR2, Lib.hid HF.out.2.1, Lib.hid HF.out.2.2, HK⟩
        case measure => simp [intOf]; omega
      · have HSD := Lib.hid (HS.out.down HAH.out)
        have hz1 := (HROW.out.set (k := jj) (by rw [HYS.out, ← HJJ.out]; simp [HAL.out]) y)
        have hz2 := (hz1.1.set (k := j) (by rw [List.length_set, HYS.out]; simp [HAL.out]) x)
        have hz3 : NRow ((wq42.setCell ⟨g, jj, none⟩ (.int .i64 (y : Int))).setCell ⟨g, j, none⟩ (.int .i64 (x : Int))) base g cap (A ++ x :: y :: (B ++ o.drop (k + 1))) := by
          have h := hz2.1
          rw [HYS.out, ← HJJ.out, ← HAL.out, swap_list] at h
          rw [← HJJ.out, ← HAL.out]
          exact h
        have hkk := HK.out.trans (hz1.2.trans hz2.2)
        have HZ := Lib.hid (And.intro hz3 hkk)
        have hf1 := HROW.out.free jj
        have hf2 := hz1.1.free j
        have hcy2 : (wq42.setCell ⟨g, jj, none⟩ (.int .i64 (y : Int))).cell? ⟨g, j, none⟩ = some (.int .i64 (y : Int)) := set_other (by intro e; have := HJJ.out; have e2 : jj = j := congrArg Addr.off e; omega) hcy
        clear hz1 hz2 hz3 hkk
        have hjjr : ((jj : Nat) : Int) < (n : Int) := hjn
        go_wp2_with fail
        go_region
        have HZ2 := Lib.hid (And.intro (HZ.out.1.keep (T := noBlk) (Keep.refl noBlk _).drew id) (HZ.out.2.drew))
        clear HZ hf1 hf2 hcy2 hcy hcx
        go_wp2_with fail
        go_roundw
        case rel => exact ⟨j, _, A, y :: B, by omega, by go_num, HZ2.1, HSD, HZ2.2⟩
        case measure => simp [intOf]; omega
  · have hfin : o.drop k = [] := List.drop_eq_nil_iff.2 (by rw [HN.out]; omega)
    have htk : o.take k = o := List.take_of_length_le (by rw [HN.out]; omega)
    have hpost : SortPost w base g cap fr o (.returned (.tuple #[])) wr := ⟨rfl, P, by have h := HROW.out; rwa [hfin, List.append_nil] at h, HRK.out, by have h := HPM.out; rwa [htk] at h, HK.out⟩
    have HPO := Lib.hid hpost
    clear hpost hfin htk
    go_wp2_with fail
    go_end0
    exact HPO.out

end Go.Proofs.Ytfjklgbakhjjiaa
