/-
  The writer of package field, its numbers.
  Conditions: the bounds on sizes that each theorem names.
-/
import Derived.Test.YtdlegbcdmlmbpaaField
namespace Go.Proofs.Ytdlegbcdmlmbpaa
open Go.RowKit
set_option maxRecDepth 100000

theorem Num_rel {w wr w2 : World} {k n s : Nat} {v v' : Value} (hown : wr.ownsRow w.heap.size 5 1 v k (((List.range k).map (beAt n s)).map vb)) (hkp : Keep noBlk w wr)
    (hown2 : w2.ownsRow w.heap.size 5 1 v' (k + 1) (((List.range k).map (beAt n s)).map vb ++ [.int .u8 ((n : Int) / 2 ^ (8 * (s - k - 1)) % 256)]))
    (hk2 : Keep (fun i => v.ownBlock = some i) (wr.alloc (.cells #[.int .u8 ((n : Int) / 2 ^ (8 * (s - k - 1)) % 256)] 5)) w2) :
    Hid (w2.ownsRow w.heap.size 5 1 v' (k + 1) (((List.range (k + 1)).map (beAt n s)).map vb)) ∧ Hid (Keep noBlk w w2) := by
  refine ⟨Lib.hid ?_, Lib.hid ?_⟩
  · rw [range_succ_map, List.map_append]
    simpa [vb, beAt_toNat] using hown2
  · refine (hkp.alloc _).trans' hk2 (fun _ _ h => h) (fun i hi h => ?_)
    have := (hown.lt i h).1
    omega

set_option maxHeartbeats 1000000 in
theorem num1_ok (A B s : Nat) (n : Nat) (w : World) (hs1 : 1 ≤ s) (hs7 : s ≤ 7) (hn : n < 2 ^ (8 * s))
    (hA : w.heap[A]? = some (.cells #[.int .i64 n] 3 (0, 0))) (hB : w.heap[B]? = some (.cells #[.int .i64 s] 3 (0, 0))) :
    Calls Try.prog 65 #[.pointer (some ⟨B, 0, none⟩), .pointer (some ⟨A, 0, none⟩)] w (CPost w (be n s) 0) := by
  have hn56 : n < 72057594037927936 := Nat.lt_of_lt_of_le hn (Nat.pow_le_pow_right (by omega) (show 8 * s ≤ 56 by omega))
  have hz : n / 2 ^ (8 * s) = 0 := Nat.div_eq_of_lt hn
  have hz' : ((n : Int) / 2 ^ (8 * s) != 0) = false := by
    have : ((n : Int) / 2 ^ (8 * s)) = ((n / 2 ^ (8 * s) : Nat) : Int) := by simp
    rw [this, hz]; rfl
  have hA' := cell_of_one hA
  have hB' := cell_of_one hB
  have HA := Lib.hid hA; have HB := Lib.hid hB; have HN := Lib.hid hn; have HZ := Lib.hid hz
  clear hA hB hn hz
  go_enter Try.func65, Try.ntmps65
  go_wp2_with fail
  go_loopw [4, 5] (fun v i wr => ∃ k : Nat, k ≤ s ∧ i = .int .i64 (s - k : Nat) ∧ Hid (wr.ownsRow w.heap.size 5 1 v k (((List.range k).map (beAt n s)).map vb)) ∧ Hid (Keep noBlk w wr)) (fun _ i _ => (intOf i).toNat)
  case atStart => exact ⟨0, by omega, rfl, Lib.hid (World.ownsRow_nil _ _ _ _), Lib.hid (Keep.refl _ _)⟩
  case round =>
    obtain ⟨k, hk, rfl, hown, hkp⟩ := hrel
    have hA2 := hkp.out.cell hA' id
    have hB2 := hkp.out.cell hB' id
    clear hA' hB'
    by_cases hlt : k < s
    · have hsz : w.heap.size ≤ (wr.alloc (.cells #[.int .u8 ((n : Int) / 2 ^ (8 * (s - k - 1)) % 256)] 5)).heap.size := by have := hkp.out.size; simp; omega
      have HS := Lib.hid hsz; clear hsz
      have hml : k + 1 ≤ maxLen := by unfold maxLen; omega
      have HML := Lib.hid hml; clear hml
      have h1 : ∀ u ∈ [Value.int .u8 ((n : Int) / 2 ^ (8 * (s - k - 1)) % 256)], u.oneCell' = true := by simp [Value.oneCell']
      have H1 := Lib.hid h1; clear h1
      go_wp2_with (at_builtin; refine wpList_append_rd rfl (.tmp 28) (.tmp 35) 26 rfl w.heap.size 5 _ 1 1 Try.underlying26 infoU8 rfl (by omega) _ k _ rfl (hown.out.alloc _) _ 1 _ rfl (rd_one _ _ _) H1.out HML.out (by omega) HS.out ?_; intro v' w2 hown2 hk2 hnil hat; have R := Num_rel hown.out hkp.out hown2 hk2; clear hown2 hk2 hnil hat hown hkp hA2 hB2)
      go_roundw
      case rel => exact ⟨k + 1, by omega, by rw [show s - (k + 1) = s - k - 1 by omega]; go_num, R⟩
      case measure => simp [intOf]; omega
    · obtain rfl : k = s := by omega
      go_wp2_with fail
      go_ret2
      exact ⟨_, rfl, hkp.out, by have := Rd.of_owns hown.out; rw [be_length]; exact this⟩

theorem CPost_nil {w : World} {er : Int} {e : Ending} {w' : World} (he : e = .returned (.tuple #[.slice none 0 0, .int .i64 er])) (hw : w = w') : CPost w [] er e w' := by
  subst hw
  exact ⟨_, he, Keep.refl _ _, Rd.nil _ _⟩

set_option maxHeartbeats 1000000 in
theorem num1_size (A B : Nat) (size : Int) (w : World) (hs : size < 1 ∨ 7 < size)
    (hB : w.heap[B]? = some (.cells #[.int .i64 size] 3 (0, 0))) :
    Calls Try.prog 65 #[.pointer (some ⟨B, 0, none⟩), .pointer (some ⟨A, 0, none⟩)] w (CPost w [] 2) := by
  have hB' := cell_of_one hB
  clear hB
  rcases hs with hs | hs
  · go_enter Try.func65, Try.ntmps65
    go_wp2_with fail
    go_ret2
    exact CPost_nil rfl rfl
  · have hs' : ¬ size < 1 := by omega
    go_enter Try.func65, Try.ntmps65
    go_wp2_with fail
    go_ret2
    exact CPost_nil rfl rfl

set_option maxHeartbeats 1000000 in
theorem num1_range (A B s : Nat) (n : Int) (w : World) (hs1 : 1 ≤ s) (hs7 : s ≤ 7) (hn : n < 0 ∨ n / 2 ^ (8 * s) ≠ 0)
    (hA : w.heap[A]? = some (.cells #[.int .i64 n] 3 (0, 0))) (hB : w.heap[B]? = some (.cells #[.int .i64 s] 3 (0, 0))) :
    Calls Try.prog 65 #[.pointer (some ⟨B, 0, none⟩), .pointer (some ⟨A, 0, none⟩)] w (CPost w [] 5) := by
  have hA' := cell_of_one hA
  have hB' := cell_of_one hB
  clear hA hB
  by_cases h0 : n < 0
  · clear hn
    go_enter Try.func65, Try.ntmps65
    go_wp2_with fail
    go_ret2
    exact CPost_nil rfl rfl
  · have h1 : (n / 2 ^ (8 * s) != 0) = true := by
      rcases hn with h | h
      · exact absurd h h0
      · simpa using h
    have h0' : 0 ≤ n := by omega
    clear hn h0
    go_enter Try.func65, Try.ntmps65
    go_wp2_with fail
    go_ret2
    exact CPost_nil rfl rfl

theorem num1_any (A B : Nat) (n size : Int) (w : World)
    (hA : w.heap[A]? = some (.cells #[.int .i64 n] 3 (0, 0))) (hB : w.heap[B]? = some (.cells #[.int .i64 size] 3 (0, 0))) :
    Calls Try.prog 65 #[.pointer (some ⟨B, 0, none⟩), .pointer (some ⟨A, 0, none⟩)] w (CPost w (numRes n size).1 (numRes n size).2) := by
  unfold numRes
  by_cases hs : size < 1 ∨ 7 < size
  · rw [if_pos hs]; exact num1_size A B size w hs hB
  · rw [if_neg hs]
    obtain ⟨s, rfl⟩ := Int.eq_ofNat_of_zero_le (show 0 ≤ size by omega)
    have e1 : (8 * (s : Int)).toNat = 8 * s := by omega
    rw [e1]
    by_cases hn : n < 0 ∨ n / 2 ^ (8 * s) ≠ 0
    · rw [if_pos hn]; exact num1_range A B s n w (by omega) (by omega) hn hA hB
    · rw [if_neg hn]
      obtain ⟨m, rfl⟩ := Int.eq_ofNat_of_zero_le (show 0 ≤ n by omega)
      have hm : m < 2 ^ (8 * s) := by
        have : (m : Int) / 2 ^ (8 * s) = 0 := by
          rcases Classical.em ((m : Int) / 2 ^ (8 * s) = 0) with h | h
          · exact h
          · exact absurd (.inr h) hn
        have h2 : m / 2 ^ (8 * s) = 0 := by
          have h3 : ((m / 2 ^ (8 * s) : Nat) : Int) = 0 := by simpa using this
          omega
        rcases Nat.lt_or_ge m (2 ^ (8 * s)) with h | h
        · exact h
        · have := Nat.div_pos h (Nat.pos_of_ne_zero (by simp)); omega
      exact num1_ok A B s m w (by omega) (by omega) hm hA hB

theorem WPost.of {w w2 : World} {base p : Nat} {v : Value} {r : List UInt8 × Int} {e : Ending} {w' : World} (hk : Keep noBlk w w2) (h : WPost w2 base p v r e w') : WPost w base p v r e w' := by
  obtain ⟨he, v', h1, h2, h3⟩ := h
  refine ⟨he, v', h1, hk.trans' h2 (fun _ _ h => h.elim) (fun _ _ h => h), ?_⟩
  rcases h3 with h | ⟨g, h, hg⟩
  · exact .inl h
  · exact .inr ⟨g, h, Nat.le_trans hk.size hg⟩

theorem numRes_len (n size : Int) : (numRes n size).1.length ≤ 7 := by
  unfold numRes
  split
  · simp
  · split
    · simp
    · rw [be_length]; omega

theorem end_write {p : Nat} {w w2 : World} {base : Nat} {v : Value} {r : List UInt8 × Int} (hk : Keep noBlk w w2) {e : Ending} {w' : World} (h : WPost w2 base p v r e w') : e = .returned (.tuple #[]) ∧ Hid (WPost w base p v r e w') :=
  ⟨h.1, WPost.of hk h⟩

set_option maxHeartbeats 1000000 in
theorem num_any (p : Nat) (n size : Int) (w : World) (base : Nat) (v : Value) (l : List UInt8) (e : Int) (h : Wr w base p v l e) (hl : l.length ≤ 65536) :
    Calls Try.prog 33 #[.pointer (some ⟨p, 0, none⟩), .int .i64 n, .int .i64 size] w (WPost w base p v (wst (l, e) (numRes n size))) := by
  have K : Keep noBlk w ((w.alloc (.cells #[.int .i64 n] 3)).alloc (.cells #[.int .i64 size] 3)) := ((Keep.refl _ _).alloc _).alloc _
  have H2 := h.keep K id (fun _ _ h => h)
  have c := num1_any w.heap.size (w.heap.size + 1) n size ((w.alloc (.cells #[.int .i64 n] 3)).alloc (.cells #[.int .i64 size] 3)) (heap_alloc2_old _ _ _) (heap_alloc2_new _ _ _)
  have W := write_any p _ 65 _ base v l e H2 hl (fun _ => rfl) _ _ (by have := numRes_len n size; omega) c
  have HW := Lib.hid W; have HK := Lib.hid K
  clear h H2 c W K
  go_enter Try.func33, Try.ntmps33
  go_wp2_with fail
  refine HW.out.mono ?_
  rintro e w1 h
  obtain ⟨rfl, h2⟩ := end_write HK.out h
  go_wp2_with fail
  go_end0
  exact h2.out
end Go.Proofs.Ytdlegbcdmlmbpaa
