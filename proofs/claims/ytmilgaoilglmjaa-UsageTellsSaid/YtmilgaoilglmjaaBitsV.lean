/-
  Bits: is one set; of some numbers.
  Conditions: at most 64 of them.
-/
import Derived.Test.YtmilgaoilglmjaaBitsU
import Derived.Test.YtmilgaoilglmjaaKeyAddr
namespace Go.Proofs.Ytmilgaoilglmjaa
open Go.RowKit Go.Maps Go.ChangeMaps
set_option maxRecDepth 100000
set_option linter.unusedVariables false

/-- The bits of some numbers, below a number. -/
def wordOf (many : Nat) (l : List Int) : BitVec 64 := l.foldl (fun a i => if 0 ≤ i ∧ i < (many : Int) then a ||| BitVec.twoPow 64 i.toNat else a) 0#64
theorem wordOf_snoc (many : Nat) (l : List Int) (i : Int) : wordOf many (l ++ [i]) = if 0 ≤ i ∧ i < (many : Int) then wordOf many l ||| BitVec.twoPow 64 i.toNat else wordOf many l := by simp [wordOf]
theorem wordOf_bit (many : Nat) (hm : many ≤ 64) (l : List Int) (j : Nat) (hj : j < 64) : (wordOf many l).getLsbD j = true ↔ j < many ∧ (j : Int) ∈ l := by
  suffices h : ∀ (l : List Int) (a : BitVec 64), (l.foldl (fun a i => if 0 ≤ i ∧ i < (many : Int) then a ||| BitVec.twoPow 64 i.toNat else a) a).getLsbD j = true ↔ a.getLsbD j = true ∨ (j < many ∧ (j : Int) ∈ l) by
    rw [wordOf, h]; simp
  intro l
  induction l with
  | nil => intro a; simp
  | cons i l ih =>
    intro a
    rw [List.foldl_cons, ih, List.mem_cons]
    by_cases hi : 0 ≤ i ∧ i < (many : Int)
    · rw [if_pos hi, set_bit _ _ _ (by omega), Bool.or_eq_true, decide_eq_true_iff]
      constructor
      · rintro ((h | h) | h)
        · exact .inl h
        · exact .inr ⟨by omega, .inl (by omega)⟩
        · exact .inr ⟨h.1, .inr h.2⟩
      · rintro (h | ⟨h1, h | h⟩)
        · exact .inl (.inl h)
        · exact .inl (.inr (by omega))
        · exact .inr ⟨h1, h⟩
    · rw [if_neg hi]
      constructor
      · rintro (h | h)
        · exact .inl h
        · exact .inr ⟨h.1, .inr h.2⟩
      · rintro (h | ⟨h1, h | h⟩)
        · exact .inl h
        · exact absurd ⟨by omega, by omega⟩ hi
        · exact .inr ⟨h1, h⟩

theorem some1_any (w : World) (n : Int) : Calls Try.prog 59 #[.int .u64 n] w fun e w' => e = .returned (.bool (n != 0)) ∧ w = w' := by
  go_enter Try.func59, Try.ntmps59
  go_wp2_with fail
  go_ret
  exact ⟨rfl, rfl⟩

set_option maxHeartbeats 2000000 in
theorem indexf_any (w : World) (g : Nat) (x : BitVec 64) (hb : Bt w g x) : Calls Try.prog 66 #[.slice (some ⟨g, 0, none⟩) 1 1, .func (.func 59) #[] #[]] w (fun e w' => e = .returned (.int .i64 (if someB x then 0 else -1)) ∧ w = w') := by
  have hc : w.cell? ⟨g, 0, none⟩ = some (.int .u64 (x.toNat : Int)) := blk_cell hb rfl
  have h3 : ((x.toNat : Int) != 0) = someB x := by rw [someB, Bool.eq_iff_iff, bne_iff_ne, Bool.not_eq_true', decide_eq_false_iff_not, ne_eq, zero_iff]
  obtain ⟨xv, hxv⟩ : ∃ n : Int, (x.toNat : Int) = n := ⟨_, rfl⟩
  obtain ⟨b, hbb⟩ : ∃ b, someB x = b := ⟨_, rfl⟩
  rw [hxv] at hc h3
  rw [hbb] at h3 ⊢
  have C := Lib.hid (some1_any w xv)
  rw [h3] at C
  clear hb hxv hbb h3
  go_enter Try.func66, Try.ntmps66
  go_wp2_with fail
  go_loop [8] (fun i => ∃ k : Nat, k ≤ 1 ∧ i = .int .i64 k ∧ Hid (k = 1 → b = false)) (fun i => 1 - (intOf i).toNat)
  case atStart => exact ⟨0, by omega, rfl, Lib.hid (fun h => by omega)⟩
  case round =>
  obtain ⟨k, hk, rfl, HZ⟩ := hrel
  by_cases hlt : k < 1
  · obtain rfl : k = 0 := by omega
    go_wp2_with fail
    refine C.out.mono ?_
    rintro e w2 ⟨rfl, rfl⟩
    cases b
    · go_wp2_with fail
      go_round
      case rel => exact ⟨1, by omega, rfl, Lib.hid (by simp)⟩
      case measure => simp [intOf]
    · go_wp2_with fail
      go_ret
      exact ⟨rfl, rfl⟩
  · obtain rfl : k = 1 := by omega
    have hb0 := HZ.out rfl
    subst hb0
    go_wp2_with fail
    go_ret
    exact ⟨rfl, rfl⟩
set_option maxHeartbeats 2000000 in
theorem containsf_any (w : World) (g : Nat) (x : BitVec 64) (hb : Bt w g x) : Calls Try.prog 58 #[.slice (some ⟨g, 0, none⟩) 1 1, .func (.func 59) #[] #[]] w (fun e w' => e = .returned (.bool (someB x)) ∧ w = w') := by
  have C := Lib.hid (indexf_any w g x hb)
  obtain ⟨b, hbb⟩ : ∃ b, someB x = b := ⟨_, rfl⟩
  rw [hbb] at C ⊢
  clear hb hbb
  cases b
  all_goals
    simp only [Bool.false_eq_true, if_true, if_false] at C
    go_enter Try.func58, Try.ntmps58
    go_wp2_with fail
    refine C.out.mono ?_
    rintro e w2 ⟨rfl, rfl⟩
    go_wp2_with fail
    go_ret
    exact ⟨rfl, rfl⟩
set_option maxHeartbeats 2000000 in
theorem bsome_any (w : World) (g : Nat) (x : BitVec 64) (hb : Bt w g x) : Calls Try.prog 38 #[.slice (some ⟨g, 0, none⟩) 1 1] w (fun e w' => e = .returned (.bool (someB x)) ∧ w = w') := by
  have C := Lib.hid (containsf_any w g x hb)
  obtain ⟨b, hbb⟩ : ∃ b, someB x = b := ⟨_, rfl⟩
  rw [hbb] at C ⊢
  clear hb hbb
  go_enter Try.func38, Try.ntmps38
  go_wp2_with fail
  refine C.out.mono ?_
  rintro e w2 ⟨rfl, rfl⟩
  go_wp2_with fail
  go_ret
  exact ⟨rfl, rfl⟩

theorem owns_one {w : World} {base e g : Nat} {v : Value} (h : w.ownsRow base e 1 (.slice (some ⟨g, 0, none⟩) 1 1) 1 [v]) : w.heap[g]? = some (.cells #[v] e (0, 0)) := by
  rcases h.2 with ⟨h1, -⟩ | ⟨g', cap, cur, h1, -, hh, h2, h3, h4, h5⟩
  · cases h1
  · injection h1 with e1 e2 e3
    injection e1 with e1
    injection e1 with e1
    subst e1
    subst e3
    have hl : cur.toList.length ≤ 1 * 1 := by simp; omega
    rw [List.take_of_length_le hl] at h5
    have : cur = #[v] := Array.toList_inj.1 h5
    rw [← this]; exact hh
theorem rd_int {w : World} {v : Value} {l : List Int} (h : Rd w 1 v l.length (l.map fun x => .int .i64 x)) {k : Nat} {x : Int} (hk : l[k]? = some x) : ∃ g o cap, v = .slice (some ⟨g, o, none⟩) l.length cap ∧ w.cell? ⟨g, o + k, none⟩ = some (.int .i64 x) := by
  obtain ⟨h0, a, cap, rfl, h1, h2, h3, h4⟩ := h
  have hlt := (List.getElem?_eq_some_iff.1 hk).1
  obtain ⟨g, o, rfl, hc⟩ := h4 (by rw [List.length_map]; omega)
  exact ⟨g, o, cap, rfl, hc k _ (by rw [List.getElem?_map, hk]; rfl)⟩
def BofPost (w : World) (x : BitVec 64) (e : Ending) (w' : World) : Prop := ∃ g, e = .returned (.slice (some ⟨g, 0, none⟩) 1 1) ∧ Bt w' g x ∧ w.heap.size ≤ g ∧ Keep noBlk w w'
theorem infoU64 : (Try.prog.info? 71).map (fun i => (i.zero, i.size, i.bytes)) = some (some (.int .u64 0), 1, 8) := by kernel_rfl
set_option maxHeartbeats 4000000 in
theorem bof_any (w : World) (v : Value) (l : List Int) (many : Nat) (hr : Rd w 1 v l.length (l.map fun x => .int .i64 x)) (h1 : 1 ≤ many) (h2 : many ≤ 64) (hI : ∀ x ∈ l, In64 x) : Calls Try.prog 39 #[v, .int .i64 (many : Int)] w (BofPost w (wordOf many l)) := by
  obtain ⟨la, lc, rfl, -, -⟩ := hr.form
  have hlm : l.length ≤ maxLen := by obtain ⟨_, a', c', h1, h2, h3, -⟩ := hr; omega
  unfold maxLen at hlm
  obtain ⟨n, hn⟩ : ∃ n, l.length = n := ⟨_, rfl⟩
  have HR := Lib.hid hr; have HN := Lib.hid hn
  clear hr
  rw [hn] at HR hlm ⊢
  clear hn
  have hq : ((many : Int) + 63) / 64 = 1 := by omega
  have hqd : ((many : Int) + 63).tdiv 64 = 1 := by rw [Int.tdiv_eq_ediv_of_nonneg (by omega)]; omega
  have hmi : (1 : Int) ≤ (many : Int) := by omega
  have hmj : (many : Int) ≤ 64 := by omega
  go_enter Try.func39, Try.ntmps39
  go_wp2_with (first
    | ((with_reducible show wpList _ _ _ (⟨_, .makeSlice _ _ _, _, _, _, _⟩ :: _) _ _); refine wpList_make_one rfl (.tmp 10) (.tmp 10) 54 rfl w.heap.size 71 (.int .u64 0) 8 Try.underlying54 infoU64 rfl 1 rfl rfl (by decide) (by unfold maxLen; omega) (Nat.le_refl _) ?_
       intro w2 ho2 hk2
       have HO2 := Lib.hid ho2; have HK2 := Lib.hid hk2
       clear ho2 hk2))
  obtain ⟨g, hg⟩ : ∃ g, w.heap.size = g := ⟨_, rfl⟩
  have hgw : w.heap.size ≤ g := Nat.le_of_eq hg
  have hb2 : Bt w2 g (wordOf many []) := by rw [← hg]; exact owns_one HO2.out
  rw [hg]
  have HB2 := Lib.hid hb2
  clear hb2 HO2 hg hq hqd
  go_loopw [14] (fun i wr => ∃ k : Nat, k ≤ n ∧ i = .int .i64 k ∧ Hid (Bt wr g (wordOf many (l.take k))) ∧ Hid (Keep noBlk w wr)) (fun i _ => n - (intOf i).toNat)
  case atStart => exact ⟨0, Nat.zero_le _, rfl, HB2, HK2⟩
  case round =>
  obtain ⟨k, hk, rfl, HB, HK⟩ := hrel
  by_cases hlt : k < n
  · obtain ⟨x, hx⟩ : ∃ x, l[k]? = some x := ⟨l[k]'(by rw [HN.out]; exact hlt), List.getElem?_eq_getElem _⟩
    have hr := HR.out.keep HK.out fun _ _ => id
    rw [← HN.out] at hr
    obtain ⟨p, o, cap, hv, hc⟩ := rd_int hr hx
    have e1 : la = some ⟨p, o, none⟩ := by cases hv; rfl
    subst e1
    have HTX : Hid (l.take (k + 1) = l.take k ++ [x]) := Lib.hid (by rw [List.take_add_one, hx]; rfl)
    have hxi : In64 x := hI x (List.mem_of_getElem? hx)
    have hx1 := hxi.1; have hx2 := hxi.2
    have hki : (k : Int) < (n : Int) := by omega
    have hk0 : (0 : Int) ≤ (k : Int) := by omega
    clear hx hr hv hxi
    by_cases hin : 0 ≤ x ∧ x < (many : Int)
    · obtain ⟨i, rfl⟩ : ∃ i : Nat, x = (i : Int) := ⟨x.toNat, by omega⟩
      have hi1 : (0 : Int) ≤ (i : Int) := by omega
      have hi2 : (i : Int) < (many : Int) := by omega
      have hi3 : i < many := by omega
      have HW : Hid (wordOf many (l.take (k + 1)) = wordOf many (l.take k) ||| BitVec.twoPow 64 i) := Lib.hid (by rw [HTX.out, wordOf_snoc, if_pos hin]; rfl)
      have C := Lib.hid (bset_any wr g i _ HB.out (by omega))
      rw [← HW.out] at C
      clear hin
      go_wp2_with fail
      refine C.out.mono ?_
      rintro e w3 ⟨rfl, hb3, hk3⟩
      have HB3 := Lib.hid hb3; have HK3 := Lib.hid (HK.out.trans' hk3 (U := noBlk) (fun _ _ h => h) (fun i hi e => by omega))
      clear hb3 hk3 C hc
      go_wp2_with fail
      go_roundw
      case rel => exact ⟨k + 1, by omega, by go_num, HB3, HK3⟩
      case measure => simp [intOf]; omega
    · have HW : Hid (wordOf many (l.take (k + 1)) = wordOf many (l.take k)) := Lib.hid (by rw [HTX.out, wordOf_snoc, if_neg hin])
      have HBE := Lib.hid (show Bt wr g (wordOf many (l.take (k + 1))) by rw [HW.out]; exact HB.out)
      by_cases h0 : 0 ≤ x
      · have hxm : ¬ x < (many : Int) := fun h => hin ⟨h0, h⟩
        have hxd : decide (x < (many : Int)) = false := decide_eq_false hxm
        clear hin
        go_wp2_with fail
        go_roundw
        case rel => exact ⟨k + 1, by omega, by go_num, HBE, HK⟩
        case measure => simp [intOf]; omega
      · have hxd : decide (0 ≤ x) = false := decide_eq_false h0
        clear hin
        go_wp2_with fail
        go_roundw
        case rel => exact ⟨k + 1, by omega, by go_num, HBE, HK⟩
        case measure => simp [intOf]; omega
  · obtain rfl : k = n := by omega
    have hb := HB.out
    rw [List.take_of_length_le (by rw [HN.out]; exact Nat.le_refl _)] at hb
    have HBE := Lib.hid hb
    clear hb
    go_wp2_with fail
    go_ret
    exact ⟨_, rfl, HBE.out, hgw, HK.out⟩
end Go.Proofs.Ytmilgaoilglmjaa
