/-
  Apart, by the program and by the document; OverAddrs; long, rises, within.
  Conditions: none.
-/
import Derived.Test.YtfjklgbakhjjiaaSetsAddr
namespace Go.Proofs.Ytfjklgbakhjjiaa
open Go.RowKit Go.Maps Go.ChangeMaps
set_option maxRecDepth 100000
set_option linter.unusedVariables false

theorem intEnc : KeyEnc Try.prog 3 In64 (fun n => .int .i64 n) where
  law := int_keyed Try.underlying3
  key a h := ⟨_, keyOf_int_mk Try.underlying3 (Go.WalkArith.wf_i64 h)⟩
  inj a c _ _ h := by injection h
def intV (n : Int) : Value := .int .i64 n
/-- The set that a list makes, in the order in which it comes about. -/
def setK {α : Type} [DecidableEq α] (l : List α) : List (α × Nix) := l.foldl (fun s a => upsert s a .nix) []
theorem mem_keysK {α : Type} [DecidableEq α] (l : List α) : ∀ x, x ∈ (setK l).map (·.1) ↔ x ∈ l := by
  suffices h : ∀ (l : List α) (s : List (α × Nix)) x, x ∈ (l.foldl (fun s a => upsert s a .nix) s).map (·.1) ↔ x ∈ s.map (·.1) ∨ x ∈ l by
    intro x
    have := h l [] x
    simpa [setK] using this
  intro l
  induction l with
  | nil => intro s x; simp
  | cons a l ih =>
    intro s x
    rw [List.foldl_cons, ih, List.mem_cons]
    have hu : x ∈ (upsert s a .nix).map (·.1) ↔ x ∈ s.map (·.1) ∨ x = a := by
      unfold upsert
      split
      · rename_i h
        have hk : (s.map fun p => if p.1 = a then (a, Nix.nix) else p).map (·.1) = s.map (·.1) := by
          rw [List.map_map]
          apply List.map_congr_left
          intro p _
          simp only [Function.comp]
          split
          · rename_i e; exact e.symm
          · rfl
        rw [hk]
        constructor
        · exact fun h => .inl h
        · rintro (h' | rfl)
          · exact h'
          · obtain ⟨p, hp, he⟩ := List.any_eq_true.1 h
            exact List.mem_map.2 ⟨p, hp, of_decide_eq_true he⟩
      · simp
    rw [hu]
    constructor
    · rintro ((h | h) | h) <;> simp [h]
    · rintro (h | h | h) <;> simp [h]
theorem setK_len {α : Type} [DecidableEq α] (l : List α) : (setK l).length ≤ l.length ∧ ((setK l).length = l.length → l.Nodup) ∧ (l.Nodup → (setK l).length = l.length) := by
  have hs : ∀ (l : List α) a, (setK (l ++ [a])).length = (setK l).length + if a ∈ l then 0 else 1 := by
    intro l a
    have : setK (l ++ [a]) = upsert (setK l) a .nix := by simp [setK]
    rw [this]
    unfold upsert
    by_cases h : a ∈ l
    · have h' := (mem_keysK l a).2 h
      obtain ⟨p, hp, he⟩ := List.mem_map.1 h'
      rw [if_pos (List.any_eq_true.2 ⟨p, hp, decide_eq_true he⟩), if_pos h, List.length_map]; rfl
    · rw [if_neg, if_neg h, List.length_append]; rfl
      intro hn
      obtain ⟨p, hp, he⟩ := List.any_eq_true.1 hn
      exact h ((mem_keysK l a).1 (List.mem_map.2 ⟨p, hp, of_decide_eq_true he⟩))
  suffices h : ∀ l : List α, (setK l.reverse).length ≤ l.length ∧ ((setK l.reverse).length = l.length → l.Nodup) ∧ (l.Nodup → (setK l.reverse).length = l.length) by
    have := h l.reverse
    rw [List.reverse_reverse, List.length_reverse] at this
    exact ⟨this.1, fun e => (List.reverse_perm l).nodup_iff.1 (this.2.1 e), fun e => this.2.2 ((List.reverse_perm l).nodup_iff.2 e)⟩
  intro l
  induction l with
  | nil => simp [setK]
  | cons a l ih =>
    have hr : a ∈ l.reverse ↔ a ∈ l := List.mem_reverse
    rw [List.reverse_cons, hs, List.length_cons, List.nodup_cons]
    split
    · rename_i h
      exact ⟨by omega, fun e => by omega, fun e => absurd (hr.1 h) e.1⟩
    · rename_i h
      exact ⟨by omega, fun e => ⟨fun h' => h (hr.2 h'), ih.2.1 (by omega)⟩, fun e => by rw [ih.2.2 e.2]⟩
theorem MapIs.lt' {α β : Type} {ok : α → Prop} {enc : α → Value} {ev : β → Value} {w : World} {b : Nat} {l : List (α × β)} (h : MapIs ok enc ev w b l) : b < w.heap.size := by
  obtain ⟨es, clock, hb, -⟩ := h
  exact lt_of_block hb

set_option maxHeartbeats 4000000 in
theorem apart_any (w : World) (v : Value) (xs : List Ad) (ho : AdsOk xs) (hr : Rd w 2 v xs.length (adCells xs)) : Calls Try.prog 30 #[v] w fun e w' => e = .returned (.bool (decide ((xs.map (·.dev)).Nodup))) ∧ Keep noBlk w w' := by
  obtain ⟨oa, ca, rfl, -, hmm⟩ := hr.form
  have hmx_n : xs.length ≤ maxLen := by have h := hr.2; obtain ⟨a', cap', h1, h2, h3, -⟩ := h; omega
  unfold maxLen at hmx_n
  clear hmm
  have HR := Lib.hid hr
  obtain ⟨n, hn_n⟩ : ∃ n, xs.length = n := ⟨_, rfl⟩
  have HN := Lib.hid hn_n
  rw [hn_n] at HR hmx_n
  try rw [hn_n]
  clear hr hn_n
  have hmm := @run_makeMap Try.prog
  obtain ⟨bb, hbb⟩ : ∃ b, decide ((xs.map (·.dev)).Nodup) = b := ⟨_, rfl⟩
  have HBB := Lib.hid hbb
  rw [hbb]
  clear hbb
  go_enter Try.func30, Try.ntmps30
  go_wp2_with fail
  obtain ⟨w2, hw2⟩ : ∃ w2, w.alloc (.map #[] 0) = w2 := ⟨_, rfl⟩
  have hk2 : Keep noBlk w w2 := by rw [← hw2]; exact (Keep.refl _ _).alloc _
  have hs2 : w.heap.size < w2.heap.size := by rw [← hw2, World.size_alloc]; omega
  have hm2 : MapIs In64 intV unitV w2 w.heap.size (setK ([] : List Int)) := by rw [← hw2]; exact MapIs.made _
  rw [hw2]
  have HKW := Lib.hid hk2; have HM2 := Lib.hid hm2; have HR2 := Lib.hid (HR.out.keep hk2 fun _ _ => id)
  clear hw2 hk2 hm2 hmm
  go_loopw [9] (fun i wr => ∃ k : Nat, k ≤ n ∧ i = .int .i64 k ∧ Hid (MapIs In64 intV unitV wr w.heap.size (setK ((xs.take k).map (·.dev)))) ∧ Hid (Keep noBlk w wr)) (fun i _ => n - (intOf i).toNat)
  case atStart => exact ⟨0, Nat.zero_le _, rfl, HM2, HKW⟩
  case round =>
  obtain ⟨k, hk, rfl, HM, HKR⟩ := hrel
  have hsr := HM.out.lt'
  by_cases hlt : k < n
  · have HR := Lib.hid (HR.out.keep HKR.out fun _ _ => id)
    obtain ⟨x, h_x⟩ : ∃ x, xs[k]? = some x := ⟨xs[k]'(by rw [HN.out]; exact hlt), List.getElem?_eq_getElem _⟩
    have h_r := HR.out
    rw [← HN.out] at h_r
    obtain ⟨g, o, cap', h_v, h_at⟩ := rd_ad h_r h_x
    have e1 : oa = some ⟨g, o, none⟩ := by cases h_v; rfl
    subst e1
    have HX := Lib.hid h_at; have HE := Lib.hid h_x
    clear h_x h_r h_v h_at
    have HTX : Hid (setK ((xs.take (k + 1)).map (·.dev)) = upsert (setK ((xs.take k).map (·.dev))) x.dev .nix) := Lib.hid (by rw [List.take_add_one, HE.out]; simp [setK])
    have hxo : AdOk x := ho x (List.mem_of_getElem? HE.out)
    have HXO : Hid (In64 x.dev) := Lib.hid hxo.1
    have hki : (k : Int) < (n : Int) := by omega
    have hk0 : (0 : Int) ≤ (k : Int) := by omega
    obtain ⟨xd, hxd⟩ : ∃ d, x.dev = d := ⟨_, rfl⟩
    have hc : (adCs x).toArray[0]? = some (.int .i64 xd) := by rw [← hxd]; rfl
    have HC0 := Lib.hid hc
    rw [hxd] at HTX HXO
    clear hxo hxd hc
    go_wp2_with (first
      | ((with_reducible show wpList _ _ _ (⟨some 12, .load 50 (.tmp 11), _, _, _, _⟩ :: _) _ _); refine wpList_load_mid rfl 50 (.tmp 11) rfl g (o + k * 2) rfl (adCs x) _ HX.out adUnder rfl sizeAd ?_)
      | ((with_reducible show wpList _ _ _ (⟨some 5, .alloc 50, _, _, _, _⟩ :: _) _ _); refine wpList_alloc_at rfl 50 rfl zeroAd zeroAddr #[.int .i64 0, .int .i64 0] rfl ?_)
      | ((with_reducible show wpList _ _ _ (⟨none, .store 50 (.tmp 5) (.tmp 12), _, _, _, _⟩ :: _) _ _); refine wpList_store_agg rfl 50 (.tmp 5) (.tmp 12) rfl wr.heap.size 0 (adCs x) rfl rfl #[.int .i64 0, .int .i64 0] 50 (heap_alloc_new _ _) (Nat.le_refl _) sizeAd (oneCell_ad _) ?_
         intro w3 hb3 hk3
         rw [spl_whole _ _ (by rfl)] at hb3
         have hkr : Keep noBlk wr w3 := ((Keep.refl noBlk wr).alloc _).trans' hk3 (fun _ _ h => h) (fun i hi e => by omega)
         have hcd := blk_cell hb3 HC0.out
         have HM3 := Lib.hid (HM.out.keep hkr id); have HKR3 := Lib.hid (HKR.out.trans hkr)
         clear hb3 hk3 hkr)
      | ((with_reducible show wpList _ _ _ (⟨none, .mapUpdate 93 (.tmp 13) (.tmp 15) (.tmp 16), _, _, _, _⟩ :: _) _ _); refine wpList_mapUpdate_is rfl rfl (.tmp 13) (.tmp 15) (.tmp 16) 93 rfl intEnc Try.underlying93 xd HXO.out Nix.nix rfl rfl rfl HM3.out ?_
         intro w4 hm4 hk4
         have HM4 := Lib.hid hm4; have HKR4 := Lib.hid (HKR3.out.trans' hk4 (U := noBlk) (fun _ _ h => h) (fun i hi e => by omega))
         clear hm4 hk4))
    have HME := Lib.hid (show MapIs In64 intV unitV w4 w.heap.size (setK ((xs.take (k + 1)).map (·.dev))) by rw [HTX.out]; exact HM4.out)
    go_roundw
    case rel => exact ⟨k + 1, by omega, by go_num, HME, HKR4⟩
    case measure => simp [intOf]; omega
  · obtain rfl : k = n := by omega
    have hm := HM.out
    rw [List.take_of_length_le (by rw [HN.out]; exact Nat.le_refl _)] at hm
    have hlen := fun ty => hm.len Try.underlying93 ty
    have hsl := setK_len (xs.map (·.dev))
    rw [List.length_map, HN.out] at hsl
    obtain ⟨m, hmm⟩ : ∃ m, (setK (xs.map (·.dev))).length = m := ⟨_, rfl⟩
    rw [hmm] at hlen hsl
    have HSL := Lib.hid hsl
    clear hm hmm hsl
    by_cases hmn : m = k
    · have ht : bb = true := by rw [← HBB.out]; exact decide_eq_true (HSL.out.2.1 hmn)
      subst ht
      subst hmn
      go_wp2_with fail
      go_ret
      exact ⟨rfl, HKR.out⟩
    · have ht : bb = false := by rw [← HBB.out]; exact decide_eq_false fun h => hmn (HSL.out.2.2 h)
      subst ht
      have hni : ¬ (m : Int) = (k : Int) := by omega
      have hnd : decide ((m : Int) = (k : Int)) = false := decide_eq_false hni
      have hnb : ((m : Int) == (k : Int)) = false := beq_eq_false_iff_ne.2 hni
      go_wp2_with fail
      go_ret
      exact ⟨rfl, HKR.out⟩

def OverI (n : Nat) (oa : Option Addr) (w : World) : Prop := 0 < n → ∃ g cur, oa = some ⟨g, 0, none⟩ ∧ w.heap[g]? = some (.cells cur 50 (0, 0)) ∧ n * 2 ≤ cur.size
theorem owns_open {w : World} {base n c : Nat} {a : Option Addr} {xs : List Value} (h : w.ownsRow base 50 2 (.slice a n c) n xs) (hn : 0 < n) : ∃ g cur, a = some ⟨g, 0, none⟩ ∧ w.heap[g]? = some (.cells cur 50 (0, 0)) ∧ n * 2 ≤ cur.size := by
  rcases h.2 with ⟨h1, -⟩ | ⟨g, cap, cur, h1, -, hh, h3, h4, h5, -⟩
  · cases h1; omega
  · injection h1 with h1 _ h2
    refine ⟨g, cur, h1, hh, ?_⟩
    rw [h5]
    exact Nat.mul_le_mul_right 2 h3
set_option maxHeartbeats 4000000 in
theorem over_any (w : World) (base n : Nat) (v : Value) (xs : List Value) (ho : w.ownsRow base 50 2 v n xs) : Calls Try.prog 14 #[v] w fun e w' => e = .returned (.tuple #[]) ∧ Keep (fun j => v.ownBlock = some j) w w' := by
  have hr := Rd.of_owns ho
  obtain ⟨oa, ca, rfl, hcn, hcm⟩ := hr.form
  unfold maxLen at hcm
  have hn63 : n ≤ 9223372036854775807 := by omega
  have HO := Lib.hid ho
  have HZ := Lib.hid (fun (h : 0 < n) => owns_open ho h)
  clear ho hr hcn hcm
  go_enter Try.func14, Try.ntmps14
  go_wp2_with fail
  go_loopw [2] (fun i wr => ∃ k : Nat, k ≤ n ∧ i = .int .i64 k ∧ Hid (OverI n oa wr) ∧ Hid (Keep (fun j => (Value.slice oa n ca).ownBlock = some j) w wr)) (fun i _ => n - (intOf i).toNat)
  case atStart => exact ⟨0, Nat.zero_le _, rfl, Lib.hid HZ.out, Lib.hid (Keep.refl _ _)⟩
  case round =>
  obtain ⟨k, hk, rfl, HI, HKR⟩ := hrel
  by_cases hlt : k < n
  · obtain ⟨g, cur, rfl, hb, hsz⟩ := HI.out (by omega)
    have HB := Lib.hid hb
    have hki : (k : Int) < (n : Int) := by omega
    have hk0 : (0 : Int) ≤ (k : Int) := by omega
    have hfit : k * 2 + 2 ≤ cur.size := by omega
    have hbd := buildAd (-7) (-7)
    clear hb
    go_wp2_with (first
      | ((with_reducible show wpList _ _ _ (⟨none, .store 50 (.tmp 12) (.tmp 11), _, _, _, _⟩ :: _) _ _); refine wpList_store_agg rfl 50 (.tmp 12) (.tmp 11) rfl g (k * 2) (adCs ⟨-7, -7⟩) rfl rfl cur 50 HB.out hfit sizeAd (oneCell_ad _) ?_
         intro w3 hb3 hk3
         have HI3 : Hid (OverI n (some ⟨g, 0, none⟩) w3) := Lib.hid (fun _ => ⟨g, _, rfl, hb3, by rw [spl_size]; exact hsz⟩)
         have HK3 := Lib.hid (HKR.out.trans' hk3 (U := fun j => (Value.slice (some ⟨g, 0, none⟩) n ca).ownBlock = some j) (fun _ _ h => h) (fun i hi e => by rw [e]; rfl))
         clear hb3 hk3))
    go_roundw
    case rel => exact ⟨k + 1, by omega, by go_num, HI3, HK3⟩
    case measure => simp [intOf]; omega
  · obtain rfl : k = n := by omega
    go_wp2_with fail
    go_end0
    exact ⟨rfl, HKR.out⟩



end Go.Proofs.Ytfjklgbakhjjiaa
