/-
  Both ledgers side by side, and what was taken so far.
  Conditions: none.
-/
import Derived.Test.YtfjklgbakhjjiaaRefB
import Derived.Test.YtfjklgbakhjjiaaLedD
import Derived.Test.YtfjklgbakhjjiaaArgsAct
import Derived.Test.YtfjklgbakhjjiaaSetAddr
import Derived.Test.YtfjklgbakhjjiaaMayAddr
import Derived.Test.YtfjklgbakhjjiaaPlaceP
import Derived.Test.YtfjklgbakhjjiaaCopy
import Derived.Deep.RegionHeld3
namespace Go.Proofs.Ytfjklgbakhjjiaa
open Go.RowKit Go.Maps Go.ChangeMaps
set_option maxRecDepth 100000
set_option linter.unusedVariables false

/-- Both ledgers' blocks. -/
def Mine (a b r : Nat) (c : Nat → Option Nat) (D k : Nat) : Prop := Own a b c D k ∨ k = r
/-- The rows that were taken. -/
structure TakIs (w : World) (lo : Nat) (M : Nat → Prop) (tv : Value) (T : List (Value × List Ad)) : Prop where
  row : w.ownsRow lo 22 1 tv T.length (T.map (·.1))
  own : ∀ p ∈ T, w.ownsRow lo 50 2 p.1 p.2.length (adCells p.2) ∧ p.2.length ≤ 8
  far : ∀ i, tv.ownBlock = some i → ¬ M i
  fars : ∀ p ∈ T, ∀ i, p.1.ownBlock = some i → ¬ M i
  dis : ∀ p ∈ T, ∀ i, p.1.ownBlock = some i → tv.ownBlock ≠ some i
theorem TakIs.keep {S : Nat → Prop} {w' : World} {w : World} {lo : Nat} {M : Nat → Prop} {tv : Value} {T : List (Value × List Ad)} (h : TakIs w lo M tv T) (k : Keep S w w') (h1 : ∀ i, tv.ownBlock = some i → ¬ S i) (h2 : ∀ p ∈ T, ∀ i, p.1.ownBlock = some i → ¬ S i) : TakIs w' lo M tv T :=
  ⟨k.owns h.row h1, fun p hp => ⟨k.owns (h.own p hp).1 (h2 p hp), (h.own p hp).2⟩, h.far, h.fars, h.dis⟩
theorem TakIs.keepM {S : Nat → Prop} {w' : World} {w : World} {lo : Nat} {M : Nat → Prop} {tv : Value} {T : List (Value × List Ad)} (h : TakIs w lo M tv T) (k : Keep S w w') (hS : ∀ i, S i → M i) : TakIs w' lo M tv T :=
  h.keep k (fun i hi hs => h.far i hi (hS i hs)) fun p hp i hi hs => h.fars p hp i hi (hS i hs)
theorem TakIs.lt {w : World} {lo : Nat} {M : Nat → Prop} {tv : Value} {T : List (Value × List Ad)} (h : TakIs w lo M tv T) : (∀ i, tv.ownBlock = some i → lo ≤ i ∧ i < w.heap.size) ∧ ∀ p ∈ T, ∀ i, p.1.ownBlock = some i → lo ≤ i ∧ i < w.heap.size :=
  ⟨fun i hi => ⟨owns_base h.row hi, by obtain ⟨cur, hc⟩ := owns_block h.row hi; exact lt_of_block hc⟩, fun p hp i hi => ⟨owns_base (h.own p hp).1 hi, by obtain ⟨cur, hc⟩ := owns_block (h.own p hp).1 hi; exact lt_of_block hc⟩⟩
theorem TakIs.turn {M' : Nat → Prop} {w : World} {lo : Nat} {M : Nat → Prop} {tv : Value} {T : List (Value × List Ad)} (h : TakIs w lo M tv T) (hM : ∀ i, i < w.heap.size → M' i → M i) : TakIs w lo M' tv T :=
  ⟨h.row, h.own, fun i hi hm => h.far i hi (hM i (h.lt.1 i hi).2 hm), fun p hp i hi hm => h.fars p hp i hi (hM i (h.lt.2 p hp i hi).2 hm), h.dis⟩
structure StIs (w0 w : World) (lo a b : Nat) (c : Nat → Option Nat) (r : Nat) (v : Value) (D Z : Nat) (C : List Ad) (tv : Value) (T : List (Value × List Ad)) : Prop where
  keep : Keep noBlk w0 w
  lo0 : w0.heap.size ≤ lo
  led : LedIs w lo a b c D Z C
  ref : RefIs w r v D Z C
  nr : ¬ Own a b c D r
  lr : lo ≤ r
  nv : ∀ i, v.ownBlock = some i → ¬ Mine a b r c D i
  tak : TakIs w lo (Mine a b r c D) tv T
  tvv : ∀ i, tv.ownBlock = some i → v.ownBlock ≠ some i
theorem StIs.mine {w0 w : World} {lo a b r D Z : Nat} {c : Nat → Option Nat} {v tv : Value} {C : List Ad} {T : List (Value × List Ad)} (h : StIs w0 w lo a b c r v D Z C tv T) {k : Nat} (hk : Mine a b r c D k) : lo ≤ k ∧ k < w.heap.size := by
  rcases hk with hk | rfl
  · exact h.led.own_lt hk
  · exact ⟨h.lr, h.ref.lt⟩
theorem StIs.keep0 {w0 w w' : World} {lo a b r D Z : Nat} {c : Nat → Option Nat} {v tv : Value} {C : List Ad} {T : List (Value × List Ad)} (h : StIs w0 w lo a b c r v D Z C tv T) (k : Keep noBlk w w') : StIs w0 w' lo a b c r v D Z C tv T :=
  ⟨h.keep.trans k, h.lo0, h.led.keep0 k, h.ref.keep0 k, h.nr, h.lr, h.nv, h.tak.keepM k (fun _ h => h.elim), h.tvv⟩
/-- What both turn to, together. -/
theorem StIs.next {w0 w w1 w2 : World} {lo a b r D Z : Nat} {c c' : Nat → Option Nat} {v v' tv : Value} {C C' L' : List Ad} {T : List (Value × List Ad)} (h : StIs w0 w lo a b c r v D Z C tv T)
    (k1 : Keep (Own a b c D) w w1) (hl : LedIs w1 lo a b c' D Z L') (hc : ∀ d g, d < D → c' d = some g → c d = some g ∨ w.heap.size ≤ g) (k2 : Keep (fun i => i = r) w1 w2) (hr : RefIs w2 r v' D Z C') (hv : ∀ i, v'.ownBlock = some i → w1.heap.size ≤ i)
    (he : ∀ x, x ∈ L' ↔ x ∈ C') : StIs w0 w2 lo a b c' r v' D Z C' tv T := by
  have hm : ∀ i, i < w.heap.size → Mine a b r c' D i → Mine a b r c D i := fun i hi hm => by
    rcases hm with (rfl | rfl | ⟨d, hd, hcd⟩) | rfl
    · exact .inl (.inl rfl)
    · exact .inl (.inr (.inl rfl))
    · rcases hc d i hd hcd with h1 | h1
      · exact .inl (.inr (.inr ⟨d, hd, h1⟩))
      · omega
    · exact .inr rfl
  have hnr : ¬ Own a b c' D r := fun ho => by
    rcases ho with e | e | ⟨d, hd, hcd⟩
    · exact h.nr (.inl e)
    · exact h.nr (.inr (.inl e))
    · rcases hc d r hd hcd with h1 | h1
      · exact h.nr (.inr (.inr ⟨d, hd, h1⟩))
      · have := h.ref.lt; omega
  have hs1 := k1.size
  refine ⟨(h.keep.trans' k1 (U := noBlk) (fun _ _ h => h) (fun i hi ho => by have := (h.led.own_lt ho).1; have := h.lo0; omega)).trans' k2 (fun _ _ h => h) (fun i hi e => by have := h.lr; have := h.lo0; have : w0.heap.size ≤ w.heap.size := h.keep.size; omega), h.lo0, (hl.keep k2 fun i e ho => hnr (e ▸ ho)).congr he, hr, hnr, h.lr, fun i hi hmi => ?_, ?_, fun i hi hv2 => ?_⟩
  · have h1 := hv i hi
    rcases hmi with ho | rfl
    · have := (hl.own_lt ho).2; omega
    · exact hr.far hi
  · have h2 := (h.tak.keepM k1 fun i ho => .inl ho).keepM k2 fun i e => .inr e
    have h3 := h.tak.turn hm
    exact ⟨h2.row, h2.own, h3.far, h3.fars, h2.dis⟩
  · have h1 := (h.tak.lt.1 i hi).2
    have h2 := hv i hv2
    omega
/-- What turns neither. -/
theorem StIs.keepS {S : Nat → Prop} {w0 w w' : World} {lo a b r D Z : Nat} {c : Nat → Option Nat} {v tv : Value} {C : List Ad} {T : List (Value × List Ad)} (h : StIs w0 w lo a b c r v D Z C tv T) (k : Keep S w w') (hS : ∀ i, S i → lo ≤ i ∧ ¬ Mine a b r c D i ∧ v.ownBlock ≠ some i ∧ tv.ownBlock ≠ some i ∧ ∀ p ∈ T, p.1.ownBlock ≠ some i) : StIs w0 w' lo a b c r v D Z C tv T :=
  ⟨h.keep.trans' k (U := noBlk) (fun _ _ h => h) (fun i hi e => by have := (hS i e).1; have := h.lo0; omega), h.lo0, h.led.keep k fun i e ho => (hS i e).2.1 (.inl ho), h.ref.keep k (fun e => (hS r e).2.1 (.inr rfl)) (fun i hi e => (hS i e).2.2.1 hi), h.nr, h.lr, h.nv, h.tak.keep k (fun i hi e => (hS i e).2.2.2.1 hi) (fun p hp i hi e => (hS i e).2.2.2.2 p hp hi), h.tvv⟩
/-- One more row. -/
theorem StIs.push {bo : Nat} {vo tv' : Value} {L : List Ad} {w0 w w' : World} {lo a b r D Z : Nat} {c : Nat → Option Nat} {v tv : Value} {C : List Ad} {T : List (Value × List Ad)} (h : StIs w0 w lo a b c r v D Z C tv T) (ho : w'.ownsRow lo 22 1 tv' (T.length + 1) (T.map (·.1) ++ [vo])) (k : Keep (fun i => tv.ownBlock = some i) w w')
    (hn : tv'.ownBlock = tv.ownBlock ∨ tv'.ownBlock = some w.heap.size) (hvo : w.ownsRow bo 50 2 vo L.length (adCells L)) (hbo : lo ≤ bo) (hL : L.length ≤ 8) (hf : ∀ i, vo.ownBlock = some i → ¬ Mine a b r c D i ∧ tv.ownBlock ≠ some i) :
    StIs w0 w' lo a b c r v D Z C tv' (T ++ [(vo, L)]) := by
  have hvl : ∀ i, vo.ownBlock = some i → i < w.heap.size := fun i hi => by obtain ⟨cur, hc⟩ := owns_block hvo hi; exact lt_of_block hc
  refine ⟨h.keep.trans' k (U := noBlk) (fun _ _ h => h) (fun i hi e => by have := (h.tak.lt.1 i e).1; have := h.lo0; omega), h.lo0, h.led.keep k fun i e ho => h.tak.far i e (.inl ho), h.ref.keep k (fun e => h.tak.far r e (.inr rfl)) (fun i hi e => h.tvv i e hi), h.nr, h.lr, h.nv, ⟨?_, ?_, ?_, ?_, ?_⟩, ?_⟩
  · rw [List.length_append, List.map_append]; exact ho
  · intro p hp
    rcases List.mem_append.1 hp with hp | hp
    · exact ⟨k.owns (h.tak.own p hp).1 fun i hi e => h.tak.dis p hp i hi e, (h.tak.own p hp).2⟩
    · rw [List.mem_singleton.1 hp]
      exact ⟨ownsRow_mono (k.owns hvo fun i hi e => (hf i hi).2 e) hbo, hL⟩
  · intro i hi hm
    rcases hn with e | e
    · exact h.tak.far i (e ▸ hi) hm
    · rw [e] at hi; have := (h.mine hm).2; cases hi; omega
  · intro p hp i hi
    rcases List.mem_append.1 hp with hp | hp
    · exact h.tak.fars p hp i hi
    · rw [List.mem_singleton.1 hp] at hi; exact (hf i hi).1
  · intro p hp i hi ht
    rcases List.mem_append.1 hp with hp | hp
    · rcases hn with e | e
      · exact h.tak.dis p hp i hi (e ▸ ht)
      · rw [e] at ht; have := (h.tak.lt.2 p hp i hi).2; cases ht; omega
    · rw [List.mem_singleton.1 hp] at hi
      rcases hn with e | e
      · exact (hf i hi).2 (e ▸ ht)
      · rw [e] at ht; have := hvl i hi; cases ht; omega
  · intro i hi hv
    rcases hn with e | e
    · exact h.tvv i (e ▸ hi) hv
    · rw [e] at hi; have := h.ref.vl i hv; cases hi; omega
/-- What Take answers, without its ledger. -/
def takeR (C : List Ad) (D Z : Nat) (th : List Bool) (cp : Int) : Except Int (List Nat) :=
  if checkB (freeN C D Z) th cp then match chooseL (freeN C D Z) th cp.toNat with | none => .error 15 | some l => .ok l
  else .error 2
theorem takeR_ne {C : List Ad} {D Z : Nat} {th : List Bool} {cp n : Int} (h : takeR C D Z th cp = .error n) : n = 15 ∨ n = 2 := by
  unfold takeR at h
  split at h
  · split at h
    · cases h; exact .inl rfl
    · cases h
  · cases h; exact .inr rfl
theorem TakePost.of {w w' : World} {lo a b D Z : Nat} {c : Nat → Option Nat} {L : List Ad} {th : List Bool} {cp : Int} {e : Ending} (h : TakePost w lo a b c D Z L th cp e w') :
    (∃ n, takeR L D Z th cp = .error n ∧ e = .returned (.tuple #[.slice none 0 0, .int .i64 n]) ∧ Keep noBlk w w') ∨
    ∃ l v, takeR L D Z th cp = .ok l ∧ chooseL (freeN L D Z) th cp.toNat = some l ∧ e = .returned (.tuple #[v, .int .i64 0]) ∧ LedIs w' lo a b c D Z (L ++ takenL L Z l) ∧ w'.ownsRow w.heap.size 50 2 v l.length (adCells (takenL L Z l)) ∧ Keep (Own a b c D) w w' := by
  unfold TakePost at h
  unfold takeR
  by_cases hb : checkB (freeN L D Z) th cp = true
  · rw [if_pos hb] at h ⊢
    cases hc : chooseL (freeN L D Z) th cp.toNat with
    | none => rw [hc] at h; exact .inl ⟨15, rfl, h⟩
    | some l => rw [hc] at h; obtain ⟨v, h1, h2, h3, h4⟩ := h; exact .inr ⟨l, v, rfl, rfl, h1, h2, h3, h4⟩
  · rw [if_neg hb] at h ⊢
    exact .inl ⟨2, rfl, h⟩
theorem RTakePost.of {w w' : World} {r D Z : Nat} {L : List Ad} {th : List Bool} {cp : Int} {e : Ending} (h : RTakePost w r D Z L th cp e w') :
    (∃ n, takeR L D Z th cp = .error n ∧ e = .returned (.tuple #[.slice none 0 0, .int .i64 n]) ∧ Keep noBlk w w') ∨
    ∃ l vo v', takeR L D Z th cp = .ok l ∧ e = .returned (.tuple #[vo, .int .i64 0]) ∧ RefIs w' r v' D Z (canon (L ++ takenL L Z l)) ∧ w'.ownsRow w.heap.size 50 2 vo l.length (adCells (takenL L Z l)) ∧ (∀ i, v'.ownBlock = some i → w.heap.size ≤ i) ∧ Keep (fun i => i = r) w w' := by
  unfold RTakePost at h
  unfold takeR
  by_cases hb : checkB (freeN L D Z) th cp = true
  · rw [if_pos hb] at h ⊢
    cases hc : chooseL (freeN L D Z) th cp.toNat with
    | none => rw [hc] at h; exact .inl ⟨15, rfl, h⟩
    | some l => rw [hc] at h; obtain ⟨vo, v', h1, h2, h3, h4, h5⟩ := h; exact .inr ⟨l, vo, v', rfl, h1, h2, h3, h4, h5⟩
  · rw [if_neg hb] at h ⊢
    exact .inl ⟨2, rfl, h⟩
end Go.Proofs.Ytfjklgbakhjjiaa

/-
  OverAddrs: a list of addresses is written over.
  Conditions: none.
-/
namespace Go.Proofs.Ytfjklgbakhjjiaa
open Go.RowKit Go.Maps Go.ChangeMaps
set_option maxRecDepth 100000
set_option linter.unusedVariables false

def OverI (n : Nat) (oa : Option Addr) (w : World) : Prop := 0 < n → ∃ g cur, oa = some ⟨g, 0, none⟩ ∧ w.heap[g]? = some (.cells cur 50 (0, 0)) ∧ n * 2 ≤ cur.size
theorem owns_open {w : World} {base n c : Nat} {a : Option Addr} {xs : List Value} (h : w.ownsRow base 50 2 (.slice a n c) n xs) (hn : 0 < n) : ∃ g cur, a = some ⟨g, 0, none⟩ ∧ w.heap[g]? = some (.cells cur 50 (0, 0)) ∧ n * 2 ≤ cur.size := by
  rcases h.2 with ⟨h1, -⟩ | ⟨g, cap, cur, h1, -, hh, h3, h4, h5, -⟩
  · cases h1; omega
  · injection h1 with h1 _ h2
    refine ⟨g, cur, h1, hh, ?_⟩
    rw [h5]
    exact Nat.mul_le_mul_right 2 h3
set_option maxHeartbeats 4000000 in
theorem over_any (w : World) (base n : Nat) (v : Value) (xs : List Value) (ho : w.ownsRow base 50 2 v n xs) : Calls Try.prog 14 #[v] w fun e w' => e = .returned (.tuple #[]) ∧ Keep (fun j => v.ownBlock = some j) w w' := by
  have hr := Rd.of_owns ho
  obtain ⟨oa, ca, rfl, hcn, hcm⟩ := hr.form
  unfold maxLen at hcm
  have hn63 : n ≤ 9223372036854775807 := by omega
  have HO := Lib.hid ho
  have HZ := Lib.hid (fun (h : 0 < n) => owns_open ho h)
  clear ho hr hcn hcm
  go_enter Try.func14, Try.ntmps14
  go_wp2_with fail
  go_loopw [2] (fun i wr => ∃ k : Nat, k ≤ n ∧ i = .int .i64 k ∧ Hid (OverI n oa wr) ∧ Hid (Keep (fun j => (Value.slice oa n ca).ownBlock = some j) w wr)) (fun i _ => n - (intOf i).toNat)
  case atStart => exact ⟨0, Nat.zero_le _, rfl, Lib.hid HZ.out, Lib.hid (Keep.refl _ _)⟩
  case round =>
  obtain ⟨k, hk, rfl, HI, HKR⟩ := hrel
  by_cases hlt : k < n
  · obtain ⟨g, cur, rfl, hb, hsz⟩ := HI.out (by omega)
    have HB := Lib.hid hb
    have hki : (k : Int) < (n : Int) := by omega
    have hk0 : (0 : Int) ≤ (k : Int) := by omega
    have hfit : k * 2 + 2 ≤ cur.size := by omega
    have hbd := buildAd (-7) (-7)
    clear hb
    go_wp2_with (first
      | ((with_reducible show wpList _ _ _ (⟨none, .store 50 (.tmp 12) (.tmp 11), _, _, _, _⟩ :: _) _ _); refine wpList_store_agg rfl 50 (.tmp 12) (.tmp 11) rfl g (k * 2) (adCs ⟨-7, -7⟩) rfl rfl cur 50 HB.out hfit sizeAd (oneCell_ad _) ?_
         intro w3 hb3 hk3
         have HI3 : Hid (OverI n (some ⟨g, 0, none⟩) w3) := Lib.hid (fun _ => ⟨g, _, rfl, hb3, by rw [spl_size]; exact hsz⟩)
         have HK3 := Lib.hid (HKR.out.trans' hk3 (U := fun j => (Value.slice (some ⟨g, 0, none⟩) n ca).ownBlock = some j) (fun _ _ h => h) (fun i hi e => by rw [e]; rfl))
         clear hb3 hk3))
    go_roundw
    case rel => exact ⟨k + 1, by omega, by go_num, HI3, HK3⟩
    case measure => simp [intOf]; omega
  · obtain rfl : k = n := by omega
    go_wp2_with fail
    go_end0
    exact ⟨rfl, HKR.out⟩

end Go.Proofs.Ytfjklgbakhjjiaa

/-
  SameBools.
  Conditions: none.
-/
namespace Go.Proofs.Ytfjklgbakhjjiaa
open Go.RowKit Go.Maps Go.ChangeMaps
set_option maxRecDepth 100000
set_option linter.unusedVariables false

set_option maxHeartbeats 4000000 in
theorem sameBools_any (w : World) (v v2 : Value) (l m : List Bool) (hl : Rd w 1 v l.length (l.map Value.bool)) (hm : Rd w 1 v2 m.length (m.map Value.bool)) : Calls Try.prog 71 #[v, v2] w (TherePost w (decide (l = m))) := by
  obtain ⟨la, lc, rfl, -, -⟩ := hl.form
  obtain ⟨ma, mc, rfl, -, -⟩ := hm.form
  have hlx : l.length ≤ maxLen := by obtain ⟨_, a', c', h1, h2, h3, -⟩ := hl; omega
  unfold maxLen at hlx
  obtain ⟨bb, hbb⟩ : ∃ b, decide (l = m) = b := ⟨_, rfl⟩
  have HBB := Lib.hid hbb
  rw [hbb]
  clear hbb
  obtain ⟨n, hn⟩ : ∃ n, l.length = n := ⟨_, rfl⟩
  obtain ⟨q, hq⟩ : ∃ n, m.length = n := ⟨_, rfl⟩
  have HL := Lib.hid hl; have HM := Lib.hid hm; have HN := Lib.hid hn; have HQ := Lib.hid hq
  rw [hn] at HL hlx ⊢
  rw [hq] at HM ⊢
  clear hl hm hn hq
  by_cases hne : n = q
  · subst hne
    go_enter Try.func71, Try.ntmps71
    go_wp2_with fail
    go_loopw [5] (fun t wr => ∃ k : Nat, k ≤ n ∧ t = .int .i64 k ∧ Hid (l.take k = m.take k) ∧ Hid (Keep noBlk w wr)) (fun t _ => n - (intOf t).toNat)
    case atStart => exact ⟨0, Nat.zero_le _, rfl, Lib.hid (by simp), Lib.hid (Keep.refl _ _)⟩
    case round =>
    obtain ⟨k, hk, rfl, HT, HK⟩ := hrel
    by_cases hlt : k < n
    · have hki : (k : Int) < (n : Int) := by omega
      have hk0 : (0 : Int) ≤ (k : Int) := by omega
      obtain ⟨x, hx⟩ : ∃ x, l[k]? = some x := ⟨l[k]'(by rw [HN.out]; exact hlt), List.getElem?_eq_getElem _⟩
      obtain ⟨y, hy⟩ : ∃ x, m[k]? = some x := ⟨m[k]'(by rw [HQ.out]; exact hlt), List.getElem?_eq_getElem _⟩
      have hr := HL.out.keep HK.out fun _ _ => id
      rw [← HN.out] at hr
      obtain ⟨p, o, cap, hv, hc⟩ := rd_bool hr hx
      rw [HN.out] at hv
      have e1 : la = some ⟨p, o, none⟩ := by cases hv; rfl
      subst e1
      have hr2 := HM.out.keep HK.out fun _ _ => id
      rw [← HQ.out] at hr2
      obtain ⟨p2, o2, cap2, hv2, hc2⟩ := rd_bool hr2 hy
      rw [HQ.out] at hv2
      have e1 : ma = some ⟨p2, o2, none⟩ := by cases hv2; rfl
      subst e1
      have HX := Lib.hid hx; have HY := Lib.hid hy
      obtain ⟨bi, hbi⟩ : ∃ b, (x != y) = b := ⟨_, rfl⟩
      have HBI := Lib.hid hbi
      clear hr hr2 hv hv2 hx hy hbi
      go_wp2_with fail
      obtain ⟨S, hS0⟩ : ∃ S : World → Prop, S = fun w' => Keep noBlk wr w' := ⟨_, rfl⟩
      have HSE := Lib.hid (show ∀ w', S w' → Keep noBlk wr w' from fun w' h => by rw [hS0] at h; exact h)
      have HSI := Lib.hid (show ∀ w', Keep noBlk wr w' → S w' from fun w' h => by rw [hS0]; exact h)
      have hS : S wr.drew := by rw [hS0]; exact (Keep.refl _ _).drew
      clear hS0
      refine wp_region_held (S := S) (by kernel_rfl) ?_
      change wpAnyH _ _ _ _ _ _ _ _ wr.drew
      generalize wr.drew = wq41 at hS ⊢
      refine tka 0 (.slice (some ⟨p, o, none⟩) n lc) rfl hS ?_
      simp only [Act.put, List.setIfInBounds_toArray, List.set_cons_zero, List.set_cons_succ, List.getElem_toArray, List.getElem_cons_zero]
      refine tna 1 (.int .i64 (k : Int)) rfl hS ?_
      refine tnb 2 (.pointer (some ⟨p, o + k, none⟩)) rfl hS ?_
      refine tnd 3 (.bool x) rfl (.inl ⟨by rfl, fun w' hw' => by have c := (HSE.out w' hw').cell hc id; go_simp⟩) hS ?_
      refine tna 4 (.slice (some ⟨p2, o2, none⟩) n mc) rfl hS ?_
      refine tna 5 (.int .i64 (k : Int)) rfl hS ?_
      refine tnb 6 (.pointer (some ⟨p2, o2 + k, none⟩)) rfl hS ?_
      refine tnd 7 (.bool y) rfl (.inl ⟨by rfl, fun w' hw' => by have c := (HSE.out w' hw').cell hc2 id; go_simp⟩) hS ?_
      refine tnd 8 (.bool bi) rfl (.inl ⟨by rfl, fun _ _ => by have e := HBI.out; subst e; cases x <;> cases y <;> go_simp⟩) hS ?_
      refine wpAnyH_done (by kernel_rfl) ?_ _
      have HKR := Lib.hid (HSE.out _ hS)
      clear hS HSE HSI
      have HK := Lib.hid (HK.out.trans HKR.out)
      clear HKR hc hc2
      cases bi
      · have e : x = y := by simpa using HBI.out
        have HTE : Hid (l.take (k + 1) = m.take (k + 1)) := Lib.hid (by rw [List.take_add_one, List.take_add_one, HT.out, HX.out, HY.out, e])
        go_wp2_with fail
        go_roundw
        case rel => exact ⟨k + 1, by omega, by go_num, HTE, HK⟩
        case measure => simp [intOf]; omega
      · have e : x ≠ y := by simpa using HBI.out
        have hb : bb = false := by
          rw [← HBB.out]
          refine decide_eq_false fun e2 => e ?_
          have h := HX.out
          rw [e2, HY.out] at h
          exact (Option.some.inj h).symm
        subst hb
        go_wp2_with fail
        go_ret
        exact ⟨rfl, HK.out⟩
    · obtain rfl : k = n := by omega
      have hb : bb = true := by
        rw [← HBB.out]
        have h := HT.out
        rw [List.take_of_length_le (by rw [HN.out]; exact Nat.le_refl _), List.take_of_length_le (by rw [HQ.out]; exact Nat.le_refl _)] at h
        exact decide_eq_true h
      subst hb
      go_wp2_with fail
      go_ret
      exact ⟨rfl, HK.out⟩
  · have hd : decide ((n : Int) = (q : Int)) = false := decide_eq_false (by omega)
    have hni : (n : Int) ≠ (q : Int) := by omega
    have hb1 : ((n : Int) != (q : Int)) = true := bne_iff_ne.2 hni
    have hb2 : ((n : Int) == (q : Int)) = false := beq_false_of_ne hni
    have hb : bb = false := by rw [← HBB.out]; exact decide_eq_false fun e => hne (by rw [← HN.out, ← HQ.out, e])
    subst hb
    go_enter Try.func71, Try.ntmps71
    go_wp2_with fail
    go_ret
    exact ⟨rfl, Keep.refl _ _⟩

end Go.Proofs.Ytfjklgbakhjjiaa

/-
  LentBools and KeptBools: a list of bools with three marks behind it.
  Conditions: at most 65536 bools.
-/
namespace Go.Proofs.Ytfjklgbakhjjiaa
open Go.RowKit
set_option maxRecDepth 100000
set_option linter.unusedVariables false

def mkB (k : Nat) : Bool := decide ((k : Int) % 2 = 0)
def lentBL (b : List Bool) : List Bool := b ++ [mkB b.length, mkB (b.length + 1), mkB (b.length + 2)]
theorem lentBL_length (b : List Bool) : (lentBL b).length = b.length + 3 := by simp [lentBL]
def IsLentB (w : World) (g : Nat) (b : List Bool) : Prop := w.heap[g]? = some (.cells ((lentBL b).map Value.bool).toArray 4 (0, 0))
theorem IsLentB.keep {w w' : World} {g : Nat} {b : List Bool} (h : IsLentB w g b) {S : Nat → Prop} (k : Keep S w w') (hS : ¬ S g) : IsLentB w' g b := k.blk h hS
theorem IsLentB.rd {w : World} {g : Nat} {b : List Bool} (h : IsLentB w g b) (hm : b.length ≤ 65536) : Rd w 1 (.slice (some ⟨g, 0, none⟩) b.length (b.length + 3)) b.length (b.map Value.bool) := by
  refine ⟨by simp, _, _, rfl, by omega, by unfold maxLen; omega, (by intro e; cases e), fun _ => ⟨g, 0, rfl, fun i u hu => ?_⟩⟩
  refine blk_cell h ?_
  rw [Nat.zero_add, List.getElem?_toArray, lentBL, List.map_append, List.getElem?_append_left (by have := (List.getElem?_eq_some_iff.1 hu).1; exact this)]
  exact hu
theorem IsLentB.rdAll {w : World} {g : Nat} {b : List Bool} (h : IsLentB w g b) (hm : b.length ≤ 65536) : Rd w 1 (.slice (some ⟨g, 0, none⟩) (b.length + 3) (b.length + 3)) (lentBL b).length ((lentBL b).map Value.bool) := by
  refine ⟨by simp, _, _, by rw [lentBL_length], by rw [lentBL_length]; omega, by unfold maxLen; omega, (by intro e; cases e), fun _ => ⟨g, 0, rfl, fun i u hu => ?_⟩⟩
  refine blk_cell h ?_
  rw [Nat.zero_add, List.getElem?_toArray]
  exact hu
def lentBC (b : List Bool) (k : Nat) : List Value := b.map Value.bool ++ (List.range 3).map (fun j => if j < k then Value.bool (mkB (b.length + j)) else .bool false)
theorem lentBC_len (b : List Bool) (k : Nat) : (lentBC b k).length = b.length + 3 := by simp [lentBC]
theorem lentBC_step (b : List Bool) (k : Nat) : (lentBC b k).set (b.length + k) (Value.bool (mkB (b.length + k))) = lentBC b (k + 1) := by
  unfold lentBC
  rw [List.set_append_right _ _ (by simp), List.length_map, show b.length + k - b.length = k by omega]
  congr 1
  apply List.ext_getElem
  · simp
  · intro i h1 h2
    simp only [List.getElem_set, List.getElem_map, List.getElem_range]
    by_cases e : k = i
    · subst e; simp
    · rw [if_neg e]
      by_cases h : i < k
      · rw [if_pos h, if_pos (by omega)]
      · rw [if_neg h, if_neg (by omega)]
theorem lentBC_all (b : List Bool) : lentBC b 3 = (lentBL b).map Value.bool := by
  unfold lentBC lentBL
  rw [List.map_append]
  rfl
theorem lentBC_zero (b : List Bool) : spl (List.replicate (b.length + 3) (Value.bool false)).toArray 0 (b.map Value.bool) = (lentBC b 0).toArray := by
  apply Array.ext_getElem?
  intro j
  rw [spl_get _ _ _ _ (by simp)]
  unfold lentBC
  rw [List.getElem?_toArray, List.getElem?_toArray]
  by_cases h1 : j < b.length
  · rw [if_pos (by simp; omega), List.getElem?_append_left (by simpa using h1), Nat.sub_zero]
  · rw [if_neg (by simp; omega), List.getElem?_append_right (by simp; omega), List.getElem?_replicate, List.getElem?_map, List.length_map]
    by_cases h3 : j < b.length + 3
    · rw [if_pos h3, List.getElem?_range (by omega)]; rfl
    · rw [if_neg h3, List.getElem?_eq_none (by simp; omega)]; rfl
theorem owns_fullB {w : World} {base g n : Nat} {l : List Value} (h : w.ownsRow base 4 1 (.slice (some ⟨g, 0, none⟩) n n) n l) : w.heap[g]? = some (.cells l.toArray 4 (0, 0)) := by
  rcases h.2 with ⟨h1, -⟩ | ⟨g', cap, cur, h1, _, hg, _, _, h3, h4⟩
  · cases h1
  · cases h1
    rw [hg, ← h4, List.take_of_length_le (by rw [Array.length_toList, h3]; exact Nat.le_refl _)]
theorem infoBool : (Try.prog.info? 4).map (fun i => (i.zero, i.size, i.bytes)) = some (some (.bool false), 1, 1) := by kernel_rfl
theorem sizeBool : (Try.prog.info? 4).map (·.size) = some 1 := by kernel_rfl
def LentBPost (w : World) (b : List Bool) (e : Ending) (w' : World) : Prop :=
  ∃ g, e = .returned (.slice (some ⟨g, 0, none⟩) b.length (b.length + 3)) ∧ IsLentB w' g b ∧ Keep noBlk w w' ∧ w.heap.size ≤ g
set_option maxHeartbeats 1000000 in
theorem lentB_any (w : World) (bv : Value) (b : List Bool) (hr : Rd w 1 bv b.length (b.map Value.bool)) (hm : b.length ≤ 65536) :
    Calls Try.prog 42 #[bv] w (LentBPost w b) := by
  obtain ⟨a, c, rfl, -, -⟩ := hr.form
  have HR := Lib.hid hr; clear hr
  obtain ⟨n, hn⟩ : ∃ n, b.length = n := ⟨_, rfl⟩
  rw [hn] at HR hm ⊢
  have HN := Lib.hid hn
  clear hn
  have hone : ∀ u ∈ b.map Value.bool, u.oneCell' = true := fun u hu => by obtain ⟨x, -, rfl⟩ := List.mem_map.1 hu; rfl
  go_enter Try.func42, Try.ntmps42
  go_wp2_with (first
    | ((with_reducible show wpList _ _ _ (⟨some 8, .makeSlice _ _ _, _, _, _, _⟩ :: _) _ _); refine wpList_make_one rfl (.tmp 7) (.tmp 7) 39 rfl w.heap.size 4 (.bool false) 1 Try.underlying39 infoBool rfl (n + 3) (by rfl) (by rfl) (by omega) (by unfold maxLen; omega) (by exact Nat.le_refl _) ?_; intro w2 hown2 hk2; have HO2 := Lib.hid (owns_fullB hown2); have HK2 := Lib.hid hk2; have HR2 := Lib.hid (HR.out.keep hk2 fun _ _ => id); clear hown2 hk2)
    | ((with_reducible show wpList _ _ _ (⟨some 11, _, _, _, _, _⟩ :: _) _ _); refine wpList_copy_rd rfl (.tmp 9) (.tmp 10) 39 39 rfl 4 Try.underlying39 sizeBool w.heap.size 0 (n + 3) (n + 3) (by rfl) _ n (b.map Value.bool) (by rfl) HR2.out n (by show n = min n (n + 3); omega) (List.replicate (n + 3) (Value.bool false)).toArray _ HO2.out (by rw [List.size_toArray, List.length_replicate]; omega) hone ?_; intro w3 hb3 hk3; have HB3 := Lib.hid hb3; have HK3 := Lib.hid hk3; clear hb3 hk3))
  have hb3 : w3.heap[w.heap.size]? = some (.cells (lentBC b 0).toArray 4 (0, 0)) := by
    have := HB3.out
    rwa [List.take_of_length_le (by simp [HN.out]), ← HN.out, lentBC_zero] at this
  have hk3 : Keep noBlk w w3 := HK2.out.trans' HK3.out (fun _ _ h => h) (fun i hi e => by omega)
  have R0 := Lib.hid (And.intro hb3 hk3)
  clear hb3 hk3 HB3 HK3 HK2 HO2 HR2 HR hone
  obtain ⟨g, hg⟩ : ∃ g, w.heap.size = g := ⟨_, rfl⟩
  rw [hg] at R0 ⊢
  have HG := Lib.hid hg
  clear hg
  go_loopw [4] (fun i wr => ∃ k : Nat, k ≤ 3 ∧ i = .int .i64 ((n + k : Nat) : Int) ∧ Hid (wr.heap[g]? = some (.cells (lentBC b k).toArray 4 (0, 0)) ∧ Keep noBlk w wr)) (fun i _ => n + 3 - (intOf i).toNat)
  case atStart => exact ⟨0, by omega, rfl, R0⟩
  case round =>
    clear R0
    obtain ⟨k, hk, rfl, hR⟩ := hrel
    obtain ⟨m, hm2⟩ : ∃ m, n + k = m := ⟨_, rfl⟩
    rw [hm2]
    by_cases hk3 : k < 3
    · have hc : ∃ u, wr.cell? ⟨g, m, none⟩ = some u := by
        refine ⟨(lentBC b k)[m]'(by rw [lentBC_len, HN.out]; omega), blk_cell hR.out.1 ?_⟩
        rw [List.getElem?_toArray]
        exact List.getElem?_eq_getElem _
      obtain ⟨u, hc⟩ := hc
      have hf := blk_free hR.out.1 m
      have i0 : (0 : Int) ≤ (m : Int) := by omega
      have i1 : (m : Int) < (n : Int) + 3 := by omega
      have i2 : (m : Int) ≤ 65539 := by omega
      have hR2 : Hid ((wr.setCell ⟨g, m, none⟩ (.bool (mkB m))).heap[g]? = some (.cells (lentBC b (k + 1)).toArray 4 (0, 0)) ∧ Keep noBlk w (wr.setCell ⟨g, m, none⟩ (.bool (mkB m)))) := by
        refine Lib.hid ⟨?_, hR.out.2.setCell (fun h => by have := HG.out; simp only at h; omega) _⟩
        have h1 := set_blk hR.out.1 m (.bool (mkB m))
        rw [List.setIfInBounds_toArray] at h1
        have h2 := lentBC_step b k
        rw [HN.out, hm2] at h2
        rw [h2] at h1
        exact h1
      have HM2 := Lib.hid hm2
      clear hm2
      go_wp2_with fail
      go_roundw
      case rel => exact ⟨k + 1, by omega, by have := HM2.out; go_num, hR2⟩
      case measure => simp [intOf]; omega
    · obtain rfl : k = 3 := by omega
      have hfin : LentBPost w b (.returned (.slice (some ⟨g, 0, none⟩) n (n + 3))) wr := by
        refine ⟨g, by rw [HN.out], ?_, hR.out.2, by rw [HG.out]; exact Nat.le_refl _⟩
        have := hR.out.1
        rw [lentBC_all] at this
        exact this
      have HF := Lib.hid hfin
      have hmm : (n : Int) + 3 = (m : Int) := by omega
      have i5 : ¬ ((m : Int) < (n : Int) + 3) := by omega
      have HM := Lib.hid hmm; have HM2 := Lib.hid hm2
      clear hfin hR hmm hm2
      go_wp2_with fail
      go_ret
      exact HF.out

theorem sameB_pair (w : World) (g g2 n : Nat) (b : List Bool) (hn : b.length = n) (hm : n ≤ 65536) (h1 : IsLentB w g b) (h2 : IsLentB w g2 b) :
    Calls Try.prog 71 #[.slice (some ⟨g, 0, none⟩) (n + 3) (n + 3), .slice (some ⟨g2, 0, none⟩) (n + 3) (n + 3)] w (fun e w' => e = .returned (.bool true) ∧ Keep noBlk w w') := by
  have r1 := h1.rdAll (by rw [hn]; exact hm)
  have r2 := h2.rdAll (by rw [hn]; exact hm)
  have C := sameBools_any w _ _ (lentBL b) (lentBL b) r1 r2
  rw [hn, decide_eq_true rfl] at C
  exact C
set_option maxHeartbeats 2000000 in
theorem keptB_any (w : World) (bv : Value) (b : List Bool) (hr : Rd w 1 bv b.length (b.map Value.bool)) (hm : b.length ≤ 65536) (g : Nat) (hl : IsLentB w g b) :
    Calls Try.prog 48 #[.slice (some ⟨g, 0, none⟩) b.length (b.length + 3), bv] w (TherePost w true) := by
  obtain ⟨a, c, rfl, -, -⟩ := hr.form
  have HR := Lib.hid hr; have HL := Lib.hid hl
  clear hr hl
  obtain ⟨n, hn⟩ : ∃ n, b.length = n := ⟨_, rfl⟩
  have HN := Lib.hid hn
  rw [hn] at hm ⊢
  have CL : ∀ w', Keep noBlk w w' → Hid (Calls Try.prog 42 #[.slice a n c] w' (LentBPost w' b)) := fun w' k => Lib.hid (by
    have := lentB_any w' (.slice a b.length c) b (HR.out.keep k fun _ _ => id) (by rw [hn]; exact hm)
    rwa [hn] at this)
  clear hn
  have K0 := Lib.hid (show Keep noBlk w w.drew from (Keep.refl _ _).drew)
  have i0 : (0 : Int) ≤ (n : Int) + 3 := by omega
  have i1 : ((n : Int) + 3).toNat = n + 3 := by omega
  have e1 : IntKind.i64.wrap ((n : Int) + 3) = (n : Int) + 3 := by rw [IntWalk.i64_in _ (by omega)]
  go_enter Try.func48, Try.ntmps48
  go_wp2_with fail
  go_region_held3 (fun w' => Keep noBlk w w')
    (first | (exact K0.out) | (exact HK3.out) | (exact HK2.out.1))
    (first
      | (go_at_call 42; refine (CL w.drew K0.out).out.mono ?_; rintro e w2 ⟨g2, rfl, hl2, hk2, -⟩; have HK2 := Lib.hid (And.intro (K0.out.trans hk2) hl2); rw [HN.out]; clear hk2 hl2)
      | (go_at_call 71; refine (sameB_pair w2 g g2 n b HN.out hm (HL.out.keep HK2.out.1 id) HK2.out.2).mono ?_; rintro e w3 ⟨rfl, hk3⟩; have HK3 := Lib.hid (HK2.out.1.trans hk3); clear hk3))
  go_wp2_with fail
  go_ret
  exact ⟨rfl, HK3.out⟩
end Go.Proofs.Ytfjklgbakhjjiaa
