/-
  As often as there is room can be taken, in plain Lean.
  Conditions: none but those told.
-/
import Derived.Test.YtfjklgbakhjjiaaManyA
import Derived.Test.YtfjklgbakhjjiaaLedD
namespace Go.Proofs.Ytfjklgbakhjjiaa
open Go.RowKit Go.Maps Go.ChangeMaps
set_option maxRecDepth 100000
set_option linter.unusedVariables false

theorem ext_getD {l m : List Int} (h : l.length = m.length) (he : ∀ i, i < l.length → l.getD i 0 = m.getD i 0) : l = m := by
  refine List.ext_getElem h fun i h1 h2 => ?_
  have := he i h1
  rwa [List.getD_eq_getElem?_getD, List.getD_eq_getElem?_getD, List.getElem?_eq_getElem h1, List.getElem?_eq_getElem h2] at this
theorem choose_head {M : List Ad} {D Z cp : Nat} {th : List Bool} {l : List Nat} (hc : chooseL (freeN M D Z) th cp = some l) {d : Nat} (hd : d ∈ l) : d < D ∧ ∃ x r, freeTo M d Z = x :: r := by
  have h1 := (choose_some hc).2.2.2.2 d hd
  rw [freeN_len] at h1
  have h2 := h1.2
  unfold canTake at h2
  rw [Bool.and_eq_true, decide_eq_true_eq, freeN_get M h1.1] at h2
  refine ⟨h1.1, ?_⟩
  cases e : freeTo M d Z with
  | nil => rw [e] at h2; simp at h2
  | cons x r => exact ⟨x, r, rfl⟩
theorem mem_takenL {M : List Ad} {Z : Nat} {l : List Nat} {x : Ad} : x ∈ takenL M Z l ↔ ∃ d ∈ l, x = ⟨(d : Int), (freeTo M d Z).headD 0⟩ := by
  unfold takenL
  rw [List.mem_map]
  exact ⟨fun ⟨d, h1, h2⟩ => ⟨d, h1, h2.symm⟩, fun ⟨d, h1, h2⟩ => ⟨d, h1, h2.symm⟩⟩
theorem freeTo_all {M : List Ad} {Z d : Nat} {l : List Nat} {x : Int} {r : List Int} (hd : d ∈ l) (hf : freeTo M d Z = x :: r) : freeTo (M ++ takenL M Z l) d Z = r := by
  obtain ⟨t, rfl, -, -, -, -, h5⟩ := freeTo_take hf
  rw [← h5]
  refine freeTo_congr fun s _ _ => ?_
  unfold usedB
  rw [decide_eq_decide, List.mem_append, List.mem_append, mem_takenL, List.mem_singleton]
  refine or_congr Iff.rfl ⟨?_, fun h => ⟨d, hd, by rw [h, hf]; rfl⟩⟩
  rintro ⟨e, he, h⟩
  have e1 : d = e := by have := congrArg Ad.dev h; simp only at this; omega
  subst e1
  rw [h, hf]
  rfl
theorem freeN_taken {M : List Ad} {D Z cp : Nat} {th : List Bool} {l : List Nat} (hc : chooseL (freeN M D Z) th cp = some l) : freeN (M ++ takenL M Z l) D Z = decL (freeN M D Z) l := by
  have hcs := choose_some hc
  refine ext_getD (by rw [decL_len, freeN_len, freeN_len]) fun d hd => ?_
  rw [freeN_len] at hd
  rw [decL_get l _ hcs.2.2.2.1 (fun i hi => (hcs.2.2.2.2 i hi).1), freeN_get _ hd, freeN_get _ hd]
  by_cases h : d ∈ l
  · obtain ⟨-, x, r, hf⟩ := choose_head hc h
    rw [if_pos h, freeTo_all h hf, hf]
    simp
  · rw [if_neg h, freeTo_taken h]
    omega
theorem rooms_more {th : List Bool} {cp : Nat} {fr : List Int} {n : Nat} (h : Rooms th cp fr (n + 1)) : ∃ l, chooseL fr th cp = some l ∧ Rooms th cp (decL fr l) n := by
  cases h with
  | more h1 h2 => exact ⟨_, h1, h2⟩
theorem rooms_none {th : List Bool} {cp : Nat} {fr : List Int} (h : Rooms th cp fr 0) : chooseL fr th cp = none := by
  cases h with
  | none h1 => exact h1
theorem rooms_le {th : List Bool} {cp : Nat} {fr : List Int} {n : Nat} (h : Rooms th cp fr n) (hc : 0 < cp) : n ≤ sumN fr := by
  induction h with
  | none _ => exact Nat.zero_le _
  | more h1 _ ih =>
    have := choose_dec h1 hc
    omega
theorem sumN_free (L : List Ad) (D Z : Nat) : sumN (freeN L D Z) ≤ D * Z := by
  unfold sumN freeN
  induction D with
  | zero => simp
  | succ D ih =>
    rw [List.range_succ, List.map_append, List.map_append, List.sum_append, Nat.succ_mul]
    have := freeTo_len L D Z
    simp only [List.map_cons, List.map_nil, List.sum_cons, List.sum_nil, Int.toNat_natCast]
    omega
theorem check_of {L : List Ad} {D Z : Nat} {th : List Bool} {cp : Nat} (hb : 2 ≤ D ∧ D ≤ 8 ∧ 8 ≤ Z ∧ Z ≤ 4096) (ht : th.length = D) (h1 : 1 ≤ cp) (h3 : cp ≤ 3) : checkB (freeN L D Z) th (cp : Int) = true := by
  unfold checkB okFree
  rw [freeN_len]
  simp only [Bool.and_eq_true, decide_eq_true_eq, List.all_eq_true]
  refine ⟨⟨⟨⟨⟨by omega, by omega⟩, ht⟩, by omega⟩, by omega⟩, fun x hx => ?_⟩
  unfold freeN at hx
  obtain ⟨d, -, rfl⟩ := List.mem_map.1 hx
  have := freeTo_len L d Z
  exact ⟨by omega, by omega⟩
/-- What was taken so far. -/
structure Took (U T : List Ad) (D Z : Nat) : Prop where
  nodup : T.Nodup
  may : ∀ x ∈ T, mayB x (D : Int) (Z : Int) = true
  off : ∀ x ∈ T, x ∉ U
theorem taken_new {M : List Ad} {D Z cp : Nat} {th : List Bool} {l : List Nat} (hb : 2 ≤ D ∧ D ≤ 8 ∧ 8 ≤ Z ∧ Z ≤ 4096) (hc : chooseL (freeN M D Z) th cp = some l) {x : Ad} (hx : x ∈ takenL M Z l) : mayB x (D : Int) (Z : Int) = true ∧ x ∉ M ∧ ∃ d t : Nat, x = ⟨(d : Int), (t : Int)⟩ ∧ d ∈ l ∧ ∀ s, 5 ≤ s → s < t → usedB M d s = true := by
  obtain ⟨d, hd, rfl⟩ := mem_takenL.1 hx
  obtain ⟨h1, y, r, hf⟩ := choose_head hc hd
  obtain ⟨t, rfl, h2, h3, h4, h5, -⟩ := freeTo_take hf
  rw [hf]
  show mayB ⟨(d : Int), (t : Int)⟩ _ _ = true ∧ (⟨(d : Int), (t : Int)⟩ : Ad) ∉ M ∧ _
  exact ⟨mayB_of hb h1 h3 h2, of_decide_eq_false h4, d, t, rfl, hd, h5⟩
theorem taken_nodup {M : List Ad} {D Z cp : Nat} {th : List Bool} {l : List Nat} (hc : chooseL (freeN M D Z) th cp = some l) : (takenL M Z l).Nodup := by
  unfold takenL
  rw [List.Nodup, List.pairwise_map]
  refine List.Pairwise.imp ?_ (choose_some hc).2.2.2.1
  intro d e hde h
  have := congrArg Ad.dev h
  simp only at this
  omega
theorem Took.next {U T : List Ad} {D Z cp : Nat} {th : List Bool} {l : List Nat} (h : Took U T D Z) (hb : 2 ≤ D ∧ D ≤ 8 ∧ 8 ≤ Z ∧ Z ≤ 4096) (hc : chooseL (freeN (U ++ T) D Z) th cp = some l) : Took U (T ++ takenL (U ++ T) Z l) D Z := by
  refine ⟨List.nodup_append.2 ⟨h.nodup, taken_nodup hc, fun x hx y hy e => ?_⟩, fun x hx => ?_, fun x hx => ?_⟩
  · subst e
    exact (taken_new hb hc hy).2.1 (List.mem_append_right _ hx)
  · exact (List.mem_append.1 hx).elim (h.may x) fun h => (taken_new hb hc h).1
  · exact (List.mem_append.1 hx).elim (h.off x) fun h hu => (taken_new hb hc h).2.1 (List.mem_append_left _ hu)
theorem Took.ok {U T : List Ad} {D Z : Nat} (h : Took U T D Z) : okT (U ++ T) T true D Z = true := by
  unfold okT
  rw [Bool.and_eq_true, List.all_eq_true, decide_eq_true_eq]
  refine ⟨fun x hx => ?_, h.nodup⟩
  rw [h.may x hx, decide_eq_true (List.mem_append_right U hx)]
  rfl
theorem Took.back {U T : List Ad} {D Z : Nat} (h : Took U T D Z) (x : Ad) : x ∈ turnL (U ++ T) T true ↔ x ∈ U := by
  rw [mem_turnL, if_pos rfl, List.mem_append]
  exact ⟨fun ⟨h1, h2⟩ => h1.resolve_right h2, fun hu => ⟨.inl hu, fun ht => h.off x ht hu⟩⟩
theorem freeN_congr {L M : List Ad} (h : ∀ x, x ∈ L ↔ x ∈ M) (D Z : Nat) : freeN L D Z = freeN M D Z := by
  unfold freeN
  exact List.map_congr_left fun d _ => by rw [freeTo_congr fun s _ _ => usedB_congr h d s]
theorem low_used {M : List Ad} {D Z cp : Nat} {th : List Bool} {l : List Nat} (hb : 2 ≤ D ∧ D ≤ 8 ∧ 8 ≤ Z ∧ Z ≤ 4096) (hc : chooseL (freeN M D Z) th cp = some l) {x : Ad} (hx : x ∈ takenL M Z l) {s : Nat} (h5 : 5 ≤ s) (hs : (s : Int) < x.2) : inB ⟨x.1, (s : Int)⟩ D Z (M ++ takenL M Z l) = true := by
  obtain ⟨hm, -, d, t, rfl, hd, hl⟩ := taken_new hb hc hx
  obtain ⟨hdD, -⟩ := choose_head hc hd
  have hm2 := (mayB_in hb).1 hm
  have hst : s < t := by simp only at hs; omega
  have htZ : t < Z := by have := hm2.2.2.2; simp only at this; omega
  unfold inB
  rw [mayB_of hb hdD h5 (by omega), Bool.true_and]
  exact decide_eq_true (List.mem_append_left _ (of_decide_eq_true (hl s h5 hst)))
end Go.Proofs.Ytfjklgbakhjjiaa
