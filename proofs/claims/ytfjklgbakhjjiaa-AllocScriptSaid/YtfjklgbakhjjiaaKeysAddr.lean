/-
  maps.Keys over a set of addresses: each comes once, in some order.
  Conditions: none.
-/
import Derived.Test.YtfjklgbakhjjiaaKeyAddr
import Derived.Test.YtfjklgbakhjjiaaSortK
namespace Go.Proofs.Ytfjklgbakhjjiaa
open Go.RowKit Go.Maps Go.ChangeMaps
set_option maxRecDepth 100000
set_option linter.unusedVariables false

/-- Addresses whose numbers are of their kind. -/
abbrev Adr := { a : Ad // AdOk a }

set_option maxHeartbeats 2000000 in
theorem keysAd_in (n l B1 b : Nat) (lst : List (Ad × Nix)) (J Jx : List Adr → World → Prop) (Bs : Nat) (hA : AbidesFrom Bs J) (W : World) (hBs : Bs ≤ W.heap.size)
    (hY : ∀ pre x W, J pre W → pre.length < lst.length → YieldAt Fence.wide (n - 1) Try.prog l #[adV x.1] W fun e W' =>
      (e = .returned (.bool true) ∧ J (pre ++ [x]) W' ∧ KeysKp B1 W W') ∨ (e = .returned (.bool false) ∧ Jx (pre ++ [x]) W'))
    (h1 : W.heap[B1]? = some (.cells #[.map (some b)] 91 (0, 0))) (h2 : MapIs AdOk adV unitV W b lst) (h0 : J [] W) :
    CallsIn Fence.wide n Try.prog 91 #[.func (.yield l) #[] #[], .pointer (some ⟨B1, 0, none⟩)] W fun e W' => (∃ v, e = .returned v) ∧
      ((∃ ys : List Adr, (ys.map (·.1)).Perm (lst.map (·.1)) ∧ J ys W') ∨ (∃ pre, True ∧ Jx pre W')) := by
  refine callsIn_of_wp Try.func91 rfl trivial ?_ rfl
  simp only [Try.ntmps91, List.size_toArray, List.length_cons, List.length_nil, Nat.reduceAdd, Nat.reduceSub, Array.replicate_succ, Array.replicate_zero, List.push_toArray, List.append_toArray, List.nil_append, List.cons_append]
  have c1 := cell_of_one h1
  have H1 := Lib.hid h1; have H2 := Lib.hid h2; have H0 := Lib.hid h0
  clear h1 h2 h0
  gi_wp2_with (first
    | (gi_at_range; refine wpListIn_range_is rfl _ _ rfl Try.underlying91 rfl H2.out ?_; intro w0 hi0 hk0 hs0)
    | gi_in)
  go_frame
  have hJ1 : J [] w0 := hA _ _ _ none H0.out (grown_of_keep0 hk0) (fun r e => by cases e)
  have hc0 : w0.heap[B1]? = some (.cells #[.map (some b)] 91 (0, 0)) := hk0.blk H1.out id
  have R0 := Lib.hid (And.intro hi0 (And.intro hJ1 hc0))
  clear hi0 hk0 hs0 hJ1 hc0 c1
  gi_loopw [3] (fun _ wr => ∃ (left : List (Ad × Nix)) (pre : List Adr), Hid (IterIs AdOk adV unitV wr b W.heap.size lst left ∧ J pre wr ∧ wr.heap[B1]? = some (.cells #[.map (some b)] 91 (0, 0))) ∧ (pre.map (·.1) ++ left.map (·.1)).Perm (lst.map (·.1)))
    (fun _ wr => wr.rangeLeft b W.heap.size)
  case atStart => exact ⟨lst, [], R0, by simp⟩
  case round =>
    obtain ⟨left, pre, hR, hp⟩ := hrel
    gi_wp2_with (first
      | (gi_at_next; refine wpListIn_next_is rfl _ rfl rfl hR.out.1 ?_ ?_)
      | gi_in)
    · intro hl
      gi_wp2
      go_end0
      subst hl
      exact ⟨⟨_, rfl⟩, .inl ⟨pre, by simpa using hp, hR.out.2.1⟩⟩
    · intro i x v w2 hxi hxo hi2 hk2 hs2 he2
      have hplen : pre.length < lst.length := by
        have h1 := hp.length_eq
        have h2 := (List.getElem?_eq_some_iff.1 hxi).1
        simp at h1
        omega
      have hJ2 : J pre w2 := hA _ _ _ (some W.heap.size) hR.out.2.1 (grown_of_keep hk2) (fun r e => by cases e; exact ⟨hBs, hR.out.1.walk⟩)
      have hc2 : w2.heap[B1]? = some (.cells #[.map (some b)] 91 (0, 0)) := hk2.blk hR.out.2.2 (by have := lt_of_block H1.out; omega)
      have hp2 : ((pre ++ [(⟨x, hxo⟩ : Adr)]).map (·.1) ++ (left.eraseIdx i).map (·.1)).Perm (lst.map (·.1)) := by
        refine List.Perm.trans ?_ hp
        have := (eraseIdx_perm hxi).map (·.1)
        simp only [List.map_append, List.map_cons, List.map_nil, List.append_assoc, List.singleton_append]
        exact (this.append_left _).symm
      have HJ2 := Lib.hid hJ2; have HI2 := Lib.hid hi2; have HE2 := Lib.hid he2; have HC2 := Lib.hid hc2; have HP2 := Lib.hid hp2; have HR2 := Lib.hid (hR.out.1.count); have HL := Lib.hid (List.getElem?_eq_some_iff.1 hxi).1
      have hvl : (adCs x).length = 2 := rfl
      clear hJ2 hi2 hk2 hs2 he2 hc2 hp2 hxi hp hR
      unfold adV
      gi_wp2_with (first
        | (refine wpListIn_entry_is rfl _ rfl rfl HE2.out ?_; show wpListIn _ _ _ _ _ _ (Act.put _ _ (Value.tuple #[.agg (adCs x).toArray, unitV v])) _)
        | (refine wpListIn_alloc_at rfl 50 rfl zeroAd zeroAddr #[.int .i64 0, .int .i64 0] rfl ?_)
        | (refine wpListIn_store_agg rfl 50 (.tmp 3) (.tmp 9) rfl w2.heap.size 0 (adCs x) rfl rfl #[.int .i64 0, .int .i64 0] _ (heap_alloc_new _ _) (by rw [hvl]; simp) (by rw [hvl]; exact sizeAd) (oneCell_ad _) ?_; intro w3 hb3 hk3
           rw [spl_whole _ _ (by rw [hvl]; simp)] at hb3
           have HB3 := Lib.hid hb3; have HK3 := Lib.hid (show Keep noBlk w2 w3 from ((Keep.refl noBlk w2).alloc _).trans' hk3 (fun _ _ h => h) (fun i hi e => by omega)); clear hb3 hk3
           have hJ3 := hA _ _ _ none HJ2.out (grown_of_keep0 HK3.out) (fun r e => by cases e)
           have hYk := hY pre ⟨x, hxo⟩ w3 hJ3 hplen
           unfold adV at hYk
           obtain ⟨fn, tmps, assign, body, hy, hR⟩ := hYk
           dsimp only at hy hR
           clear hJ3)
        | (refine wpListIn_load_mid rfl 50 (.tmp 3) rfl w2.heap.size 0 rfl (adCs x) _ (rangeAt_whole HB3.out) adUnder rfl (by rw [hvl]; exact sizeAd) ?_)
        | gi_in)
      refine ⟨fun h => by simp [Fence.wide] at h, hR.mono ?_⟩
      rintro e W3 (⟨rfl, hJ4, hk4⟩ | ⟨rfl, hJx⟩)
      · have HR4 := Lib.hid (show IterIs AdOk adV unitV W3 b W.heap.size lst (left.eraseIdx i) ∧ J (pre ++ [⟨x, hxo⟩]) W3 ∧ W3.heap[B1]? = some (.cells #[.map (some b)] 91 (0, 0)) from
          ⟨(HI2.out.keep HK3.out id id).walks hk4.1, hJ4, hk4.2.trans (HK3.out.blk HC2.out id)⟩)
        clear hJ4 hk4 hR hy
        gi_wp2
        go_roundw
        case rel => exact ⟨_, _, HR4, HP2.out⟩
        case measure => rw [HR4.out.1.count, HR2.out, List.length_eraseIdx_of_lt HL.out]; have := HL.out; omega
      · gi_wp2
        refine bodyPost_ret (results_none rfl _ _ _) rfl ?_
        exact ⟨⟨_, rfl⟩, .inr ⟨_, trivial, hJx⟩⟩
theorem keysAd_stops (n B1 b : Nat) (lst : List (Ad × Nix)) (w : World) (h1 : w.heap[B1]? = some (.cells #[.map (some b)] 91 (0, 0))) (h2 : MapIs AdOk adV unitV w b lst) :
    SeqStopsK Fence.wide n Try.prog 91 #[.pointer (some ⟨B1, 0, none⟩)] (fun x : Adr => #[adV x.1]) (KeysKp B1) (fun ys => (ys.map (·.1)).Perm (lst.map (·.1))) (fun _ => True) lst.length w := by
  intro l J Jx W hW hJ _ hY h0
  obtain ⟨es, clock, hb, hm⟩ := h2
  exact keysAd_in n l B1 b lst J Jx _ hJ W (Nat.le_refl _) hY ((hW.block _ (lt_of_block h1)).trans h1) ⟨es, clock, (hW.block _ (Array.getElem?_eq_some_iff.1 hb).1).trans hb, hm⟩ h0

theorem keysAd_call (mb : Option Nat) (w : World) :
    Calls Try.prog 77 #[.map mb] w fun e w' => e = .returned (.func (.func 91) #[] #[.pointer (some ⟨w.heap.size, 0, none⟩)]) ∧ w' = w.alloc (.cells #[.map mb] 91) := by
  go_enter Try.func77, Try.ntmps77
  go_wp2
  go_ret
  exact ⟨rfl, rfl⟩
end Go.Proofs.Ytfjklgbakhjjiaa
