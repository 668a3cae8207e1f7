/-
  The document's among and together.
  Conditions: at most 20 holders of at most 100 addresses.
-/
import Derived.Test.YtmilgaoilglmjaaSpecV
namespace Go.Proofs.Ytmilgaoilglmjaa
open Go.RowKit Go.Maps Go.ChangeMaps
set_option maxRecDepth 100000
set_option linter.unusedVariables false

set_option maxHeartbeats 2000000 in
theorem among_any (w : World) (v : Value) (l : List Int) (i : Int) (hr : Rd w 1 v l.length (l.map fun x => .int .i64 x)) : Calls Try.prog 45 #[v, .int .i64 i] w fun e w' => e = .returned (.bool (decide (i ∈ l))) ∧ Keep noBlk w w' := by
  obtain ⟨la, lc, rfl, -, -⟩ := hr.form
  have hlm : l.length ≤ maxLen := by obtain ⟨_, a', c', h1, h2, h3, -⟩ := hr; omega
  unfold maxLen at hlm
  obtain ⟨n, hn⟩ : ∃ n, l.length = n := ⟨_, rfl⟩
  obtain ⟨bb, hbb⟩ : ∃ b, decide (i ∈ l) = b := ⟨_, rfl⟩
  have HR := Lib.hid hr; have HN := Lib.hid hn; have HBB := Lib.hid hbb
  rw [hbb]
  clear hr hbb
  rw [hn] at HR hlm ⊢
  clear hn
  go_enter Try.func45, Try.ntmps45
  go_wp2_with fail
  go_loopw [5] (fun t wr => ∃ k : Nat, k ≤ n ∧ t = .int .i64 k ∧ Hid (i ∉ l.take k) ∧ Hid (Keep noBlk w wr)) (fun t _ => n - (intOf t).toNat)
  case atStart => exact ⟨0, Nat.zero_le _, rfl, Lib.hid (by simp), Lib.hid (Keep.refl _ _)⟩
  case round =>
  obtain ⟨k, hk, rfl, HT, HK⟩ := hrel
  by_cases hlt : k < n
  · obtain ⟨x, hx⟩ : ∃ x, l[k]? = some x := ⟨l[k]'(by rw [HN.out]; exact hlt), List.getElem?_eq_getElem _⟩
    have hr := HR.out.keep HK.out fun _ _ => id
    rw [← HN.out] at hr
    obtain ⟨p, o, cap, hv, hc⟩ := rd_int hr hx
    have e1 : la = some ⟨p, o, none⟩ := by cases hv; rfl
    subst e1
    have HTX : Hid (l.take (k + 1) = l.take k ++ [x]) := Lib.hid (by rw [List.take_add_one, hx]; rfl)
    have HXI := Lib.hid (List.mem_of_getElem? hx)
    have hki : (k : Int) < (n : Int) := by omega
    have hk0 : (0 : Int) ≤ (k : Int) := by omega
    clear hx hr hv
    by_cases he : x = i
    · subst he
      have hb : bb = true := by rw [← HBB.out]; exact decide_eq_true HXI.out
      subst hb
      go_wp2_with fail
      go_ret
      exact ⟨rfl, HK.out⟩
    · have hd : decide (x = i) = false := decide_eq_false he
      have hbq : (x == i) = false := hd
      have HTE : Hid (i ∉ l.take (k + 1)) := Lib.hid (by rw [HTX.out, List.mem_append, List.mem_singleton]; exact fun h => h.elim HT.out fun e => he e.symm)
      go_wp2_with fail
      go_roundw
      case rel => exact ⟨k + 1, by omega, by go_num, HTE, HK⟩
      case measure => simp [intOf]; omega
  · obtain rfl : k = n := by omega
    have hb : bb = false := by
      rw [← HBB.out]
      have := HT.out
      rw [List.take_of_length_le (by rw [HN.out]; exact Nat.le_refl _)] at this
      exact decide_eq_false this
    subst hb
    go_wp2_with fail
    go_ret
    exact ⟨rfl, HK.out⟩

def tgI (dr : List Int) (out : Bool) (i : Nat) : Bool := decide ((i : Int) ∈ dr) != out
/-- What the holders below k have that are in a list, or that are not. -/
def tgR (hs : List (List Ad)) (dr : List Int) (out : Bool) (k : Nat) : List Ad := (List.range k).flatMap fun i => if tgI dr out i then hs.getD i [] else []
theorem tgR_succ (hs : List (List Ad)) (dr : List Int) (out : Bool) (k : Nat) : tgR hs dr out (k + 1) = tgR hs dr out k ++ if tgI dr out k then hs.getD k [] else [] := by
  unfold tgR
  rw [List.range_succ, List.flatMap_append]
  simp
theorem tgR_len {hs : List (List Ad)} (h : ∀ L ∈ hs, L.length ≤ 100) (dr : List Int) (out : Bool) : ∀ k, (tgR hs dr out k).length ≤ 100 * k
  | 0 => by simp [tgR]
  | k + 1 => by
    have ih := tgR_len h dr out k
    rw [tgR_succ, List.length_append]
    have : (if tgI dr out k then hs.getD k [] else []).length ≤ 100 := by
      split
      · rw [List.getD_eq_getElem?_getD]
        rcases hk : hs[k]? with _ | L
        · simp
        · exact h L (List.mem_of_getElem? hk)
      · simp
    omega
theorem mem_tgR (hs : List (List Ad)) (dr : List Int) (out : Bool) (k : Nat) (a : Ad) : a ∈ tgR hs dr out k ↔ ∃ j, j < k ∧ tgI dr out j = true ∧ ∃ L, hs[j]? = some L ∧ a ∈ L := by
  unfold tgR
  rw [List.mem_flatMap]
  constructor
  · rintro ⟨j, hj, ha⟩
    refine ⟨j, List.mem_range.1 hj, ?_⟩
    split at ha
    · rename_i h
      refine ⟨h, ?_⟩
      rw [List.getD_eq_getElem?_getD] at ha
      rcases hk : hs[j]? with _ | L
      · rw [hk] at ha; simp at ha
      · rw [hk] at ha; exact ⟨L, rfl, ha⟩
    · simp at ha
  · rintro ⟨j, hj, ht, L, hL, ha⟩
    refine ⟨j, List.mem_range.2 hj, ?_⟩
    rw [if_pos ht, List.getD_eq_getElem?_getD, hL]
    exact ha
set_option maxHeartbeats 4000000 in
theorem together_any (w : World) (v vd : Value) (hs : List (List Ad)) (dr : List Int) (out : Bool) (hr : Rows2 w v hs) (h20 : hs.length ≤ 20) (h100 : ∀ L ∈ hs, L.length ≤ 100) (hrd : Rd w 1 vd dr.length (dr.map fun x => .int .i64 x)) :
    Calls Try.prog 43 #[v, vd, .bool out] w (ListPost w (canon (tgR hs dr out hs.length))) := by
  obtain ⟨U, hU⟩ : ∃ U, canon (tgR hs dr out hs.length) = U := ⟨_, rfl⟩
  rw [hU]
  have HUE := Lib.hid hU
  clear hU
  obtain ⟨oa, ca, rfl, hlm⟩ := hr.form
  obtain ⟨n, hn⟩ : ∃ n, hs.length = n := ⟨_, rfl⟩
  obtain ⟨da, dc, rfl, -, -⟩ := hrd.form
  obtain ⟨dn, hdn⟩ : ∃ n, dr.length = n := ⟨_, rfl⟩
  have HN := Lib.hid hn; have HR := Lib.hid hr; have HND := Lib.hid hdn; have HRD := Lib.hid hrd; have H100 := Lib.hid h100
  have HAM := Lib.hid (fun w i (h : Rd w 1 (.slice da dr.length dc) dr.length (dr.map fun x => .int .i64 x)) => among_any w (.slice da dr.length dc) dr i h)
  rw [hn] at HR h20 ⊢
  rw [hdn] at HRD HAM ⊢
  clear hr hrd hdn hlm hn h100
  rw [HN.out] at HUE
  go_enter Try.func43, Try.ntmps43
  go_wp2_with fail
  go_loopw [7, 8] (fun t i wr => ∃ (k m : Nat) (pa : Option Addr) (pc : Nat), k ≤ n ∧ m ≤ 100 * k ∧ i = .int .i64 k ∧ t = .slice pa m pc ∧ Hid ((tgR hs dr out k).length = m) ∧ Hid (wr.ownsRow w.heap.size 25 2 (.slice pa m pc) m (adCells (tgR hs dr out k))) ∧ Hid (Keep noBlk w wr)) (fun _ i _ => n - (intOf i).toNat)
  case atStart => exact ⟨0, 0, none, 0, Nat.zero_le _, Nat.le_refl _, rfl, rfl, Lib.hid rfl, Lib.hid (World.ownsRow_nil _ _ _ _), Lib.hid (Keep.refl _ _)⟩
  case round =>
  obtain ⟨k, m, pa, pc, hk, hmk, rfl, rfl, HM, HO, HK⟩ := hrel
  by_cases hlt : k < n
  · have hki : (k : Int) < (n : Int) := by omega
    have hk0 : (0 : Int) ≤ (k : Int) := by omega
    obtain ⟨L, hL⟩ : ∃ L, hs[k]? = some L := ⟨hs[k]'(by rw [HN.out]; exact hlt), List.getElem?_eq_getElem _⟩
    have hl100 : L.length ≤ 100 := H100.out L (List.mem_of_getElem? hL)
    have HTS : Hid (tgR hs dr out (k + 1) = tgR hs dr out k ++ if tgI dr out k then L else []) := Lib.hid (by rw [tgR_succ, List.getD_eq_getElem?_getD, hL]; rfl)
    have HLE := Lib.hid hL
    obtain ⟨bi, hbi⟩ : ∃ b, decide ((k : Int) ∈ dr) = b := ⟨_, rfl⟩
    obtain ⟨bq, hbq⟩ : ∃ b, tgI dr out k = b := ⟨_, rfl⟩
    have he : ∀ w, (binOp .neq 4 (.bool bi) (.bool out)).run Try.prog w = .ok (.bool bq) w := by
      have h1 : (bi != out) = bq := by rw [← hbi]; exact hbq
      rw [← h1]
      intro w
      cases bi <;> cases out <;> kernel_rfl
    have C := HAM.out wr (k : Int) (HRD.out.keep HK.out fun _ _ => id)
    rw [hbi] at C
    rw [hbq] at HTS
    have C := Lib.hid C
    clear hbi hbq hL
    go_wp2_with fail
    refine C.out.mono ?_
    rintro e w1 ⟨rfl, hk1⟩
    have HO1 := Lib.hid (hk1.owns HO.out fun _ _ => id); have HK1 := Lib.hid (HK.out.trans hk1)
    have hs1 := HK1.out.size
    clear hk1 C
    cases bq
    · rw [if_neg (by decide), List.append_nil] at HTS
      go_wp2_with fail
      go_roundw
      case rel => exact ⟨k + 1, m, _, _, by omega, by omega, by go_num, rfl, Lib.hid (by rw [HTS.out]; exact HM.out), Lib.hid (by rw [HTS.out]; exact HO1.out), HK1⟩
      case measure => simp [intOf]; omega
    · rw [if_pos rfl] at HTS
      have hr2 := HR.out.keep HK1.out
      obtain ⟨g, o, cap, a, c, hv, hcell, hrd⟩ := hr2.at HLE.out
      rw [HN.out] at hv
      have e1 : oa = some ⟨g, o, none⟩ := by cases hv; rfl
      subst e1
      obtain ⟨q, hq⟩ : ∃ q, L.length = q := ⟨_, rfl⟩
      have HQ := Lib.hid hq
      rw [hq] at hcell hrd hl100
      have HRL := Lib.hid hrd
      clear hr2 hv hrd hq
      go_wp2_with (first
        | (at_builtin; refine wpList_append_rd rfl (.tmp 20) (.tmp 24) 30 rfl w.heap.size 25 zeroAd 2 16 Try.underlying30 infoAd rfl (by decide) (.slice pa m pc) m (adCells (tgR hs dr out k)) rfl HO1.out (.slice a q c) q (adCells L) rfl HRL.out (oneCell_ads _) (by unfold maxLen; omega) (by omega) (by omega) ?_
           intro v' w5 ho5 hk5 hn5 hb5
           rw [← adCells_append, ← HTS.out] at ho5
           obtain ⟨va, vc, rfl, -, -⟩ := (Rd.of_owns ho5).form
           have HO5 := Lib.hid ho5
           have HK5 := Lib.hid (HK1.out.trans' hk5 (U := noBlk) (fun _ _ h => h) (fun i hi e => by have := owns_far HO1.out e; omega))
           clear ho5 hk5 hn5 hb5))
      clear hcell
      go_roundw
      case rel => exact ⟨k + 1, m + q, _, _, by omega, by omega, by go_num, rfl, Lib.hid (by rw [HTS.out, List.length_append, HM.out, HQ.out]), HO5, HK5⟩
      case measure => simp [intOf]; omega
  · obtain rfl : k = n := by omega
    have C := rsort_any wr (.slice pa m pc) (tgR hs dr out k) (by rw [HM.out]; exact Rd.of_owns HO.out) (by rw [HM.out]; omega)
    rw [HUE.out] at C
    have C := Lib.hid C
    have hsz := HK.out.size
    go_wp2_with fail
    refine C.out.mono ?_
    rintro e wf ⟨v, rfl, ho, hk2⟩
    obtain ⟨va, vc, rfl, -, -⟩ := (Rd.of_owns ho).form
    have HOF := Lib.hid (ownsRow_mono ho hsz); have HKF := Lib.hid (HK.out.trans hk2)
    clear ho hk2 C
    go_wp2_with fail
    go_ret
    exact ⟨_, rfl, HOF.out, HKF.out⟩

end Go.Proofs.Ytmilgaoilglmjaa
