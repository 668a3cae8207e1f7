/-
  usage.Freed, Shared: what some have alone, or together.
  Conditions: at most 20 holders.
-/
import Derived.Test.YtmilgaoilglmjaaThoseU
namespace Go.Proofs.Ytmilgaoilglmjaa
open Go.RowKit Go.Maps Go.ChangeMaps
set_option maxRecDepth 100000
set_option linter.unusedVariables false

theorem rises_nod {l : List Ad} (h : Rises l) : l.Nodup := h.imp fun h => adLt_ne h
theorem perm_nodup {l m : List Ad} (hl : l.Nodup) (hm : m.Nodup) (h : ∀ x, x ∈ l ↔ x ∈ m) : l.Perm m := (List.perm_ext_iff_of_nodup hl hm).2 h
theorem told_u {P : Program} {f : FuncId} {args : Array Value} {w : World} {l l' : List Ad} (h : Calls P f args w (ListPost w l)) (hl : l = l') : Calls P f args w (ListPost w l') := hl ▸ h

def BnoPost (w : World) (e : Ending) (w' : World) : Prop := ∃ a c, e = .returned (.slice a 0 c) ∧ Keep noBlk w w'
set_option maxHeartbeats 4000000 in
theorem bof0_any (w : World) (v : Value) (l : List Int) (hr : Rd w 1 v l.length (l.map fun x => .int .i64 x)) (hI : ∀ x ∈ l, In64 x) : Calls Try.prog 39 #[v, .int .i64 0] w (BnoPost w) := by
  obtain ⟨la, lc, rfl, -, -⟩ := hr.form
  have hlm : l.length ≤ maxLen := by obtain ⟨_, a', c', h1, h2, h3, -⟩ := hr; omega
  unfold maxLen at hlm
  obtain ⟨n, hn⟩ : ∃ n, l.length = n := ⟨_, rfl⟩
  have HR := Lib.hid hr; have HN := Lib.hid hn
  clear hr
  rw [hn] at HR hlm ⊢
  clear hn
  go_enter Try.func39, Try.ntmps39
  go_wp2_with (first
    | ((with_reducible show wpList _ _ _ (⟨_, .makeSlice _ _ _, _, _, _, _⟩ :: _) _ _); refine wpList_make_one rfl (.tmp 10) (.tmp 10) 54 rfl w.heap.size 71 (.int .u64 0) 8 Try.underlying54 infoU64 rfl 0 rfl rfl (by decide) (by unfold maxLen; omega) (Nat.le_refl _) ?_
       intro w2 ho2 hk2
       have HK2 := Lib.hid hk2
       clear ho2 hk2))
  obtain ⟨g, hg⟩ : ∃ g, w.heap.size = g := ⟨_, rfl⟩
  rw [hg]
  clear hg
  go_loopw [14] (fun i wr => ∃ k : Nat, k ≤ n ∧ i = .int .i64 k ∧ Hid (Keep noBlk w wr)) (fun i _ => n - (intOf i).toNat)
  case atStart => exact ⟨0, Nat.zero_le _, rfl, HK2⟩
  case round =>
  obtain ⟨k, hk, rfl, HK⟩ := hrel
  by_cases hlt : k < n
  · obtain ⟨x, hx⟩ : ∃ x, l[k]? = some x := ⟨l[k]'(by rw [HN.out]; exact hlt), List.getElem?_eq_getElem _⟩
    have hr := HR.out.keep HK.out fun _ _ => id
    rw [← HN.out] at hr
    obtain ⟨p, o, cap, hv, hc⟩ := rd_int hr hx
    have e1 : la = some ⟨p, o, none⟩ := by cases hv; rfl
    subst e1
    have hki : (k : Int) < (n : Int) := by omega
    have hk0 : (0 : Int) ≤ (k : Int) := by omega
    clear hx hr hv
    by_cases h0 : 0 ≤ x
    · have hxm : ¬ x < 0 := by omega
      have hxd : decide (x < 0) = false := decide_eq_false hxm
      go_wp2_with fail
      go_roundw
      case rel => exact ⟨k + 1, by omega, by go_num, HK⟩
      case measure => simp [intOf]; omega
    · have hxd : decide (0 ≤ x) = false := decide_eq_false h0
      go_wp2_with fail
      go_roundw
      case rel => exact ⟨k + 1, by omega, by go_num, HK⟩
      case measure => simp [intOf]; omega
  · obtain rfl : k = n := by omega
    go_wp2_with fail
    go_ret
    exact ⟨_, _, rfl, HK.out⟩

set_option maxHeartbeats 2000000 in
theorem freed1_any (w : World) (g B g0 : Nat) (x y : BitVec 64) (hb : Bt w g x) (hg : Bt w g0 y) (hB : w.heap[B]? = some (.cells #[.slice (some ⟨g0, 0, none⟩) 1 1] 54 (0, 0))) :
    Calls Try.prog 40 #[.slice (some ⟨g, 0, none⟩) 1 1, .pointer (some ⟨B, 0, none⟩)] w fun e w' => e = .returned (.bool (subB x y)) ∧ Keep noBlk w w' := by
  have C := Lib.hid (bwithin_any w g g0 x y hb hg)
  have hc := blk_cell hB (i := 0) rfl
  obtain ⟨b, hbb⟩ : ∃ b, subB x y = b := ⟨_, rfl⟩
  rw [hbb] at C ⊢
  clear hb hg hB hbb
  go_enter Try.func40, Try.ntmps40
  go_wp2_with fail
  refine C.out.mono ?_
  rintro e w2 ⟨rfl, hk⟩
  have HK := Lib.hid hk
  clear hk hc C
  go_wp2_with fail
  go_ret
  exact ⟨rfl, HK.out⟩
set_option maxHeartbeats 2000000 in
theorem shared1_any (w : World) (g B g0 : Nat) (x y : BitVec 64) (hb : Bt w g x) (hg : Bt w g0 y) (hB : w.heap[B]? = some (.cells #[.slice (some ⟨g0, 0, none⟩) 1 1] 54 (0, 0))) :
    Calls Try.prog 42 #[.slice (some ⟨g, 0, none⟩) 1 1, .pointer (some ⟨B, 0, none⟩)] w fun e w' => e = .returned (.bool (someB y && subB y x)) ∧ Keep noBlk w w' := by
  have C := Lib.hid (bsome_any w g0 y hg)
  have D := Lib.hid (bwithin_any w g0 g y x hg hb)
  have hc := blk_cell hB (i := 0) rfl
  obtain ⟨b, hbb⟩ : ∃ b, subB y x = b := ⟨_, rfl⟩
  obtain ⟨s, hss⟩ : ∃ b, someB y = b := ⟨_, rfl⟩
  rw [hbb] at D ⊢
  rw [hss] at C ⊢
  clear hb hg hB hbb hss
  cases s
  · go_enter Try.func42, Try.ntmps42
    go_wp2_with fail
    refine C.out.mono ?_
    rintro e w2 ⟨rfl, rfl⟩
    go_wp2_with fail
    go_ret
    exact ⟨rfl, Keep.refl _ _⟩
  · go_enter Try.func42, Try.ntmps42
    go_wp2_with fail
    refine C.out.mono ?_
    rintro e w2 ⟨rfl, rfl⟩
    go_wp2_with fail
    refine D.out.mono ?_
    rintro e w3 ⟨rfl, hk⟩
    have HK := Lib.hid hk
    clear hk hc C D
    go_wp2_with fail
    go_ret
    exact ⟨rfl, HK.out⟩
/-- Has one of them a bit that a number says? -/
def refB (n : Nat) (i : Int) (x : BitVec 64) : Bool := decide (0 ≤ i ∧ i < (n : Int)) && x.getLsbD i.toNat
set_option maxHeartbeats 2000000 in
theorem ref1_any (w : World) (g B C : Nat) (x : BitVec 64) (i : Int) (oa : Option Addr) (n ca : Nat) (h64 : n ≤ 64) (hb : Bt w g x) (hB : w.heap[B]? = some (.cells #[.int .i64 i] 3 (0, 0))) (hC : w.heap[C]? = some (.cells #[.slice oa n ca] 22 (0, 0))) :
    Calls Try.prog 48 #[.slice (some ⟨g, 0, none⟩) 1 1, .pointer (some ⟨B, 0, none⟩), .pointer (some ⟨C, 0, none⟩)] w fun e w' => e = .returned (.bool (refB n i x)) ∧ Keep noBlk w w' := by
  have hc := blk_cell hB (i := 0) rfl
  have hd := blk_cell hC (i := 0) rfl
  by_cases h0 : 0 ≤ i
  · by_cases h1 : i < (n : Int)
    · obtain ⟨j, rfl⟩ : ∃ j : Nat, i = (j : Int) := ⟨i.toNat, by omega⟩
      have D := Lib.hid (bhas_any w g j x hb (by omega))
      have e : refB n (j : Int) x = x.getLsbD j := by unfold refB; rw [decide_eq_true ⟨h0, h1⟩]; simp
      obtain ⟨b, hbb⟩ : ∃ b, x.getLsbD j = b := ⟨_, rfl⟩
      rw [e]
      rw [hbb] at D ⊢
      have hjn : j < n := by omega
      clear hb hB hC hbb e
      go_enter Try.func48, Try.ntmps48
      go_wp2_with fail
      refine D.out.mono ?_
      rintro e w2 ⟨rfl, rfl⟩
      go_wp2_with fail
      go_ret
      exact ⟨rfl, Keep.refl _ _⟩
    · have e : refB n i x = false := by unfold refB; rw [decide_eq_false (fun h => h1 h.2)]; rfl
      rw [e]
      have hd1 : decide (i < (n : Int)) = false := decide_eq_false h1
      clear hb hB hC e
      go_enter Try.func48, Try.ntmps48
      go_wp2_with fail
      go_ret
      exact ⟨rfl, Keep.refl _ _⟩
  · have e : refB n i x = false := by unfold refB; rw [decide_eq_false (fun h => h0 h.1)]; rfl
    rw [e]
    have hd0 : decide (0 ≤ i) = false := decide_eq_false h0
    clear hb hB hC e
    go_enter Try.func48, Try.ntmps48
    go_wp2_with fail
    go_ret
    exact ⟨rfl, Keep.refl _ _⟩

theorem led_len {w : World} {b base : Nat} {lst : List (Ad × Option Nat)} {f : Ad → BitVec 64} {hs : List (List Ad)} (h : Led w b base lst f) (hk : ∀ a, a ∈ lst.map (·.1) ↔ ∃ L ∈ hs, a ∈ L) (hF : hs.flatten.length ≤ 60000) : lst.length ≤ 65536 := by
  have hn := h.map.nodup
  have hp : (canon (lst.map (·.1))).Perm (lst.map (·.1)) := perm_nodup (rises_nod (canon_rises _)) hn fun x => mem_canon
  have e : canon (lst.map (·.1)) = canon hs.flatten := canon_congr fun a => by rw [hk, List.mem_flatten]
  have h1 := hp.length_eq
  rw [e, List.length_map] at h1
  have := canon_len hs.flatten
  omega
theorem led_canon {w : World} {b base : Nat} {lst : List (Ad × Option Nat)} {f : Ad → BitVec 64} {hs : List (List Ad)} (hk : ∀ a, a ∈ lst.map (·.1) ↔ ∃ L ∈ hs, a ∈ L) (p : Ad → Bool) : canon ((lst.map (·.1)).filter p) = canon (hs.flatten.filter p) :=
  canon_congr fun a => by rw [List.mem_filter, List.mem_filter, hk, List.mem_flatten]

set_option maxHeartbeats 4000000 in
theorem freed_any (w : World) (v vd : Value) (hs : List (List Ad)) (dr : List Int) (ho : ∀ L ∈ hs, AdsOk L) (hr : Rows2 w v hs) (h20 : hs.length ≤ 20) (hF : hs.flatten.length ≤ 60000) (hrd : Rd w 1 vd dr.length (dr.map fun x => .int .i64 x)) (hI : ∀ x ∈ dr, In64 x) :
    Calls Try.prog 13 #[v, vd] w (ListPost w (canon (hs.flatten.filter fun a => subB (hw hs a) (wordOf hs.length dr)))) := by
  obtain ⟨U, hU⟩ : ∃ U, canon (hs.flatten.filter fun a => subB (hw hs a) (wordOf hs.length dr)) = U := ⟨_, rfl⟩
  have HUE := Lib.hid hU
  rw [hU]
  clear hU
  obtain ⟨oa, ca, rfl, hlm⟩ := hr.form
  obtain ⟨n, hn⟩ : ∃ n, hs.length = n := ⟨_, rfl⟩
  obtain ⟨da, dc, rfl, -, -⟩ := hrd.form
  obtain ⟨dn, hdn⟩ : ∃ n, dr.length = n := ⟨_, rfl⟩
  have HN := Lib.hid hn; have HR := Lib.hid hr; have HND := Lib.hid hdn; have HRD := Lib.hid hrd
  rw [hn] at HR h20 ⊢
  rw [hdn] at HRD ⊢
  clear hr hrd hdn hlm
  by_cases hz : n = 0
  · subst hz
    have CO := Lib.hid (fun w (h : Rd w 1 (.slice da dn dc) dr.length (dr.map fun x => .int .i64 x)) => bof0_any w (.slice da dn dc) dr h hI)
    go_enter Try.func13, Try.ntmps13
    go_wp2_with fail
    refine (CO.out w (by rw [HND.out]; exact HRD.out)).mono ?_
    rintro e w1 ⟨ga, gc, rfl, hk1⟩
    go_wp2_with fail
    obtain ⟨w2, hw2, hk2, hb2, hs2⟩ := alloc_facts w1 #[.slice ga 0 gc] 54
    rw [hw2]
    have HR2 := Lib.hid ((HR.out.keep hk1).keep hk2); have HK2 := Lib.hid (hk1.trans hk2)
    have HB2 := Lib.hid hb2
    skip
    clear hw2 hs2 hk2 hb2
    refine (read_any w2 _ hs ho HR2.out (by rw [HN.out]; omega)).mono ?_
    rintro e w3 ⟨b, rfl, ⟨lst, hled, hkeys⟩, hb3, hk3⟩
    have HB3 := Lib.hid (hk3.blk HB2.out id); have HK3 := Lib.hid (HK2.out.trans hk3)
    skip
    have hll := led_len hled hkeys hF
    have hce := led_canon (f := hw hs) (w := w3) (b := b) (base := b) hkeys (fun a => subB (hw hs a) (wordOf hs.length dr))
    clear hk1 hk3 
    go_wp2_with fail
    refine (told_u (thoseF_any w3 b lst (fun a => subB (hw hs a) (wordOf hs.length dr)) _ hled.map (fun q hq => by obtain ⟨g, h1, -⟩ := hled.word q hq; exact ⟨g, h1⟩) hll (fun w' x g hx hk => ?_)) (hce.trans HUE.out)).mono ?_
    · exfalso
      obtain ⟨L, hL, -⟩ := (hkeys x).1 (List.mem_map.2 ⟨_, hx, rfl⟩)
      have := List.length_pos_of_mem hL
      omega
    rintro e wf ⟨v, rfl, ho2, hk4⟩
    obtain ⟨va, vc, rfl, -, -⟩ := (Rd.of_owns ho2).form
    have HOF := Lib.hid (ownsRow_mono ho2 HK3.out.size); have HKF := Lib.hid (HK3.out.trans hk4)
    clear ho2 hk4 hled hkeys hce hll
    go_wp2_with fail
    go_ret
    exact ⟨_, rfl, HOF.out, HKF.out⟩
  · have CO := Lib.hid (fun w (h : Rd w 1 (.slice da dn dc) dr.length (dr.map fun x => .int .i64 x)) => bof_any w (.slice da dn dc) dr n h (by omega) (by omega) hI)
    rw [← hn] at CO
    have hnn : hs.length = n := hn
    rw [hnn] at CO
    rw [hn] at HUE
    clear hn hnn
    go_enter Try.func13, Try.ntmps13
    go_wp2_with fail
    refine (CO.out w (by rw [HND.out]; exact HRD.out)).mono ?_
    rintro e w1 ⟨g0, rfl, hb1, hg1, hk1⟩
    go_wp2_with fail
    obtain ⟨w2, hw2, hk2, hb2, hs2⟩ := alloc_facts w1 #[.slice (some ⟨g0, 0, none⟩) 1 1] 54
    rw [hw2]
    have HR2 := Lib.hid ((HR.out.keep hk1).keep hk2); have HK2 := Lib.hid (hk1.trans hk2)
    have HB2 := Lib.hid hb2
    have HG2 := Lib.hid (hk2.blk hb1 id)
    clear hw2 hs2 hk2 hb2
    refine (read_any w2 _ hs ho HR2.out (by rw [HN.out]; omega)).mono ?_
    rintro e w3 ⟨b, rfl, ⟨lst, hled, hkeys⟩, hb3, hk3⟩
    have HB3 := Lib.hid (hk3.blk HB2.out id); have HK3 := Lib.hid (HK2.out.trans hk3)
    have HG3 := Lib.hid (hk3.blk HG2.out id)
    have hll := led_len hled hkeys hF
    have hce := led_canon (f := hw hs) (w := w3) (b := b) (base := b) hkeys (fun a => subB (hw hs a) (wordOf n dr))
    clear hk1 hk3 hb1
    go_wp2_with fail
    refine (told_u (thoseF_any w3 b lst (fun a => subB (hw hs a) (wordOf n dr)) _ hled.map (fun q hq => by obtain ⟨g, h1, -⟩ := hled.word q hq; exact ⟨g, h1⟩) hll (fun w' x g hx hk => ?_)) (hce.trans HUE.out)).mono ?_
    · obtain ⟨g', e1, hw', -⟩ := hled.word _ hx
      have e2 : g' = g := by cases e1; rfl
      subst e2
      exact freed1_any w' g' _ g0 _ _ (hk.blk hw' id) (hk.blk HG3.out id) (hk.blk HB3.out id)
    rintro e wf ⟨v, rfl, ho2, hk4⟩
    obtain ⟨va, vc, rfl, -, -⟩ := (Rd.of_owns ho2).form
    have HOF := Lib.hid (ownsRow_mono ho2 HK3.out.size); have HKF := Lib.hid (HK3.out.trans hk4)
    clear ho2 hk4 hled hkeys hce hll
    go_wp2_with fail
    go_ret
    exact ⟨_, rfl, HOF.out, HKF.out⟩

set_option maxHeartbeats 4000000 in
theorem shared_any (w : World) (v vd : Value) (hs : List (List Ad)) (dr : List Int) (ho : ∀ L ∈ hs, AdsOk L) (hr : Rows2 w v hs) (h20 : hs.length ≤ 20) (hF : hs.flatten.length ≤ 60000) (hrd : Rd w 1 vd dr.length (dr.map fun x => .int .i64 x)) (hI : ∀ x ∈ dr, In64 x) :
    Calls Try.prog 14 #[v, vd] w (ListPost w (canon (hs.flatten.filter fun a => (someB (wordOf hs.length dr) && subB (wordOf hs.length dr) (hw hs a))))) := by
  obtain ⟨U, hU⟩ : ∃ U, canon (hs.flatten.filter fun a => (someB (wordOf hs.length dr) && subB (wordOf hs.length dr) (hw hs a))) = U := ⟨_, rfl⟩
  have HUE := Lib.hid hU
  rw [hU]
  clear hU
  obtain ⟨oa, ca, rfl, hlm⟩ := hr.form
  obtain ⟨n, hn⟩ : ∃ n, hs.length = n := ⟨_, rfl⟩
  obtain ⟨da, dc, rfl, -, -⟩ := hrd.form
  obtain ⟨dn, hdn⟩ : ∃ n, dr.length = n := ⟨_, rfl⟩
  have HN := Lib.hid hn; have HR := Lib.hid hr; have HND := Lib.hid hdn; have HRD := Lib.hid hrd
  rw [hn] at HR h20 ⊢
  rw [hdn] at HRD ⊢
  clear hr hrd hdn hlm
  by_cases hz : n = 0
  · subst hz
    have CO := Lib.hid (fun w (h : Rd w 1 (.slice da dn dc) dr.length (dr.map fun x => .int .i64 x)) => bof0_any w (.slice da dn dc) dr h hI)
    go_enter Try.func14, Try.ntmps14
    go_wp2_with fail
    refine (CO.out w (by rw [HND.out]; exact HRD.out)).mono ?_
    rintro e w1 ⟨ga, gc, rfl, hk1⟩
    go_wp2_with fail
    obtain ⟨w2, hw2, hk2, hb2, hs2⟩ := alloc_facts w1 #[.slice ga 0 gc] 54
    rw [hw2]
    have HR2 := Lib.hid ((HR.out.keep hk1).keep hk2); have HK2 := Lib.hid (hk1.trans hk2)
    have HB2 := Lib.hid hb2
    skip
    clear hw2 hs2 hk2 hb2
    refine (read_any w2 _ hs ho HR2.out (by rw [HN.out]; omega)).mono ?_
    rintro e w3 ⟨b, rfl, ⟨lst, hled, hkeys⟩, hb3, hk3⟩
    have HB3 := Lib.hid (hk3.blk HB2.out id); have HK3 := Lib.hid (HK2.out.trans hk3)
    skip
    have hll := led_len hled hkeys hF
    have hce := led_canon (f := hw hs) (w := w3) (b := b) (base := b) hkeys (fun a => (someB (wordOf hs.length dr) && subB (wordOf hs.length dr) (hw hs a)))
    clear hk1 hk3 
    go_wp2_with fail
    refine (told_u (thoseS_any w3 b lst (fun a => (someB (wordOf hs.length dr) && subB (wordOf hs.length dr) (hw hs a))) _ hled.map (fun q hq => by obtain ⟨g, h1, -⟩ := hled.word q hq; exact ⟨g, h1⟩) hll (fun w' x g hx hk => ?_)) (hce.trans HUE.out)).mono ?_
    · exfalso
      obtain ⟨L, hL, -⟩ := (hkeys x).1 (List.mem_map.2 ⟨_, hx, rfl⟩)
      have := List.length_pos_of_mem hL
      omega
    rintro e wf ⟨v, rfl, ho2, hk4⟩
    obtain ⟨va, vc, rfl, -, -⟩ := (Rd.of_owns ho2).form
    have HOF := Lib.hid (ownsRow_mono ho2 HK3.out.size); have HKF := Lib.hid (HK3.out.trans hk4)
    clear ho2 hk4 hled hkeys hce hll
    go_wp2_with fail
    go_ret
    exact ⟨_, rfl, HOF.out, HKF.out⟩
  · have CO := Lib.hid (fun w (h : Rd w 1 (.slice da dn dc) dr.length (dr.map fun x => .int .i64 x)) => bof_any w (.slice da dn dc) dr n h (by omega) (by omega) hI)
    rw [← hn] at CO
    have hnn : hs.length = n := hn
    rw [hnn] at CO
    rw [hn] at HUE
    clear hn hnn
    go_enter Try.func14, Try.ntmps14
    go_wp2_with fail
    refine (CO.out w (by rw [HND.out]; exact HRD.out)).mono ?_
    rintro e w1 ⟨g0, rfl, hb1, hg1, hk1⟩
    go_wp2_with fail
    obtain ⟨w2, hw2, hk2, hb2, hs2⟩ := alloc_facts w1 #[.slice (some ⟨g0, 0, none⟩) 1 1] 54
    rw [hw2]
    have HR2 := Lib.hid ((HR.out.keep hk1).keep hk2); have HK2 := Lib.hid (hk1.trans hk2)
    have HB2 := Lib.hid hb2
    have HG2 := Lib.hid (hk2.blk hb1 id)
    clear hw2 hs2 hk2 hb2
    refine (read_any w2 _ hs ho HR2.out (by rw [HN.out]; omega)).mono ?_
    rintro e w3 ⟨b, rfl, ⟨lst, hled, hkeys⟩, hb3, hk3⟩
    have HB3 := Lib.hid (hk3.blk HB2.out id); have HK3 := Lib.hid (HK2.out.trans hk3)
    have HG3 := Lib.hid (hk3.blk HG2.out id)
    have hll := led_len hled hkeys hF
    have hce := led_canon (f := hw hs) (w := w3) (b := b) (base := b) hkeys (fun a => (someB (wordOf n dr) && subB (wordOf n dr) (hw hs a)))
    clear hk1 hk3 hb1
    go_wp2_with fail
    refine (told_u (thoseS_any w3 b lst (fun a => (someB (wordOf n dr) && subB (wordOf n dr) (hw hs a))) _ hled.map (fun q hq => by obtain ⟨g, h1, -⟩ := hled.word q hq; exact ⟨g, h1⟩) hll (fun w' x g hx hk => ?_)) (hce.trans HUE.out)).mono ?_
    · obtain ⟨g', e1, hw', -⟩ := hled.word _ hx
      have e2 : g' = g := by cases e1; rfl
      subst e2
      exact shared1_any w' g' _ g0 _ _ (hk.blk hw' id) (hk.blk HG3.out id) (hk.blk HB3.out id)
    rintro e wf ⟨v, rfl, ho2, hk4⟩
    obtain ⟨va, vc, rfl, -, -⟩ := (Rd.of_owns ho2).form
    have HOF := Lib.hid (ownsRow_mono ho2 HK3.out.size); have HKF := Lib.hid (HK3.out.trans hk4)
    clear ho2 hk4 hled hkeys hce hll
    go_wp2_with fail
    go_ret
    exact ⟨_, rfl, HOF.out, HKF.out⟩

end Go.Proofs.Ytmilgaoilglmjaa
