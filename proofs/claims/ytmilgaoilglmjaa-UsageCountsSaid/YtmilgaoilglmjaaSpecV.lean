/-
  usage.All, Unique, Referenced.
  Conditions: at most 20 holders.
-/
import Derived.Test.YtmilgaoilglmjaaSpecU
namespace Go.Proofs.Ytmilgaoilglmjaa
open Go.RowKit Go.Maps Go.ChangeMaps
set_option maxRecDepth 100000
set_option linter.unusedVariables false

theorem all_some {hs : List (List Ad)} (h64 : hs.length ≤ 64) : canon (hs.flatten.filter fun a => someB (hw hs a)) = canon hs.flatten := canon_congr fun a => by
  rw [List.mem_filter]
  refine ⟨And.left, fun h => ⟨h, ?_⟩⟩
  obtain ⟨L, hL, ha⟩ := List.mem_flatten.1 h
  obtain ⟨j, hj⟩ := List.getElem?_of_mem hL
  have hlt := (List.getElem?_eq_some_iff.1 hj).1
  exact (someB_iff _).2 ⟨j, by omega, (hw_bit hs h64 a j (by omega)).2 ⟨L, hj, ha⟩⟩
set_option maxHeartbeats 4000000 in
theorem all_any (w : World) (v : Value) (hs : List (List Ad)) (ho : ∀ L ∈ hs, AdsOk L) (hr : Rows2 w v hs) (h20 : hs.length ≤ 20) (hF : hs.flatten.length ≤ 60000) : Calls Try.prog 12 #[v] w (ListPost w (canon hs.flatten)) := by
  obtain ⟨U, hU⟩ : ∃ U, canon hs.flatten = U := ⟨_, rfl⟩
  have HUE : Hid (canon (hs.flatten.filter fun a => someB (hw hs a)) = U) := Lib.hid (by rw [all_some (by omega)]; exact hU)
  rw [hU]
  clear hU
  have R := Lib.hid (read_any w v hs ho hr (by omega))
  obtain ⟨oa, ca, rfl, hlm⟩ := hr.form
  obtain ⟨n, hn⟩ : ∃ n, hs.length = n := ⟨_, rfl⟩
  rw [hn] at R ⊢
  clear hr hlm hn
  go_enter Try.func12, Try.ntmps12
  go_wp2_with fail
  refine R.out.mono ?_
  rintro e w3 ⟨b, rfl, ⟨lst, hled, hkeys⟩, hb3, hk3⟩
  have HK3 := Lib.hid hk3
  have hll := led_len hled hkeys hF
  have hce := led_canon (f := hw hs) (w := w3) (b := b) (base := b) hkeys (fun a => someB (hw hs a))
  clear hk3
  go_wp2_with fail
  refine (told_u (thoseB_any w3 b lst (fun a => someB (hw hs a)) hled.map (fun q hq => by obtain ⟨g, h1, -⟩ := hled.word q hq; exact ⟨g, h1⟩) hll (fun w' x g hx hk => ?_)) (hce.trans HUE.out)).mono ?_
  · obtain ⟨g', e1, hw', -⟩ := hled.word _ hx
    have e2 : g' = g := by cases e1; rfl
    subst e2
    exact (bsome_any w' g' _ (hk.blk hw' id)).mono fun e w'' h => ⟨h.1, by rw [h.2]; exact Keep.refl _ _⟩
  rintro e wf ⟨v, rfl, ho2, hk4⟩
  obtain ⟨va, vc, rfl, -, -⟩ := (Rd.of_owns ho2).form
  have HOF := Lib.hid (ownsRow_mono ho2 HK3.out.size); have HKF := Lib.hid (HK3.out.trans hk4)
  clear ho2 hk4 hled hkeys hce hll
  go_wp2_with fail
  go_ret
  exact ⟨_, rfl, HOF.out, HKF.out⟩
set_option maxHeartbeats 4000000 in
theorem unique_any (w : World) (v : Value) (hs : List (List Ad)) (i : Int) (hi : In64 i) (ho : ∀ L ∈ hs, AdsOk L) (hr : Rows2 w v hs) (h20 : hs.length ≤ 20) (hF : hs.flatten.length ≤ 60000) :
    Calls Try.prog 11 #[v, .int .i64 i] w (ListPost w (canon (hs.flatten.filter fun a => subB (hw hs a) (wordOf hs.length [i])))) := by
  obtain ⟨U, hU⟩ : ∃ U, canon (hs.flatten.filter fun a => subB (hw hs a) (wordOf hs.length [i])) = U := ⟨_, rfl⟩
  obtain ⟨w2, hw2, hk2, hb2, hs2⟩ := alloc_facts w #[.int .i64 i] 3
  have C := freed_any w2 v (.slice (some ⟨w.heap.size, 0, none⟩) 1 1) hs [i] ho (hr.keep hk2) h20 hF (rd_blk (n := 1) (size := 1) (vs := [.int .i64 i]) hb2 rfl (by unfold maxLen; omega)) (fun x hx => by rw [List.mem_singleton.1 hx]; exact hi)
  rw [hU] at C ⊢
  have C := Lib.hid C
  obtain ⟨oa, ca, rfl, hlm⟩ := hr.form
  obtain ⟨n, hn⟩ : ∃ n, hs.length = n := ⟨_, rfl⟩
  have HK2 := Lib.hid hk2; have HW2 := Lib.hid hw2
  have hsz := hk2.size
  rw [hn] at C ⊢
  clear hr hlm hn hU hk2 hb2 hs2 hw2
  go_enter Try.func11, Try.ntmps11
  go_wp2_with fail
  rw [HW2.out]
  refine C.out.mono ?_
  rintro e wf ⟨v, rfl, ho2, hk4⟩
  obtain ⟨va, vc, rfl, -, -⟩ := (Rd.of_owns ho2).form
  have HOF := Lib.hid (ownsRow_mono ho2 hsz); have HKF := Lib.hid (HK2.out.trans hk4)
  clear ho2 hk4 C
  go_wp2_with fail
  go_ret
  exact ⟨_, rfl, HOF.out, HKF.out⟩
def RefPost (w : World) (n : Nat) (e : Ending) (w' : World) : Prop := e = .returned (.int .i64 (n : Int)) ∧ Keep noBlk w w'
set_option maxHeartbeats 4000000 in
theorem referenced_any (w : World) (v : Value) (hs : List (List Ad)) (i : Int) (ho : ∀ L ∈ hs, AdsOk L) (hr : Rows2 w v hs) (h20 : hs.length ≤ 20) (hF : hs.flatten.length ≤ 60000) :
    Calls Try.prog 22 #[v, .int .i64 i] w (RefPost w (canon (hs.flatten.filter fun a => refB hs.length i (hw hs a))).length) := by
  obtain ⟨U, hU⟩ : ∃ U, canon (hs.flatten.filter fun a => refB hs.length i (hw hs a)) = U := ⟨_, rfl⟩
  have HUE := Lib.hid hU
  rw [hU]
  clear hU
  obtain ⟨oa, ca, rfl, hlm⟩ := hr.form
  obtain ⟨w2, hw2⟩ : ∃ w2, (w.alloc (.cells #[.slice oa hs.length ca] 22)).alloc (.cells #[.int .i64 i] 3) = w2 := ⟨_, rfl⟩
  have hk2 : Keep noBlk w w2 := by rw [← hw2]; exact ((Keep.refl _ _).alloc _).alloc _
  have HB2 : Hid (w2.heap[w.heap.size]? = some (.cells #[.slice oa hs.length ca] 22 (0, 0))) := Lib.hid (by rw [← hw2]; exact heap_alloc2_old _ _ _)
  have HC2 : Hid (w2.heap[w.heap.size + 1]? = some (.cells #[.int .i64 i] 3 (0, 0))) := Lib.hid (by rw [← hw2]; exact heap_alloc2_new _ _ _)
  have R := Lib.hid (read_any w2 _ hs ho (hr.keep hk2) (by omega))
  obtain ⟨n, hn⟩ : ∃ n, hs.length = n := ⟨_, rfl⟩
  have HN := Lib.hid hn; have HK2 := Lib.hid hk2
  rw [hn] at R HB2 HUE h20 hw2 ⊢
  have hc := blk_cell HB2.out (i := 0) rfl
  clear hr hlm hn hk2
  go_enter Try.func22, Try.ntmps22
  go_wp2_with fail
  clear hw2
  refine R.out.mono ?_
  rintro e w3 ⟨b, rfl, ⟨lst, hled, hkeys⟩, hb3, hk3⟩
  have HB3 := Lib.hid (hk3.blk HB2.out id); have HC3 := Lib.hid (hk3.blk HC2.out id); have HK3 := Lib.hid (HK2.out.trans hk3)
  have hll := led_len hled hkeys hF
  have hce := led_canon (f := hw hs) (w := w3) (b := b) (base := b) hkeys (fun a => refB n i (hw hs a))
  clear hk3 hc
  go_wp2_with fail
  refine (told_u (thoseR_any w3 b lst (fun a => refB n i (hw hs a)) _ _ hled.map (fun q hq => by obtain ⟨g, h1, -⟩ := hled.word q hq; exact ⟨g, h1⟩) hll (fun w' x g hx hk => ?_)) (hce.trans HUE.out)).mono ?_
  · obtain ⟨g', e1, hw', -⟩ := hled.word _ hx
    have e2 : g' = g := by cases e1; rfl
    subst e2
    exact ref1_any w' g' _ _ _ i oa n ca (by omega) (hk.blk hw' id) (hk.blk HC3.out id) (hk.blk HB3.out id)
  rintro e wf ⟨v, rfl, ho2, hk4⟩
  obtain ⟨va, vc, rfl, -, -⟩ := (Rd.of_owns ho2).form
  have HOF := Lib.hid (ownsRow_mono ho2 HK3.out.size); have HKF := Lib.hid (HK3.out.trans hk4)
  clear ho2 hk4 hled hkeys hce hll
  go_wp2_with fail
  go_ret
  exact ⟨rfl, HKF.out⟩

end Go.Proofs.Ytmilgaoilglmjaa
