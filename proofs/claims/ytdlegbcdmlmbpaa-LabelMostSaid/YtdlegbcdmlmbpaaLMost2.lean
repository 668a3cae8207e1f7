/-
  LabelMost: the whole walk: the ways out at once, and what a row hands in.
  Conditions: none but those of the given statement.
-/
import Derived.Test.YtdlegbcdmlmbpaaArgs
import Derived.Test.YtdlegbcdmlmbpaaLMost
namespace Go.Proofs.Ytdlegbcdmlmbpaa
open Go.RowKit
set_option maxRecDepth 100000
set_option linter.unusedVariables false

set_option maxHeartbeats 4000000 in
theorem labelMost_off (w : World) (many : Int) (hlo : -9223372036854775808 ≤ many) (hhi : many ≤ 9223372036854775807) (L : Lab) (hL : L.pool.length = 32) (hm : L.may = false) (ov fv : Value) (oa fa : Option Addr) (on oc fn fc : Nat) (hov : ov = .slice oa on oc) (hfv : fv = .slice fa fn fc) :
    Calls Try.prog 9 #[.int .i64 many, .agg L.cells.toArray, ov, fv] w (FirstPost w) := by
  subst hov hfv
  obtain ⟨lc, hlc⟩ : ∃ lc, L.cells = lc := ⟨_, rfl⟩
  have hlcl : lc.length = 37 := by rw [← hlc]; exact L.cells_length hL
  have CK := Lib.hid (check_keep L hL hlc (n := 2) (by rw [hm]; rfl))
  obtain ⟨w0, hw0, hk0, hb0, hs0⟩ := alloc_facts w lc.toArray 25
  have HK0 := Lib.hid hk0; have HB0 := Lib.hid hb0
  have HSL : Hid ((Try.prog.info? 25).map (·.size) = some lc.length) := Lib.hid (by rw [hlcl]; exact sizeLab)
  rw [hlc]
  clear hlc hlcl hk0 hb0 hs0 hm
  go_enter Try.func9, Try.ntmps9
  go_wp2_with fail
  clear hw0
  refine (awake_any w0).mono ?_
  rintro e w1 ⟨rfl, hk1⟩
  have HK1 := Lib.hid (HK0.out.trans hk1)
  have HB1 := Lib.hid (hk1.blk HB0.out id)
  clear hk1 HK0 HB0
  go_wp2_with fail
  refine (pick_any w1 many 10 (by omega) (by omega) hlo hhi).mono ?_
  rintro e w2 ⟨rfl, rfl⟩
  obtain ⟨r, hr⟩ : ∃ r, many % 10 = r := ⟨_, rfl⟩
  have hr0 : 0 ≤ r ∧ r ≤ 9 := by omega
  rw [hr]
  clear hr
  go_wp2_with (first
    | ((with_reducible show wpList _ _ _ (⟨some 32, .load 25 (.tmp 5), _, _, _, _⟩ :: _) _ _); refine wpList_load_mid rfl 25 (.tmp 5) rfl w.heap.size 0 rfl lc _ (rangeAt_whole HB1.out) Try.underlying25 rfl HSL.out ?_))
  refine (CK.out _).mono ?_
  rintro e w3 ⟨rfl, hk3⟩
  have HK3 := Lib.hid (HK1.out.trans hk3)
  clear hk3
  go_wp2_with fail
  go_ret
  exact ⟨rfl, HK3.out⟩

set_option maxHeartbeats 4000000 in
theorem labelMost_more (w : World) (many : Int) (hlo : -9223372036854775808 ≤ many) (hhi : many ≤ 9223372036854775807) (L : Lab) (hL : L.pool.length = 32) (hm : L.may = true) (ov fv : Value) (oa fa : Option Addr) (on oc fn fc : Nat) (hov : ov = .slice oa on oc) (hfv : fv = .slice fa fn fc) (hon : 1 + many % 10 ≤ (on : Int)) :
    Calls Try.prog 9 #[.int .i64 many, .agg L.cells.toArray, ov, fv] w (FirstPost w) := by
  subst hov hfv
  obtain ⟨lc, hlc⟩ : ∃ lc, L.cells = lc := ⟨_, rfl⟩
  have hlcl : lc.length = 37 := by rw [← hlc]; exact L.cells_length hL
  have CK := Lib.hid (check_keep L hL hlc (n := 0) (by rw [hm]; rfl))
  obtain ⟨w0, hw0, hk0, hb0, hs0⟩ := alloc_facts w lc.toArray 25
  have HK0 := Lib.hid hk0; have HB0 := Lib.hid hb0
  have HSL : Hid ((Try.prog.info? 25).map (·.size) = some lc.length) := Lib.hid (by rw [hlcl]; exact sizeLab)
  have ht : decide (1 + many % 10 ≤ (on : Int)) = true := decide_eq_true hon
  have hr0 : 0 ≤ many % 10 ∧ many % 10 ≤ 9 := by omega
  have HP := Lib.hid (fun w1 => pick_any w1 many 10 (by omega) (by omega) hlo hhi)
  rw [hlc]
  clear hlc hlcl hk0 hb0 hs0 hm hon
  obtain ⟨r, hr⟩ : ∃ r, many % 10 = r := ⟨_, rfl⟩
  rw [hr] at HP ht hr0
  clear hr
  go_enter Try.func9, Try.ntmps9
  go_wp2_with fail
  clear hw0
  refine (awake_any w0).mono ?_
  rintro e w1 ⟨rfl, hk1⟩
  have HK1 := Lib.hid (HK0.out.trans hk1)
  have HB1 := Lib.hid (hk1.blk HB0.out id)
  clear hk1 HK0 HB0
  go_wp2_with fail
  refine (HP.out w1).mono ?_
  rintro e w2 ⟨rfl, rfl⟩
  go_wp2_with (first
    | ((with_reducible show wpList _ _ _ (⟨some 32, .load 25 (.tmp 5), _, _, _, _⟩ :: _) _ _); refine wpList_load_mid rfl 25 (.tmp 5) rfl w.heap.size 0 rfl lc _ (rangeAt_whole HB1.out) Try.underlying25 rfl HSL.out ?_))
  refine (CK.out _).mono ?_
  rintro e w3 ⟨rfl, hk3⟩
  have HK3 := Lib.hid (HK1.out.trans hk3)
  clear hk3
  go_wp2_with fail
  go_ret
  exact ⟨rfl, HK3.out⟩

theorem labelMost_walk (w : World) (many : Int) (hlo : -9223372036854775808 ≤ many) (hhi : many ≤ 9223372036854775807) (L : Lab) (hL : L.pool.length = 32)
    (ov : Value) (others : List Lab) (ho : LabsOk others) (hr : Rd w 37 ov others.length (labCells others)) (fv : Value) (fs : List Bool) (hf : Rd w 1 fv fs.length (fs.map Value.bool)) :
    Calls Try.prog 9 #[.int .i64 many, .agg L.cells.toArray, ov, fv] w (FirstPost w) := by
  obtain ⟨oa, oc, h1, -, -⟩ := hr.form
  obtain ⟨fa, fc, h2, -, -⟩ := hf.form
  rcases hm : L.may with _ | _
  · exact labelMost_off w many hlo hhi L hL hm ov fv _ _ _ _ _ _ h1 h2
  · by_cases hc : 1 + many % 10 ≤ (others.length : Int)
    · exact labelMost_more w many hlo hhi L hL hm ov fv _ _ _ _ _ _ h1 h2 hc
    · exact labelMost_main w many hlo hhi (many % 10).toNat (by omega) (by omega) L hL hm ov others ho hr (by omega) fv fs hf

section
variable {H : Type} {enc : TypeId × Value → H} {w : World} {base : Nat} {spare : Nat → Bool} {held : Bool} {fuel : Nat}
theorem cellsBool : Try.prog.cellsOf 4 = 1 := by kernel_rfl
theorem flat_bool : ∀ l : List Bool, l.flatMap (fun b => [Value.bool b]) = l.map Value.bool
  | [] => rfl
  | b :: l => by rw [List.flatMap_cons, flat_bool l]; rfl
theorem bools_of_trod {a : Option Addr} {len cap : Nat} {x : DataW H × List MemPlace} (h : DataW.trod enc Try.prog w base spare held fuel 49 [.slice a len cap] = some x) :
    ∃ l : List Bool, l.length = len ∧ Rd w 1 (.slice a len cap) len (l.map Value.bool) := by
  obtain ⟨l, h1, -, h3⟩ := rows_of_trod (f := fun b => [Value.bool b]) (ok := fun _ => True) Try.underlying49 cellsBool (by decide) (fun _ _ => rfl) (fun n cs x hx => by
    obtain ⟨b, hb, -⟩ := DataW.trod_bool Try.underlying4 hx
    exact ⟨b, trivial, hb⟩) h
  refine ⟨l, h1, ?_⟩
  rw [← flat_bool]
  exact h3
end
end Go.Proofs.Ytdlegbcdmlmbpaa
